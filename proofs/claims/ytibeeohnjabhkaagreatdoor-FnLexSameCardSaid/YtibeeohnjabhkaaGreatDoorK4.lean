/- Part 4: what the walk of the code stands on. Conditions: none but those that each theorem states. -/
import Derived.Test.YtibeeohnjabhkaaGreatDoorK3
open Go Go.Proofs.YtibeeohnjabhkaaGreatDoor.T
namespace Go.Proofs.YtibeeohnjabhkaaGreatDoor.R
set_option maxHeartbeats 4000000
set_option maxRecDepth 100000
set_option linter.unusedSimpArgs false
set_option linter.unusedVariables false
attribute [local simp] bsV bsRows chunk fillT partsT appV makeV rowsOf cellsOf placeOf

/-- A table of 256 bits. -/
def bitsT (f : Nat → Bool) : List TV := (List.range 256).map fun b => .val (.bool (f b))
@[simp] theorem bitsT_len (f : Nat → Bool) : (bitsT f).length = 256 := by simp [bitsT]
@[simp] theorem bitsT_plain (f : Nat → Bool) : (bitsT f).all TV.plain = true := by simp [bitsT]
@[simp] theorem bitsT_pc (f : Nat → Bool) : (bitsT f).all TV.pc = true := by simp [bitsT]
@[simp] theorem bitsT_noH (f : Nat → Bool) : noHL (bitsT f) = true := by
  unfold bitsT
  induction List.range 256 with
  | nil => rfl
  | cons a l ih => simp [ih]
@[simp] theorem bitsT_take (f : Nat → Bool) : (bitsT f).take 256 = bitsT f := by rw [List.take_of_length_le (by simp)]
theorem bitsT_at {f : Nat → Bool} {i : Nat} (h : i < 256) : (bitsT f)[i]? = some (.val (.bool (f i))) := by simp [bitsT, h]
theorem bitsT_at' {f : Nat → Bool} {i : Nat} (h : i < (bitsT f).length) : (bitsT f)[i] = .val (.bool (f i)) := by simp [bitsT]
theorem bitsT_cut {f : Nat → Bool} {i : Nat} (h : i < 256) : List.take 1 (List.drop i (bitsT f)) = [.val (.bool (f i))] := by
  rw [List.drop_eq_getElem_cons (by simpa using h)]
  simp [bitsT_at']
theorem bitsT_congr {f g : Nat → Bool} (h : ∀ b, b < 256 → f b = g b) : bitsT f = bitsT g := by
  unfold bitsT
  apply List.map_congr_left
  intro b hb
  rw [h b (List.mem_range.1 hb)]
theorem bitsT_put {f : Nat → Bool} {i : Nat} {x : Bool} (h : i < 256) : List.take i (bitsT f) ++ TV.val (.bool x) :: List.drop (i + 1) (bitsT f) = bitsT fun b => if b = i then x else f b := by
  apply List.ext_getElem?
  intro j
  by_cases h1 : j < i
  · rw [List.getElem?_append_left (by simp; omega), List.getElem?_take_of_lt h1, bitsT_at (by omega), bitsT_at (by omega), if_neg (by omega)]
  · rw [List.getElem?_append_right (by simp; omega)]
    have hl : (List.take i (bitsT f)).length = i := by simp; omega
    rw [hl]
    by_cases h2 : j = i
    · subst h2; rw [Nat.sub_self]; rw [bitsT_at h, if_pos rfl]; rfl
    · obtain ⟨d, hd⟩ : ∃ d, j - i = d + 1 := ⟨j - i - 1, by omega⟩
      rw [hd, List.getElem?_cons_succ, List.getElem?_drop, show i + 1 + d = j by omega]
      by_cases h3 : j < 256
      · rw [bitsT_at h3, bitsT_at h3, if_neg h2]
      · rw [List.getElem?_eq_none (by simp; omega), List.getElem?_eq_none (by simp; omega)]
theorem bitsT_false : List.replicate 256 (TV.val (.bool false)) = bitsT fun _ => false := by
  apply List.ext_getElem?
  intro j
  by_cases h : j < 256
  · rw [bitsT_at h, List.getElem?_replicate, if_pos h]
  · rw [List.getElem?_eq_none (by simp; omega), List.getElem?_eq_none (by simp; omega)]
@[simp] theorem bitsT_drop (f : Nat → Bool) : (bitsT f).drop 256 = [] := by rw [List.drop_eq_nil_of_le (by simp)]
@[simp high] theorem zero125 : zeroT Tryz.prog 62 = some (bitsT fun _ => false) := by rw [← bitsT_false]; exact zeroT_62
@[simp] theorem bitsT_closeL {H : Nat → Option TV} (f : Nat → Bool) : closeL H (bitsT f) = some (bitsT f, H) := by
  unfold bitsT
  induction List.range 256 with
  | nil => simp
  | cons a l ih => simp [ih]
@[simp] theorem bitsT_opnL {k : Nat} (f : Nat → Bool) : opnL k (bitsT f) = (bitsT f, []) := by
  unfold bitsT
  induction List.range 256 with
  | nil => simp
  | cons a l ih => simp [ih]
@[simp] theorem bitsT_noRo (f : Nat → Bool) : noRoL (bitsT f) = true := by
  unfold bitsT
  induction List.range 256 with
  | nil => rfl
  | cons a l ih => simp [ih]
theorem tc_bitsOf (p : List (Int × Int)) (hl : p.length ≤ 1152921504606846976) : TC Tryz.prog 34 [.ro (p.map encS)] [] (.agg (bitsT fun b => hasS p b)) [] := by
  refine TC.enter Tryz.func34 rfl (by simp [Tryz.ntmps34]) rfl (tw_sound (ρ := []) ?_)
  rw [Tryz.ntmps34]
  simp
  refine gall_intro fun a ha => ?_
  simp
  refine gall_intro fun c hc => ?_
  have hca : ¬ c = a := fun e => by simp [e] at hc
  have hac : ¬ a = c := fun e => hca e.symm
  simp [hca, hac]
  refine TWcH.loop [] (fun m s => ∃ i : Nat, i + m = 256 ∧ s.σ 0 = .ro (p.map encS) ∧ s.σ 2 = .pd a 0 0 0 ∧ s.σ 3 = .pd c 0 0 0 ∧ s.σ 5 = .val (.int .i64 i) ∧ s.H a = some (.box 62 (bitsT fun _ => false)) ∧ s.H c = some (.box 62 (bitsT fun b => decide (b < i) && hasS p b))) 256 ⟨0, by simp [hca, hac]⟩ ?_
  rintro m ⟨σ, H⟩ ⟨i, him, h0, h2, h3, h5, hA, hC⟩
  simp only at h0 h2 h3 h5 hA hC
  by_cases hi : i < 256
  · have hw : IntKind.i64.wrap ((i : Int) + 1) = i + 1 := wrapi (by omega)
    have hi2 : (i : Int) < 256 := by omega
    simp [h0, h2, h3, h5, hi, hi2]
    refine TWoH.callV (tc_iSetHas p i hl) callable_46 (by simp [h0]) (by simp) (by simp) (by simp) ?_
    have hi3 : i ≤ 255 := by omega
    simp [h0, h2, h3, h5, hi, hi2, hi3, hA, hC, hw, hca, hac, bitsT_put hi]
    refine ⟨m - 1, by omega, i + 1, by omega, by omega, ?_⟩
    apply bitsT_congr
    intro b hb
    by_cases e : b = i
    · subst e; simp
    · simp only [if_neg e]; congr 1; rw [decide_eq_decide]; omega
  · obtain rfl : i = 256 := by omega
    simp [h0, h2, h3, h5, hA, hC, hca, hac]
    apply bitsT_congr
    intro b hb
    simp [hb]
/-- The least byte of a set, or -1. -/
def firstG (f : Nat → Bool) (i : Nat) : Int := match (List.range' i (256 - i)).find? f with
  | some b => b
  | none => -1
def firstS (p : List (Int × Int)) : Int := firstG (fun b => hasS p b) 0
theorem firstG_next {f : Nat → Bool} {i : Nat} (h : i < 256) : firstG f i = if f i = true then (i : Int) else firstG f (i + 1) := by
  unfold firstG
  rw [show 256 - i = (256 - (i + 1)) + 1 by omega, List.range'_succ, List.find?_cons]
  cases f i <;> simp
theorem firstG_end {f : Nat → Bool} : firstG f 256 = -1 := by
  unfold firstG; rfl
def sizeS (p : List (Int × Int)) : Nat := (List.range 256).countP fun (b : Nat) => hasS p b
def sizeB (p : List (Int × Int)) (b : Nat) : Nat := (List.range b).countP fun (b : Nat) => hasS p b
theorem sizeB_succ {p : List (Int × Int)} {b : Nat} : sizeB p (b + 1) = sizeB p b + (if hasS p b = true then 1 else 0) := by
  unfold sizeB; rw [List.range_succ, List.countP_append]; simp [List.countP_cons]
theorem sizeB_le {p : List (Int × Int)} {b : Nat} : sizeB p b ≤ b := by
  unfold sizeB; have := List.countP_le_length (p := fun b : Nat => hasS p b) (l := List.range b); simpa using this
theorem tc_sSetFirst (p : List (Int × Int)) (hl : p.length ≤ 1152921504606846976) : TC Tryz.prog 41 [.ro (p.map encS)] [] (.val (.int .i64 (firstS p))) [] := by
  refine TC.enter Tryz.func41 rfl (by simp [Tryz.ntmps41]) rfl (tw_sound (ρ := []) ?_)
  rw [Tryz.ntmps41]
  simp
  refine TWcH.loop [] (fun m s => ∃ i : Nat, i + m = 256 ∧ s.σ 0 = .ro (p.map encS) ∧ s.σ 3 = .val (.int .i64 i) ∧ firstS p = firstG (fun b => hasS p b) i) 256 ⟨0, by simp [firstS]⟩ ?_
  rintro m ⟨σ, H⟩ ⟨i, him, h0, h3, hh⟩
  simp only at h0 h3
  by_cases hi : i < 256
  · have hw : IntKind.i64.wrap ((i : Int) + 1) = i + 1 := wrapi (by omega)
    have hi2 : (i : Int) < 256 := by omega
    rw [firstG_next hi] at hh
    simp [h0, h3, hi2]
    refine TWoH.callV (tc_sSetHas p i hl) callable_47 (by simp [h0]) (by simp) (by simp) (by simp) ?_
    simp [h0, h3, hi2]
    refine gif_intro (fun c => ?_) (fun c => ?_) <;> simp [h0, h3, hi2, c, hw]
    · rw [hh, if_pos c]
    · exact ⟨m - 1, by omega, i + 1, by omega, by omega, by rw [hh, if_neg c]⟩
  · obtain rfl : i = 256 := by omega
    simp [h0, h3]
    rw [hh, firstG_end]
theorem tc_sSetSize (p : List (Int × Int)) (hl : p.length ≤ 1152921504606846976) : TC Tryz.prog 43 [.ro (p.map encS)] [] (.val (.int .i64 (sizeS p))) [] := by
  refine TC.enter Tryz.func43 rfl (by simp [Tryz.ntmps43]) rfl (tw_sound (ρ := []) ?_)
  rw [Tryz.ntmps43]
  simp
  refine TWcH.loop [] (fun m s => ∃ i : Nat, i + m = 256 ∧ s.σ 0 = .ro (p.map encS) ∧ s.σ 3 = .val (.int .i64 (sizeB p i)) ∧ s.σ 4 = .val (.int .i64 i)) 256 ⟨0, by simp [sizeB]⟩ ?_
  rintro m ⟨σ, H⟩ ⟨i, him, h0, h3, h4⟩
  simp only at h0 h3 h4
  by_cases hi : i < 256
  · have hw : IntKind.i64.wrap ((i : Int) + 1) = i + 1 := wrapi (by omega)
    have hw2 : IntKind.i64.wrap ((sizeB p i : Int) + 1) = sizeB p i + 1 := wrapi (by have := sizeB_le (p := p) (b := i); omega)
    have hi2 : (i : Int) < 256 := by omega
    simp [h0, h3, h4, hi2]
    refine TWoH.callV (tc_sSetHas p i hl) callable_47 (by simp [h0]) (by simp) (by simp) (by simp) ?_
    simp [h0, h3, h4, hi2]
    refine gif_intro (fun c => ?_) (fun c => ?_) <;> simp [h0, h3, h4, hi2, c, hw, hw2]
    · exact ⟨m - 1, by omega, i + 1, by omega, by rw [sizeB_succ, if_pos c]; simp, by omega⟩
    · exact ⟨m - 1, by omega, i + 1, by omega, by rw [sizeB_succ, if_neg c]; simp, by omega⟩
  · obtain rfl : i = 256 := by omega
    simp [h0, h3, h4]
    rfl
def addB (l : List (Int × Int)) (b : Int) : List (Int × Int) := match l.getLast? with
  | some s => if s.2 = b - 1 then l.set (l.length - 1) (s.1, b) else l ++ [(b, b)]
  | none => [(b, b)]
/-- The spans of bytes below b. -/
def spansTo (f : Nat → Bool) : Nat → List (Int × Int)
  | 0 => []
  | b + 1 => if f b = true then addB (spansTo f b) b else spansTo f b
def spansF (f : Nat → Bool) : List (Int × Int) := spansTo f 256
theorem addB_len {l : List (Int × Int)} {b : Int} : (addB l b).length ≤ l.length + 1 ∧ addB l b ≠ [] := by
  unfold addB
  cases h : l.getLast? with
  | none =>
    simp only
    exact ⟨by simp, by simp⟩
  | some s =>
    simp only
    split
    · refine ⟨by simp, fun e => ?_⟩
      have := congrArg List.length e
      simp at this
      subst this; simp at h
    · exact ⟨by simp, by simp⟩
theorem spansTo_len {f : Nat → Bool} : ∀ b, (spansTo f b).length ≤ b
  | 0 => by simp [spansTo]
  | b + 1 => by
    unfold spansTo
    have := spansTo_len (f := f) b
    split
    · have := (addB_len (l := spansTo f b) (b := b)).1; omega
    · omega
theorem spansTo_nil {f : Nat → Bool} : ∀ b, spansTo f b = [] ↔ ∀ i, i < b → f i = false
  | 0 => by simp [spansTo]
  | b + 1 => by
    unfold spansTo
    have ih := spansTo_nil (f := f) b
    by_cases c : f b = true
    · rw [if_pos c]
      constructor
      · intro h; exact ((addB_len (l := spansTo f b) (b := b)).2 h).elim
      · intro h; have := h b (by omega); rw [c] at this; cases this
    · rw [if_neg c, ih]
      constructor
      · intro h i hi
        by_cases e : i = b
        · subst e; simpa using c
        · exact h i (by omega)
      · intro h i hi; exact h i (by omega)
theorem tc_l1Of (f : Nat → Bool) : TC Tryz.prog 51 [.ro ((List.range 256).map fun b => [.val (.bool (f b))])] [] (.own 66 ((spansF f).map encS)) [] := by
  refine TC.enter Tryz.func51 rfl (by simp [Tryz.ntmps51]) rfl (tw_sound (ρ := []) ?_)
  rw [Tryz.ntmps51]
  simp
  refine gall_intro fun id hid => ?_
  simp
  refine TWcH.loop [41] (fun m s => ∃ (i : Nat) (id : Nat), i + m = 256 ∧ s.σ 0 = .ro ((List.range 256).map fun b => [.val (.bool (f b))]) ∧ s.σ 3 = .hd id ∧ s.σ 4 = .val (.int .i64 i) ∧ s.H id = some (.own 66 ((spansTo f i).map encS))) 256 ⟨0, id, by simp [spansTo]⟩ ?_
  rintro m ⟨σ, H⟩ ⟨i, id, him, h0, h3, h4, hH⟩
  simp only at h0 h3 h4 hH
  by_cases hi : i < 256
  · have hw : IntKind.i64.wrap ((i : Int) + 1) = i + 1 := wrapi (by omega)
    have hi2 : (i : Int) < 256 := by omega
    have hlen := spansTo_len (f := f) i
    have hst : spansTo f (i + 1) = if f i = true then addB (spansTo f i) i else spansTo f i := rfl
    rcases List.eq_nil_or_concat (spansTo f i) with e | ⟨l, s, e⟩
    · rw [e] at hH hst
      simp [h0, h3, h4, hi2, hi]
      refine gif_intro (fun c => ?_) (fun c => ?_) <;> simp [h0, h3, h4, hH, hi2, hi, c, hw]
      · rw [if_pos c] at hst
        refine gall_intro fun id' hid' => ?_
        simp [h0, h3, h4, hw]
        exact ⟨m - 1, by omega, i + 1, by omega, by omega, by rw [hst]; simp [addB, encS]⟩
      · refine ⟨m - 1, by omega, i + 1, by omega, ?_⟩
        rw [hst, if_neg (by simpa using c)]
        exact ⟨by omega, rfl⟩
    · rw [e] at hlen
      simp at hlen
      have hl1 : ((l.length : Int) + 1 - 1) = l.length := by omega
      have hwl : IntKind.i64.wrap (l.length : Int) = l.length := wrapi (by omega)
      have hlt : (l.length : Int) < l.length + 1 := by omega
      have hwi : IntKind.i64.wrap ((i : Int) - 1) = (i : Int) - 1 := wrapi (by omega)
      have ha : addB (l ++ [s]) i = if s.2 = (i : Int) - 1 then l ++ [(s.1, (i : Int))] else l ++ [s] ++ [((i : Int), (i : Int))] := by simp [addB]
      rw [e] at hH hst
      simp only [List.concat_eq_append] at hH hst
      rw [ha] at hst
      simp [h0, h3, h4, hi2, hi]
      refine gif_intro (fun c => ?_) (fun c => ?_) <;> simp [h0, h3, h4, hH, hi2, hi, c, hw, hl1, hwl, hwi, hlt, encS]
      · rw [if_pos c] at hst
        refine gif_intro (fun c2 => ?_) (fun c2 => ?_) <;> simp [h0, h3, h4, hH, hi2, hi, c, hw, hl1, hwl, hwi, hlt, c2]
        · refine ⟨m - 1, by omega, i + 1, by omega, ?_⟩
          rw [hst, if_pos c2]
          simp [encS]
        · rw [gif_pos (by omega)]
          refine gall_intro fun id' hid' => ?_
          simp [h0, h3, h4, hw]
          refine ⟨m - 1, by omega, i + 1, by omega, ?_⟩
          rw [hst, if_neg c2]
          simp [encS]
      · refine ⟨m - 1, by omega, i + 1, by omega, ?_⟩
        rw [hst, if_neg (by simpa using c)]
        exact ⟨by omega, by simp [encS]⟩
  · obtain rfl : i = 256 := by omega
    simp [h0, h3, h4, hH, spansF]
@[simp] theorem noHR_mapB (l : List Nat) (g : Nat → Bool) : noHR (l.map fun b => [TV.val (.bool (g b))]) = true := by induction l <;> simp [*]
@[simp] theorem noRoR_mapB (l : List Nat) (g : Nat → Bool) : noRoR (l.map fun b => [TV.val (.bool (g b))]) = true := by induction l <;> simp [*]
@[simp] theorem roRows_mapB (l : List Nat) (g : Nat → Bool) : roRows (l.map fun b => [TV.val (.bool (g b))]) = l.map fun b => [TV.val (.bool (g b))] := by induction l <;> simp [*]
/-- Both sets have it. -/
def meetF (p q : List (Int × Int)) (b : Nat) : Bool := hasS p b && hasS q b
theorem tc_sSetMeet (p q : List (Int × Int)) (hp : p.length ≤ 1152921504606846976) (hq : q.length ≤ 1152921504606846976) (ho : setOk p = true) (ho' : setOk q = true) : TC Tryz.prog 42 [.ro (p.map encS), .ro (q.map encS)] [] (.own 66 ((spansF (meetF p q)).map encS)) [] := by
  refine TC.enter Tryz.func42 rfl (by simp [Tryz.ntmps42]) rfl (tw_sound (ρ := []) ?_)
  rw [Tryz.ntmps42]
  simp
  refine gall_intro fun id hid => ?_
  simp
  refine TWcH.loop [] (fun m s => ∃ (i : Nat), i + m = 256 ∧ s.σ 0 = .ro (p.map encS) ∧ s.σ 1 = .ro (q.map encS) ∧ s.σ 5 = .hd id ∧ s.σ 6 = .val (.int .i64 i) ∧ s.H id = some (.own 4 (mix ((List.range 256).map fun b => [.val (.bool (meetF p q b))]) (List.replicate 256 [.val (.bool false)]) i))) 256 ⟨0, by simp⟩ ?_
  rintro m ⟨σ, H⟩ ⟨i, him, h0, h1, h5, h6, hH⟩
  simp only at h0 h1 h5 h6 hH
  by_cases hi : i < 256
  · have hw : IntKind.i64.wrap ((i : Int) + 1) = i + 1 := wrapi (by omega)
    have hi2 : (i : Int) < 256 := by omega
    have hat := mix_at' (A := (List.range 256).map fun b => [TV.val (.bool (meetF p q b))]) (B := List.replicate 256 [TV.val (.bool false)]) (i := i) (by simp) (by simpa using hi)
    simp only [List.getElem_replicate] at hat
    have hln : (mix ((List.range 256).map fun b => [TV.val (.bool (meetF p q b))]) (List.replicate 256 [TV.val (.bool false)]) i).length = 256 := by rw [mix_len (by simp) (by simp; omega)]; simp
    have hset := mix_set (A := (List.range 256).map fun b => [TV.val (.bool (meetF p q b))]) (B := List.replicate 256 [TV.val (.bool false)]) (i := i) (by simp) (by simpa using hi) (x := [TV.val (.bool (meetF p q i))]) (by simp [hi])
    generalize hM : mix ((List.range 256).map fun b => [TV.val (.bool (meetF p q b))]) (List.replicate 256 [TV.val (.bool false)]) i = M at hH hat hln hset
    simp [h0, h1, h5, h6, hi2]
    refine TWoH.callV (tc_sSetHas p i hp) callable_47 (by simp [h0]) (by simp) (by simp) (by simp) ?_
    simp [h0, h1, h5, h6, hi2]
    refine gif_intro (fun c => ?_) (fun c => ?_) <;> simp [h0, h1, h5, h6, hi2, c]
    · refine TWoH.callV (tc_sSetHas q i hq) callable_47 (by simp [h1]) (by simp) (by simp) (by simp) ?_
      have hm : meetF p q i = hasS q i := by simp [meetF, c]
      rw [hm] at hset
      simp [h0, h1, h5, h6, hi2, hH, hat, hln, hset, c, hi, hw]
      exact ⟨m - 1, by omega, i + 1, by omega, by omega, rfl⟩
    · have hm : meetF p q i = false := by simp [meetF, c]
      rw [hm] at hset
      simp [h0, h1, h5, h6, hi2, hH, hat, hln, hset, c, hi, hw]
      exact ⟨m - 1, by omega, i + 1, by omega, by omega, rfl⟩
  · obtain rfl : i = 256 := by omega
    rw [mix_all (by simp) (by simp)] at hH
    simp [h0, h1, h5, h6, hH]
    refine TWoH.callV (tc_sSetOk p hp) callable_40 (by simp [h0]) (by simp) (by simp) (by simp) ?_
    simp [h0, h1, h5, h6, hH, ho]
    refine TWoH.callV (tc_sSetOk q hq) callable_40 (by simp [h1]) (by simp) (by simp) (by simp) ?_
    simp [h0, h1, h5, h6, hH, ho, ho']
    refine TWoH.call (tc_l1Of (meetF p q)) callable_51 (by simp [h5, hH]) (by simp) (by simp) fun k hk => ?_
    simp
end Go.Proofs.YtibeeohnjabhkaaGreatDoor.R

open Go Go.Proofs.YtibeeohnjabhkaaGreatDoor.T
namespace Go.Proofs.YtibeeohnjabhkaaGreatDoor.R
set_option maxHeartbeats 4000000
set_option maxRecDepth 100000
set_option linter.unusedSimpArgs false
set_option linter.unusedVariables false
attribute [local simp] bsV bsRows chunk fillT partsT appV makeV rowsOf cellsOf placeOf

def pt (ps : List (List (Int × Int))) (k : Nat) : List (Int × Int) := (ps[k]?).getD []
theorem pt_eq {ps : List (List (Int × Int))} {k : Nat} (h : k < ps.length) : pt ps k = ps[k] := by simp [pt, getI h]
def anyHas (ps : List (List (Int × Int))) (i b : Nat) : Bool := (List.range i).any fun k => hasS (pt ps k) b
theorem anyHas_succ {ps : List (List (Int × Int))} {i b : Nat} : anyHas ps (i + 1) b = (anyHas ps i b || hasS (pt ps i) b) := by
  unfold anyHas; rw [List.range_succ, List.any_append]; simp
def disjB (ps : List (List (Int × Int))) (i : Nat) (b : Nat) : Bool := !(hasS (pt ps i) b && anyHas ps i b)
def disjFrom (ps : List (List (Int × Int))) (i b : Nat) : Bool := (List.range' b (256 - b)).all (disjB ps i)
theorem disjFrom_next {ps : List (List (Int × Int))} {i b : Nat} (h : b < 256) : disjFrom ps i b = (disjB ps i b && disjFrom ps i (b + 1)) := by
  unfold disjFrom
  rw [show 256 - b = (256 - (b + 1)) + 1 by omega, List.range'_succ, List.all_cons]
theorem disjFrom_end {ps : List (List (Int × Int))} {i : Nat} : disjFrom ps i 256 = true := by unfold disjFrom; rfl
def headAt (ps : List (List (Int × Int))) (i : Nat) : Bool := setOk (pt ps i) && !(pt ps i).isEmpty && (decide (i = 0) || decide (firstS (pt ps (i - 1)) < firstS (pt ps i)))
def partAt (ps : List (List (Int × Int))) (i : Nat) : Bool := headAt ps i && disjFrom ps i 0
def partsFrom (ps : List (List (Int × Int))) (i : Nat) : Bool := (List.range' i (ps.length - i)).all (partAt ps)
theorem partsFrom_next {ps : List (List (Int × Int))} {i : Nat} (h : i < ps.length) : partsFrom ps i = (partAt ps i && partsFrom ps (i + 1)) := by
  unfold partsFrom
  rw [show ps.length - i = (ps.length - (i + 1)) + 1 by omega, List.range'_succ, List.all_cons]
theorem partsFrom_end {ps : List (List (Int × Int))} : partsFrom ps ps.length = true := by unfold partsFrom; simp
def sizeTo (ps : List (List (Int × Int))) (i : Nat) : Nat := ((List.range i).map fun k => sizeS (pt ps k)).sum
theorem sizeTo_succ {ps : List (List (Int × Int))} {i : Nat} : sizeTo ps (i + 1) = sizeTo ps i + sizeS (pt ps i) := by
  unfold sizeTo; rw [List.range_succ]; simp
theorem sizeS_le {p : List (Int × Int)} : sizeS p ≤ 256 := sizeB_le (p := p) (b := 256)
theorem sizeTo_le {ps : List (List (Int × Int))} : ∀ i, sizeTo ps i ≤ 256 * i
  | 0 => by simp [sizeTo]
  | i + 1 => by rw [sizeTo_succ]; have := sizeTo_le (ps := ps) i; have := sizeS_le (p := pt ps i); omega
def partsOk (ps : List (List (Int × Int))) : Bool := partsFrom ps 0 && decide (sizeTo ps ps.length = 256)
def meetsFrom (ps : List (List (Int × Int))) (i k : Nat) : Bool := (List.range' k (i - k)).all fun j => decide (spansF (meetF (pt ps i) (pt ps j)) = [])
theorem meetsFrom_next {ps : List (List (Int × Int))} {i k : Nat} (h : k < i) : meetsFrom ps i k = (decide (spansF (meetF (pt ps i) (pt ps k)) = []) && meetsFrom ps i (k + 1)) := by
  unfold meetsFrom
  rw [show i - k = (i - (k + 1)) + 1 by omega, List.range'_succ, List.all_cons]
theorem meetsFrom_end {ps : List (List (Int × Int))} {i : Nat} : meetsFrom ps i i = true := by unfold meetsFrom; simp
theorem meets_disj (ps : List (List (Int × Int))) (i : Nat) : meetsFrom ps i 0 = disjFrom ps i 0 := by
  rw [Bool.eq_iff_iff]
  unfold meetsFrom disjFrom
  simp only [List.all_eq_true, List.mem_range'_1, decide_eq_true_eq]
  constructor
  · intro h b hb
    unfold disjB
    rw [Bool.not_eq_true', Bool.and_eq_false_iff]
    by_cases c : hasS (pt ps i) b = true
    · right
      rw [anyHas, List.any_eq_false]
      intro k hk
      have hk' := List.mem_range.1 hk
      have := (spansTo_nil 256).1 (h k (by omega)) b (by omega)
      simp only [meetF, c, Bool.true_and] at this
      simp [this]
    · left; simpa using c
  · intro h k hk
    refine (spansTo_nil 256).2 fun b hb => ?_
    have := h b (by omega)
    unfold disjB at this
    rw [Bool.not_eq_true', Bool.and_eq_false_iff] at this
    unfold meetF
    rcases this with h1 | h1
    · simp [h1]
    · rw [anyHas, List.any_eq_false] at h1
      have := h1 k (List.mem_range.2 (by omega))
      simp only [Bool.not_eq_true] at this
      simp [this]
theorem tc_l7Parts (ps : List (List (Int × Int))) (hl : ps.length ≤ 1048576) (hs : ∀ x ∈ ps, x.length ≤ 1048576) : TC Tryz.prog 25 [.ro (ps.map encP)] [] (.val (.bool (partsOk ps))) [] := by
  refine TC.enter Tryz.func25 rfl (by simp [Tryz.ntmps25]) rfl (tw_sound (ρ := []) ?_)
  rw [Tryz.ntmps25]
  simp
  refine TWcH.loop [] (fun m s => ∃ i : Nat, i + m = ps.length ∧ s.σ 0 = .ro (ps.map encP) ∧ s.σ 3 = .val (.int .i64 (sizeTo ps i)) ∧ s.σ 4 = .val (.int .i64 i) ∧ (∀ k, k < i → setOk (pt ps k) = true) ∧ partsFrom ps 0 = partsFrom ps i) ps.length ⟨0, by simp [sizeTo]⟩ ?_
  rintro m ⟨σ, H⟩ ⟨i, him, h0, h3, h4, hso, hh⟩
  simp only at h0 h3 h4
  by_cases hi : i < ps.length
  · have hw : IntKind.i64.wrap ((i : Int) + 1) = i + 1 := wrapi (by omega)
    have hwn : IntKind.i64.wrap ((sizeTo ps i : Int) + sizeS (pt ps i)) = sizeTo ps (i + 1) := by
      rw [sizeTo_succ, wrapi (by have := sizeTo_le (ps := ps) i; have := sizeS_le (p := pt ps i); omega)]; simp
    have hpl : (pt ps i).length ≤ 1152921504606846976 := by rw [pt_eq hi]; have := hs _ (List.getElem_mem hi); omega
    have hpi := pt_eq hi
    rw [partsFrom_next hi] at hh
    simp [h0, h3, h4, hi]
    refine TWcH.midB (ρ := []) (fun s => s.σ 0 = .ro (ps.map encP) ∧ s.σ 3 = .val (.int .i64 (sizeTo ps i)) ∧ s.σ 4 = .val (.int .i64 i) ∧ s.σ 43 = .val (.bool (!headAt ps i)))
      (.first 0 (.first 1 (.first 2 (.pick 3 (.pick 4 (.first 5 (.first 6 (.first 7 (.first 8 (.first 9 (.pick 10 (.first 11 (.first 12 (.first 13 (.first 14 (.first 15 (.first 16 (.first 17 (.first 18 (.first 19 (.first 20 (.first 23 (.first 24 (.first 25 (.first 26 (.pick 21 (.pick 22 (.pick 27 (.pick 28 (.first 29 (.first 30 (.first 31 .fin))) .fin) .fin) (.pick 27 (.pick 22 (.pick 28 (.first 29 (.first 30 (.first 31 .fin))) .fin) .fin) .fin)) (.pick 27 (.pick 21 (.pick 22 (.pick 28 (.first 29 (.first 30 (.first 31 .fin))) .fin) .fin) .fin) .fin)))))))))))))))) .fin)))))) .fin) .fin)))) mixed (by kernel_rfl) ?_ ?_
    · have hpi' : ∀ h, ps[i]'h = pt ps i := fun _ => hpi.symm
      simp [h0, h3, h4, hi, encP, hpi']
      refine TWoH.callV (tc_sSetOk (pt ps i) hpl) callable_40 (by simp) (by simp) (by simp) (by simp) ?_
      have hwm : IntKind.i64.wrap ((i : Int) - 1) = (i : Int) - 1 := wrapi (by omega)
      cases c1 : setOk (pt ps i)
      · simp [h0, h3, h4, hi, headAt, c1]
      cases c2 : pt ps i with
      | nil => simp [h0, h3, h4, hi, headAt, c1, c2, encP, hpi']
      | cons x xs =>
        rw [← c2]
        have hne : ¬ pt ps i = [] := by rw [c2]; simp
        have hne' : (pt ps i).isEmpty = false := by rw [c2]; rfl
        by_cases c3 : i = 0
        · subst c3
          simp [h0, h3, h4, hi, headAt, c1, hne, hne', encP, hpi']
        · have hlt : (0 : Int) < i := by omega
          have hi1 : i - 1 < ps.length := by omega
          have hnn : ((i : Int) - 1).toNat = i - 1 := by omega
          have hge : (0 : Int) ≤ (i : Int) - 1 := by omega
          have hpq : ∀ h, ps[i - 1]'h = pt ps (i - 1) := fun _ => (pt_eq hi1).symm
          have hql : (pt ps (i - 1)).length ≤ 1152921504606846976 := by rw [pt_eq hi1]; have := hs _ (List.getElem_mem hi1); omega
          have hlt0 : 0 < i := by omega
          have h1le : (1 : Int) ≤ i := by omega
          have hc1 := tc_sSetFirst (pt ps i) hpl
          have hc2 := tc_sSetFirst (pt ps (i - 1)) hql
          simp [h0, h3, h4, hi, headAt, c1, hne, hne', encP, hpi', hlt, hlt0, hwm, hnn, hge, hi1, hpq, c3, h1le]
          have hdec : decide (firstS (pt ps i) ≤ firstS (pt ps (i - 1))) = !decide (firstS (pt ps (i - 1)) < firstS (pt ps i)) := by rw [← decide_not]; simp
          repeat' (first
            | exact hdec
            | (refine And.intro ?_ ?_)
            | (refine TWoH.callV hc1 callable_41 ?ha (by simp) (by simp) (by simp) ?_; (case ha => simp; done); simp [h0, h3, h4, hi, headAt, c1, hne, hne', encP, hpi', hlt, hlt0, hwm, hnn, hge, hi1, hpq, c3, h1le])
            | (refine TWoH.callV hc2 callable_41 ?ha (by simp) (by simp) (by simp) ?_; (case ha => simp; done); simp [h0, h3, h4, hi, headAt, c1, hne, hne', encP, hpi', hlt, hlt0, hwm, hnn, hge, hi1, hpq, c3, h1le]))
    · rintro ⟨σ, H⟩ ⟨g0, g3, g4, g43⟩
      simp only at g0 g3 g4 g43
      simp [g0, g3, g4, g43]
      refine gif_intro (fun c1 => ?_) (fun c1 => ?_) <;> simp [g0, g3, g4, c1]
      case refine_2 => rw [partsOk, hh, partAt, Bool.eq_false_iff.2 c1]; simp
      rw [partAt, c1, Bool.true_and, ← meets_disj] at hh
      have hso1 : setOk (pt ps i) = true := by simp only [headAt, Bool.and_eq_true] at c1; exact c1.1.1
      refine TWcH.loop [] (fun m' s => ∃ k : Nat, k + m' = i ∧ s.σ 0 = .ro (ps.map encP) ∧ s.σ 3 = .val (.int .i64 (sizeTo ps i)) ∧ s.σ 4 = .val (.int .i64 i) ∧ s.σ 5 = .val (.int .i64 k) ∧ meetsFrom ps i 0 = meetsFrom ps i k) i ⟨0, by simp [g0, g3, g4]⟩ ?_
      rintro m' ⟨σ, H⟩ ⟨k, hkm, f0, f3, f4, f5, ff⟩
      simp only at f0 f3 f4 f5
      by_cases hk : k < i
      · have hkl : k < ps.length := by omega
        have hwk : IntKind.i64.wrap ((k : Int) + 1) = k + 1 := wrapi (by omega)
        have hpi' : ∀ h, ps[i]'h = pt ps i := fun _ => hpi.symm
        have hpk : ∀ h, ps[k]'h = pt ps k := fun _ => (pt_eq hkl).symm
        have hkll : (pt ps k).length ≤ 1152921504606846976 := by rw [pt_eq hkl]; have := hs _ (List.getElem_mem hkl); omega
        rw [meetsFrom_next hk] at ff
        simp [f0, f3, f4, f5, hk]
        refine TWcH.regionD (ρ := []) [0, 1, 2, 3, 4, 5, 6, 7, 8, 9, 10] 11 mixed (by kernel_rfl) ?_
        simp [f0, f3, f4, f5, hk, hi, hkl, encP, hpi', hpk]
        refine TWqH.call (tc_sSetMeet (pt ps i) (pt ps k) hpl hkll hso1 (hso k hk)) callable_42 (by simp) (by simp) (by simp) fun q hq => ?_
        have hsl := spansTo_len (f := meetF (pt ps i) (pt ps k)) 256
        simp [f0, f3, f4, f5, hk, hi, hkl]
        by_cases c2 : spansF (meetF (pt ps i) (pt ps k)) = []
        · simp [c2, f0, f3, f4, f5, hwk]
          exact ⟨m' - 1, by omega, k + 1, by omega, by omega, by rw [ff]; simp [c2]⟩
        · have : 0 < (spansF (meetF (pt ps i) (pt ps k))).length := List.length_pos_iff.2 c2
          simp [c2, f0, f3, f4, f5, this]
          rw [partsOk, hh, ff]; simp [c2]
      · obtain rfl : k = i := by omega
        have hpi' : ∀ h, ps[k]'h = pt ps k := fun _ => hpi.symm
        simp [f0, f3, f4, f5, hi, encP, hpi']
        refine TWoH.callV (tc_sSetSize (pt ps k) hpl) callable_43 (by simp) (by simp) (by simp) (by simp) ?_
        simp [f0, f3, f4, f5, hwn, hw]
        refine ⟨m - 1, by omega, k + 1, by omega, by simp, by omega, ?_, by rw [hh, ff, meetsFrom_end]; simp⟩
        intro j hj
        by_cases e : j = k
        · rw [e]; exact hso1
        · exact hso j (by omega)
  · obtain rfl : i = ps.length := by omega
    simp [h0, h3, h4]
    rw [partsOk, hh, partsFrom_end, Bool.true_and, decide_eq_decide]
    omega
end Go.Proofs.YtibeeohnjabhkaaGreatDoor.R

open Go Go.Proofs.YtibeeohnjabhkaaGreatDoor.T
namespace Go.Proofs.YtibeeohnjabhkaaGreatDoor.R
set_option maxHeartbeats 4000000
set_option maxRecDepth 100000
set_option linter.unusedSimpArgs false
set_option linter.unusedVariables false
attribute [local simp] bsV bsRows chunk fillT partsT appV makeV rowsOf cellsOf placeOf

def rw_ (d : Dfa) (i : Nat) : List Int := (d.rows[i]?).getD []
def ac_ (d : Dfa) (i : Nat) : Int := (d.acc[i]?).getD 0
theorem rw_eq {d : Dfa} {i : Nat} (h : i < d.rows.length) : rw_ d i = d.rows[i] := by simp [rw_, getI h]
theorem ac_eq {d : Dfa} {i : Nat} (h : i < d.acc.length) : ac_ d i = d.acc[i] := by simp [ac_, getI h]
def entOk (d : Dfa) (s : Int) : Bool := decide (-1 ≤ s) && decide (s < d.rows.length)
def rowAt (d : Dfa) (i : Nat) : Bool := decide ((rw_ d i).length = d.parts.length) && decide (-1 ≤ ac_ d i) && decide (ac_ d i < 5) && (rw_ d i).all (entOk d)
def rowsFrom (d : Dfa) (i : Nat) : Bool := (List.range' i (d.rows.length - i)).all (rowAt d)
theorem rowsFrom_next {d : Dfa} {i : Nat} (h : i < d.rows.length) : rowsFrom d i = (rowAt d i && rowsFrom d (i + 1)) := by
  unfold rowsFrom
  rw [show d.rows.length - i = (d.rows.length - (i + 1)) + 1 by omega, List.range'_succ, List.all_cons]
theorem rowsFrom_end {d : Dfa} : rowsFrom d d.rows.length = true := by unfold rowsFrom; simp
def dfaOk (d : Dfa) : Bool := partsOk d.parts && decide (1 ≤ d.rows.length) && decide (d.rows.length ≤ 40) && decide (d.acc.length = d.rows.length) && rowsFrom d 0
theorem allDrop {α : Type _} {l : List α} {f : α → Bool} {k : Nat} (h : k < l.length) : (l.drop k).all f = (f l[k] && (l.drop (k + 1)).all f) := by
  conv => lhs; rw [List.drop_eq_getElem_cons h]
  rw [List.all_cons]
theorem tc_sDfaOk (d : Dfa) (hs : DSm d) : TC Tryz.prog 13 [.agg (encDfa d)] [] (.val (.bool (dfaOk d))) [] := by
  refine TC.enter Tryz.func13 rfl (by simp [Tryz.ntmps13]) rfl (tw_sound (ρ := [1]) ?_)
  rw [Tryz.ntmps13]
  simp [encDfa]
  refine TWoH.callV (tc_l7Parts d.parts hs.parts hs.part) callable_25 (by simp) (by simp) (by simp) (by simp) ?_
  simp
  refine gif_intro (fun c1 => ?_) (fun c1 => ?_) <;> simp [c1]
  case refine_2 => simp [dfaOk, c1]
  refine gif_intro (fun c2 => ?_) (fun c2 => ?_) <;> simp [c1, c2]
  · have : ¬ 1 ≤ d.rows.length := by omega
    simp [dfaOk, this]
  have c2' : (1 : Int) ≤ d.rows.length := by omega
  refine gif_intro (fun c3 => ?_) (fun c3 => ?_) <;> simp [c1, c2, c3]
  · have : ¬ d.rows.length ≤ 40 := by omega
    simp [dfaOk, this]
  refine gif_intro (fun c4 => ?_) (fun c4 => ?_) <;> simp [c1, c2, c3, c4]
  case refine_2 =>
    have : ¬ d.acc.length = d.rows.length := by omega
    simp [dfaOk, this]
  have hal : d.acc.length = d.rows.length := by omega
  have hr : dfaOk d = rowsFrom d 0 := by
    have h40 : d.rows.length ≤ 40 := by omega
    have h1 : 1 ≤ d.rows.length := by omega
    simp [dfaOk, c1, h40, h1, hal]
  rw [hr]
  refine TWcH.loop [] (fun m s => ∃ i : Nat, i + m = d.rows.length ∧ s.σ 1 = .rptr [.ro (d.parts.map encP), .ro (d.rows.map encR), .ro (d.acc.map encI)] 0 ∧ s.σ 3 = .val (.int .i64 i) ∧ rowsFrom d 0 = rowsFrom d i) d.rows.length ⟨0, by simp⟩ ?_
  rintro m ⟨σ, H⟩ ⟨i, him, h1, h3, hh⟩
  simp only at h1 h3
  by_cases hi : i < d.rows.length
  · have hw : IntKind.i64.wrap ((i : Int) + 1) = i + 1 := wrapi (by omega)
    have hia : i < d.acc.length := by omega
    have hpi : ∀ h, d.rows[i]'h = rw_ d i := fun _ => (rw_eq hi).symm
    have hpa : ∀ h, d.acc[i]'h = ac_ d i := fun _ => (ac_eq hia).symm
    rw [rowsFrom_next hi] at hh
    simp [h1, h3, hi]
    refine TWcH.regionD (ρ := []) [0, 1, 2, 3, 4, 5, 6, 7, 8, 9, 10, 11, 12, 13, 14, 15, 16, 17, 18, 19, 20, 21, 22, 23, 24, 25] 26 mixed (by kernel_rfl) ?_
    simp [h1, h3, hi, hia, hpi, hpa, encR, encI]
    by_cases d1 : (rw_ d i).length = d.parts.length
    case neg =>
      have d1' : ¬ ((rw_ d i).length : Int) = d.parts.length := by omega
      simp [h1, h3, hi, hia, hpi, hpa, encR, encI, d1, d1']
      rw [hh]; simp [rowAt, d1]
    simp [h1, h3, hi, hia, hpi, hpa, encR, encI, d1]
    by_cases d2 : ac_ d i < -1
    · simp [h1, h3, hi, hia, hpi, hpa, encR, encI, d2]
      have d2' : ¬ -1 ≤ ac_ d i := by omega
      rw [hh]; simp [rowAt, d2']
    simp [h1, h3, hi, hia, hpi, hpa, encR, encI, d2]
    by_cases d3 : 5 ≤ ac_ d i
    · simp [h1, h3, hi, hia, hpi, hpa, encR, encI, d3]
      have d3' : ¬ ac_ d i < 5 := by omega
      rw [hh]; simp [rowAt, d3']
    simp [h1, h3, hi, hia, hpi, hpa, encR, encI, d3]
    have hrow : rowAt d i = (rw_ d i).all (entOk d) := by
      have e2 : -1 ≤ ac_ d i := by omega
      have e3 : ac_ d i < 5 := by omega
      simp [rowAt, d1, e2, e3]
    rw [hrow] at hh
    have hwr : (d.rows.length : Int) ≤ 40 := by omega
    have hrl : (rw_ d i).length ≤ 1048576 := by rw [rw_eq hi]; exact hs.row _ (List.getElem_mem hi)
    refine TWcH.loop [] (fun m' s => ∃ k : Nat, k + m' = (rw_ d i).length ∧ s.σ 1 = .rptr [.ro (d.parts.map encP), .ro (d.rows.map encR), .ro (d.acc.map encI)] 0 ∧ s.σ 3 = .val (.int .i64 i) ∧ s.σ 4 = .val (.int .i64 k) ∧ (rw_ d i).all (entOk d) = ((rw_ d i).drop k).all (entOk d)) (rw_ d i).length ⟨0, by simp [h1, h3]⟩ ?_
    rintro m' ⟨σ, H⟩ ⟨k, hkm, g1, g3, g4, gg⟩
    simp only at g1 g3 g4
    by_cases hk : k < (rw_ d i).length
    · have hwk : IntKind.i64.wrap ((k : Int) + 1) = k + 1 := wrapi (by omega)
      rw [allDrop hk] at gg
      simp [g1, g3, g4, hi, hpi, encR, encI, hk]
      refine TWcH.regionD (ρ := []) [0, 1, 2, 3, 4, 5, 6, 7, 8, 9, 10, 11, 12, 13, 14, 15, 16, 17, 18, 19, 20, 21, 22] 23 mixed (by kernel_rfl) ?_
      simp [g1, g3, g4, hi, hpi, encR, encI, hk]
      by_cases e1 : (rw_ d i)[k] < -1
      · have e1' : ¬ -1 ≤ (rw_ d i)[k] := by omega
        simp [g1, g3, g4, hi, hpi, encR, encI, hk, e1]
        rw [hh, gg]; simp [entOk, e1']
      have e1' : -1 ≤ (rw_ d i)[k] := by omega
      simp [g1, g3, g4, hi, hpi, encR, encI, hk, e1]
      by_cases e2 : (d.rows.length : Int) ≤ (rw_ d i)[k]
      · have e2' : ¬ (rw_ d i)[k] < d.rows.length := by omega
        simp [g1, g3, g4, hi, hpi, encR, encI, hk, e2]
        rw [hh, gg]; simp [entOk, e2']
      have e2' : (rw_ d i)[k] < d.rows.length := by omega
      simp [g1, g3, g4, hi, hpi, encR, encI, hk, e2, hwk]
      exact ⟨m' - 1, by omega, k + 1, by omega, by omega, by rw [gg]; simp [entOk, e1', e2']⟩
    · obtain rfl : k = (rw_ d i).length := by omega
      simp [g1, g3, g4, hi, hpi, encR, encI, hw]
      exact ⟨m - 1, by omega, i + 1, by omega, by omega, by rw [hh, gg]; simp⟩
  · obtain rfl : i = d.rows.length := by omega
    simp [h1, h3]
    rw [hh, rowsFrom_end]
theorem setOk_first {x : Int × Int} {xs : List (Int × Int)} (h : setOk (x :: xs) = true) : 0 ≤ x.1 ∧ x.1 ≤ x.2 ∧ x.2 ≤ 255 := by
  simp only [setOk, setOkP, okX, Bool.and_eq_true, decide_eq_true_eq] at h
  exact ⟨h.1.1, h.1.2.2.1, h.1.2.1⟩
theorem setOkP_low : ∀ (l : List (Int × Int)) (q b : Int), setOkP (some q) l = true → b ≤ q → hasS l b = false
  | [], q, b, h, hb => by simp [hasS]
  | x :: l, q, b, h, hb => by
    simp only [setOkP, okX, Bool.and_eq_true, decide_eq_true_eq] at h
    have h1 := h.1.2.2.2 q rfl
    have := setOkP_low l x.2 b h.2 (by omega)
    simp only [hasS, List.any_cons] at this ⊢
    rw [this]
    simp; omega
theorem firstG_at {f : Nat → Bool} : ∀ (n i k : Nat), k = i + n → k < 256 → f k = true → (∀ j, i ≤ j → j < k → f j = false) → firstG f i = k
  | 0, i, k, e, hk, h1, h2 => by
    obtain rfl : k = i := by omega
    rw [firstG_next hk, if_pos h1]
  | n + 1, i, k, e, hk, h1, h2 => by
    rw [firstG_next (by omega), if_neg (by rw [h2 i (by omega) (by omega)]; simp)]
    exact firstG_at n (i + 1) k (by omega) hk h1 fun j a b => h2 j (by omega) b
theorem firstS_head {x : Int × Int} {xs : List (Int × Int)} (h : setOk (x :: xs) = true) : firstS (x :: xs) = x.1 := by
  obtain ⟨a1, a2, a3⟩ := setOk_first h
  have e : (x.1.toNat : Int) = x.1 := by omega
  have hx : setOkP (some x.2) xs = true := by simp only [setOk, setOkP, Bool.and_eq_true] at h; exact h.2
  have := firstG_at (f := fun b => hasS (x :: xs) b) x.1.toNat 0 x.1.toNat (by omega) (by omega) (by simp [hasS]; left; omega) (fun j _ hj => by
    have := setOkP_low xs x.2 j hx (by omega)
    simp only [hasS, List.any_cons] at this ⊢
    rw [this]; simp; omega)
  rw [firstS, this, e]
def lastOf (ps : List (List (Int × Int))) (i : Nat) : Int := if i = 0 then -1 else firstS (pt ps (i - 1))
theorem tc_iDfaOk (d : Dfa) (hs : DSm d) : TC Tryz.prog 16 [.agg (encDfa d)] [] (.val (.bool (dfaOk d))) [] := by
  refine TC.enter Tryz.func16 rfl (by simp [Tryz.ntmps16]) rfl (tw_sound (ρ := [1]) ?_)
  rw [Tryz.ntmps16]
  simp [encDfa]
  refine gall_intro fun a ha => ?_
  simp
  refine TWcH.loop [] (fun m s => ∃ i : Nat, i + m = d.parts.length ∧ s.σ 1 = .rptr [.ro (d.parts.map encP), .ro (d.rows.map encR), .ro (d.acc.map encI)] 0 ∧ s.σ 3 = .pd a 0 0 0 ∧ s.H a = some (.box 62 (bitsT (anyHas d.parts i))) ∧ s.σ 4 = .val (.int .i64 (lastOf d.parts i)) ∧ s.σ 5 = .val (.int .i64 (sizeTo d.parts i)) ∧ s.σ 15 = .ro (d.parts.map encP) ∧ s.σ 16 = .val (.int .i64 d.parts.length) ∧ s.σ 17 = .val (.int .i64 i) ∧ partsFrom d.parts 0 = partsFrom d.parts i) d.parts.length ⟨0, by simp [lastOf, sizeTo]; exact bitsT_congr fun b hb => by simp [anyHas]⟩ ?_
  rintro m ⟨σ, H⟩ ⟨i, him, h1, h3, hH, h4, h5, h15, h16, h17, hh⟩
  simp only at h1 h3 hH h4 h5 h15 h16 h17
  have hpl := hs.parts
  by_cases hi : i < d.parts.length
  · have hw : IntKind.i64.wrap ((i : Int) + 1) = i + 1 := wrapi (by omega)
    have hp' : ∀ h, d.parts[i]'h = pt d.parts i := fun _ => (pt_eq hi).symm
    have hpln : (pt d.parts i).length ≤ 1152921504606846976 := by rw [pt_eq hi]; have := hs.part _ (List.getElem_mem hi); omega
    rw [partsFrom_next hi] at hh
    simp [h1, h3, hH, h4, h5, h15, h16, h17, hi, hp', encP]
    refine TWoH.callV (tc_iSetOk (pt d.parts i) hpln) callable_33 (by simp) (by simp) (by simp) (by simp) ?_
    cases c1 : setOk (pt d.parts i)
    · simp [h1, h3, hH, h4, h5, h15, h16, h17, hi]
      simp [dfaOk, partsOk, hh, partAt, headAt, c1]
    cases c2 : pt d.parts i with
    | nil =>
      simp [h1, h3, hH, h4, h5, h15, h16, h17, hi]
      simp [dfaOk, partsOk, hh, partAt, headAt, c2]
    | cons x xs =>
    have hne : ¬ pt d.parts i = [] := by rw [c2]; simp
    have hfx : firstS (pt d.parts i) = x.1 := by rw [c2] at c1 ⊢; exact firstS_head c1
    have hx0 := (setOk_first (by rw [← c2]; exact c1)).1
    have hxl : ¬ ((xs.length : Int) + 1 = 0) := by omega
    simp [h1, h3, hH, h4, h5, h15, h16, h17, hi, encS, hxl]
    by_cases c3 : x.1 ≤ lastOf d.parts i
    · simp [h1, h3, hH, h4, h5, h15, h16, h17, hi, c3]
      have : headAt d.parts i = false := by
        unfold lastOf at c3
        split at c3
        · omega
        · rename_i h0
          have : ¬ firstS (pt d.parts (i - 1)) < firstS (pt d.parts i) := by omega
          simp [headAt, this, h0]
      simp [dfaOk, partsOk, hh, partAt, this]
    have hhd : headAt d.parts i = true := by
      unfold lastOf at c3
      split at c3
      · rename_i h0; subst h0; simp [headAt, c1, hne]
      · rename_i h0
        have : firstS (pt d.parts (i - 1)) < firstS (pt d.parts i) := by omega
        simp [headAt, this, c1, hne]
    rw [partAt, hhd, Bool.true_and] at hh
    simp [h1, h3, hH, h4, h5, h15, h16, h17, hi, c3, encS]
    have hbo := tc_bitsOf (pt d.parts i) hpln
    rw [c2] at hbo
    refine TWoH.callV hbo callable_34 (by simp [encS]) (by simp) (by simp) (by simp) ?_
    rw [← c2]
    simp [h1, h3, hH, h4, h5, h15, h16, h17, hi, c3, encS]
    have hlast : x.1 = lastOf d.parts (i + 1) := by simp [lastOf, hfx]
    have hsz := sizeTo_le (ps := d.parts) i
    refine TWcH.loop [] (fun m' s => ∃ b : Nat, b + m' = 256 ∧ s.σ 1 = .rptr [.ro (d.parts.map encP), .ro (d.rows.map encR), .ro (d.acc.map encI)] 0 ∧ s.σ 3 = .pd a 0 0 0 ∧ s.H a = some (.box 62 (bitsT fun b' => anyHas d.parts i b' || (decide (b' < b) && hasS (pt d.parts i) b'))) ∧ s.σ 4 = .val (.int .i64 x.1) ∧ s.σ 5 = .val (.int .i64 (sizeTo d.parts i + sizeB (pt d.parts i) b : Nat)) ∧ s.σ 15 = .ro (d.parts.map encP) ∧ s.σ 16 = .val (.int .i64 d.parts.length) ∧ s.σ 17 = .val (.int .i64 i) ∧ s.σ 42 = .agg (bitsT fun b => hasS (pt d.parts i) b) ∧ s.σ 43 = .val (.int .i64 b) ∧ disjFrom d.parts i 0 = disjFrom d.parts i b) 256 ⟨0, by simp [h1, h3, hH, h4, h5, h15, h16, h17, sizeB]⟩ ?_
    rintro m' ⟨σ, H⟩ ⟨b, hbm, g1, g3, gH, g4, g5, g15, g16, g17, g42, g43, gg⟩
    simp only at g1 g3 gH g4 g5 g15 g16 g17 g42 g43
    by_cases hb : b < 256
    · have hwb : IntKind.i64.wrap ((b : Int) + 1) = b + 1 := wrapi (by omega)
      have hb2 : (b : Int) < 256 := by omega
      have hb3 : b ≤ 255 := by omega
      have hsb := sizeB_le (p := pt d.parts i) (b := b)
      have hws : IntKind.i64.wrap (((sizeTo d.parts i + sizeB (pt d.parts i) b : Nat) : Int) + 1) = ((sizeTo d.parts i + sizeB (pt d.parts i) b + 1 : Nat) : Int) := by rw [wrapi (by omega)]; simp
      rw [disjFrom_next hb] at gg
      simp only [Int.natCast_add] at hws g5
      simp [g1, g3, gH, g4, g5, g15, g16, g17, g42, g43, hb2, bitsT_at hb, partTV]
      cases c4 : hasS (pt d.parts i) b
      · simp [g1, g3, gH, g4, g5, g15, g16, g17, g42, g43, hb2, hwb]
        refine ⟨m' - 1, by omega, b + 1, by omega, ?_, by rw [sizeB_succ, c4]; simp, by omega, by rw [gg]; simp [disjB, c4]⟩
        apply bitsT_congr
        intro j hj
        by_cases e : j = b
        · subst e; simp [c4]
        · have : (j < b) = (j < b + 1) := by rw [eq_iff_iff]; omega
          simp [this]
      · simp [g1, g3, gH, g4, g5, g15, g16, g17, g42, g43, hb2, hwb, hb3, bitsT_cut hb]
        cases c5 : anyHas d.parts i b
        · simp [g1, g3, gH, g4, g5, g15, g16, g17, g42, g43, hb2, hb3, hwb, hws, bitsT_put hb]
          refine ⟨m' - 1, by omega, b + 1, by omega, ?_, by rw [sizeB_succ, c4]; simp; omega, by omega, by rw [gg]; simp [disjB, c4, c5]⟩
          apply bitsT_congr
          intro j hj
          by_cases e : j = b
          · subst e; simp [c4]
          · have : (j < b) = (j < b + 1) := by rw [eq_iff_iff]; omega
            simp [this, e]
        · simp [g1, g3, gH, g4, g5, g15, g16, g17, g42, g43, hb2, hb3, hwb]
          simp [dfaOk, partsOk, hh, gg, disjB, c4, c5]
    · obtain rfl : b = 256 := by omega
      simp [g1, g3, gH, g4, g5, g15, g16, g17, g42, g43, hw]
      refine ⟨m - 1, by omega, i + 1, by omega, ?_, hlast, by rw [sizeTo_succ]; rfl, by omega, by rw [hh, gg, disjFrom_end]; simp⟩
      apply bitsT_congr
      intro j hj
      simp [hj, anyHas_succ]
  · obtain rfl : i = d.parts.length := by omega
    rw [partsFrom_end] at hh
    have hlast : sizeTo d.parts d.parts.length ≤ 256 * 1048576 := by have := sizeTo_le (ps := d.parts) d.parts.length; omega
    simp [h1, h3, hH, h4, h5, h15, h16, h17]
    by_cases c1 : sizeTo d.parts d.parts.length = 256
    case neg =>
      have c1' : ¬ ((sizeTo d.parts d.parts.length : Nat) : Int) = 256 := by omega
      simp [h1, h3, hH, h4, h5, h15, h16, h17, c1, c1']
      simp [dfaOk, partsOk, c1]
    have c1' : ((sizeTo d.parts d.parts.length : Nat) : Int) = 256 := by omega
    have hp : partsOk d.parts = true := by simp [partsOk, hh, c1]
    simp [h1, h3, hH, h4, h5, h15, h16, h17, c1, c1']
    refine TWoH.callV (tc_in d.rows.length 1 40) callable_26 (by simp) (by simp) (by simp) (by simp) ?_
    simp
    by_cases c2a : (1 : Int) ≤ d.rows.length
    case neg =>
      have c2n : (d.rows.length : Int) < 1 := by omega
      simp [h1, h3, hH, h4, h5, h15, h16, h17, c2a, c2n]
      simp only [dfaOk, hp, Bool.true_and]
      rw [decide_eq_false (show ¬ 1 ≤ d.rows.length by omega)]; rfl
    by_cases c2b : (d.rows.length : Int) ≤ 40
    case neg =>
      have c2n : (40 : Int) < d.rows.length := by omega
      simp [h1, h3, hH, h4, h5, h15, h16, h17, c2a, c2b, c2n]
      simp only [dfaOk, hp, Bool.true_and]
      rw [decide_eq_false (show ¬ d.rows.length ≤ 40 by omega), Bool.and_false]; rfl
    have c2 : (1 : Int) ≤ d.rows.length ∧ (d.rows.length : Int) ≤ 40 := ⟨c2a, c2b⟩
    simp [h1, h3, hH, h4, h5, h15, h16, h17, c2.1, c2.2]
    refine gif_intro (fun c4 => ?_) (fun c4 => ?_) <;> simp [h1, c4]
    case refine_2 =>
      have : ¬ d.acc.length = d.rows.length := by omega
      simp [dfaOk, this]
    have hal : d.acc.length = d.rows.length := by omega
    have hr : dfaOk d = rowsFrom d 0 := by
      have h40 : d.rows.length ≤ 40 := by omega
      have h1 : 1 ≤ d.rows.length := by omega
      simp [dfaOk, hp, h40, h1, hal]
    rw [hr]
    refine TWcH.loop [] (fun m s => ∃ i : Nat, i + m = d.rows.length ∧ s.σ 1 = .rptr [.ro (d.parts.map encP), .ro (d.rows.map encR), .ro (d.acc.map encI)] 0 ∧ s.σ 79 = .ro (d.rows.map encR) ∧ s.σ 80 = .val (.int .i64 d.rows.length) ∧ s.σ 81 = .val (.int .i64 i) ∧ rowsFrom d 0 = rowsFrom d i) d.rows.length ⟨0, by simp [h1]⟩ ?_
    rintro m ⟨σ, H⟩ ⟨i, him, g1, g79, g80, g81, gg⟩
    simp only at g1 g79 g80 g81
    by_cases hi : i < d.rows.length
    · have hw : IntKind.i64.wrap ((i : Int) + 1) = i + 1 := wrapi (by omega)
      have hia : i < d.acc.length := by omega
      have hpi : ∀ h, d.rows[i]'h = rw_ d i := fun _ => (rw_eq hi).symm
      have hpa : ∀ h, d.acc[i]'h = ac_ d i := fun _ => (ac_eq hia).symm
      rw [rowsFrom_next hi] at gg
      simp [g1, g79, g80, g81, hi, hia, hpi, hpa, encR, encI]
      by_cases d1 : (rw_ d i).length = d.parts.length
      case neg =>
        have d1' : ¬ ((rw_ d i).length : Int) = d.parts.length := by omega
        simp [g1, g79, g80, g81, hi, hia, hpi, hpa, encR, encI, d1, d1']
        rw [gg]; simp [rowAt, d1]
      simp [g1, g79, g80, g81, hi, hia, hpi, hpa, encR, encI, d1]
      refine TWoH.callV (tc_in (ac_ d i) (-1) 4) callable_26 (by simp) (by simp) (by simp) (by simp) ?_
      simp
      by_cases d2a : -1 ≤ ac_ d i
      case neg =>
        have d2n : ac_ d i < -1 := by omega
        simp [g1, g79, g80, g81, hi, d2a, d2n]
        rw [gg, rowAt, decide_eq_false d2a]; simp
      by_cases d2b : ac_ d i ≤ 4
      case neg =>
        have d2n : 4 < ac_ d i := by omega
        simp [g1, g79, g80, g81, hi, d2a, d2b, d2n]
        rw [gg, rowAt, decide_eq_false (show ¬ ac_ d i < 5 by omega)]; simp
      have d2 : -1 ≤ ac_ d i ∧ ac_ d i ≤ 4 := ⟨d2a, d2b⟩
      have d2x : ¬ ac_ d i < -1 := by omega
      have d2y : ¬ 4 < ac_ d i := by omega
      simp [g1, g79, g80, g81, hi, d2x, d2y]
      have hrow : rowAt d i = (rw_ d i).all (entOk d) := by
        have e2 : -1 ≤ ac_ d i := d2.1
        have e3 : ac_ d i < 5 := by omega
        simp [rowAt, d1, e2, e3]
      rw [hrow] at gg
      have hrl : (rw_ d i).length ≤ 1048576 := by rw [rw_eq hi]; exact hs.row _ (List.getElem_mem hi)
      refine TWcH.loop [] (fun m' s => ∃ k : Nat, k + m' = (rw_ d i).length ∧ s.σ 1 = .rptr [.ro (d.parts.map encP), .ro (d.rows.map encR), .ro (d.acc.map encI)] 0 ∧ s.σ 79 = .ro (d.rows.map encR) ∧ s.σ 80 = .val (.int .i64 d.rows.length) ∧ s.σ 81 = .val (.int .i64 i) ∧ s.σ 101 = .ro ((rw_ d i).map encI) ∧ s.σ 102 = .val (.int .i64 (rw_ d i).length) ∧ s.σ 103 = .val (.int .i64 k) ∧ (rw_ d i).all (entOk d) = ((rw_ d i).drop k).all (entOk d)) (rw_ d i).length ⟨0, by simp [g1, g79, g80, g81, d1, encI]⟩ ?_
      rintro m' ⟨σ, H⟩ ⟨k, hkm, f1, f79, f80, f81, f101, f102, f103, ff⟩
      simp only at f1 f79 f80 f81 f101 f102 f103
      by_cases hk : k < (rw_ d i).length
      · have hwk : IntKind.i64.wrap ((k : Int) + 1) = k + 1 := wrapi (by omega)
        have hwr : IntKind.i64.wrap ((d.rows.length : Int) - 1) = d.rows.length - 1 := wrapi (by omega)
        rw [allDrop hk] at ff
        simp [f1, f79, f80, f81, f101, f102, f103, hk, encI, hwr]
        refine TWoH.callV (tc_in (rw_ d i)[k] (-1) ((d.rows.length : Int) - 1)) callable_26 (by simp) (by simp) (by simp) (by simp) ?_
        simp
        by_cases e1a : -1 ≤ (rw_ d i)[k]
        case neg =>
          have e1n : (rw_ d i)[k] < -1 := by omega
          simp [f1, f79, f80, f81, f101, f102, f103, e1a, e1n]
          rw [gg, ff, entOk, decide_eq_false e1a]; simp
        by_cases e1b : (rw_ d i)[k] ≤ (d.rows.length : Int) - 1
        case neg =>
          have e1n : (d.rows.length : Int) - 1 < (rw_ d i)[k] := by omega
          simp [f1, f79, f80, f81, f101, f102, f103, e1a, e1b, e1n]
          rw [gg, ff, entOk, decide_eq_false (show ¬ (rw_ d i)[k] < d.rows.length by omega)]; simp
        have e1 : -1 ≤ (rw_ d i)[k] ∧ (rw_ d i)[k] ≤ (d.rows.length : Int) - 1 := ⟨e1a, e1b⟩
        have e1x : ¬ (rw_ d i)[k] < -1 := by omega
        have e1y : ¬ (d.rows.length : Int) - 1 < (rw_ d i)[k] := by omega
        simp [f1, f79, f80, f81, f101, f102, f103, e1x, e1y, hwk]
        have e3 : (rw_ d i)[k] < d.rows.length := by omega
        exact ⟨m' - 1, by omega, k + 1, by omega, by omega, by rw [ff]; simp [entOk, e1.1, e3]⟩
      · obtain rfl : k = (rw_ d i).length := by omega
        simp [f1, f79, f80, f81, f101, f102, f103, hw]
        exact ⟨m - 1, by omega, i + 1, by omega, by omega, by rw [gg, ff]; simp⟩
    · obtain rfl : i = d.rows.length := by omega
      simp [g1, g79, g80, g81]
      rw [gg, rowsFrom_end]
end Go.Proofs.YtibeeohnjabhkaaGreatDoor.R

open Go Go.Proofs.YtibeeohnjabhkaaGreatDoor.T
namespace Go.Proofs.YtibeeohnjabhkaaGreatDoor.R
set_option maxHeartbeats 4000000
set_option maxRecDepth 100000
set_option linter.unusedSimpArgs false
set_option linter.unusedVariables false
attribute [local simp] bsV bsRows chunk fillT partsT appV makeV rowsOf cellsOf placeOf

/-- What a right machine is. -/
structure DOk (d : Dfa) : Prop where
  parts : partsOk d.parts = true
  one : 1 ≤ d.rows.length
  most : d.rows.length ≤ 40
  acc : d.acc.length = d.rows.length
  row : ∀ i, i < d.rows.length → (rw_ d i).length = d.parts.length
  low : ∀ i, i < d.rows.length → -1 ≤ ac_ d i
  high : ∀ i, i < d.rows.length → ac_ d i < 5
  ent : ∀ i, i < d.rows.length → ∀ t ∈ rw_ d i, -1 ≤ t ∧ t < d.rows.length
theorem dok_of {d : Dfa} (h : dfaOk d = true) : DOk d := by
  simp only [dfaOk, Bool.and_eq_true, decide_eq_true_eq] at h
  obtain ⟨⟨⟨⟨h1, h2⟩, h3⟩, h4⟩, h5⟩ := h
  have key : ∀ i, i < d.rows.length → rowAt d i = true := by
    intro i hi
    unfold rowsFrom at h5
    rw [List.all_eq_true] at h5
    exact h5 i (by rw [List.mem_range'_1]; omega)
  simp only [rowAt, Bool.and_eq_true, decide_eq_true_eq, List.all_eq_true, entOk] at key
  exact ⟨h1, h2, h3, h4, fun i hi => (key i hi).1.1.1, fun i hi => (key i hi).1.1.2, fun i hi => (key i hi).1.2, fun i hi => (key i hi).2⟩
inductive Live (d : Dfa) : Nat → Prop
  | acc (s : Nat) (hs : s < d.rows.length) (h : 0 ≤ ac_ d s) : Live d s
  | step (s : Nat) (hs : s < d.rows.length) (t : Int) (ht : t ∈ rw_ d s) (h0 : 0 ≤ t) (h : Live d t.toNat) : Live d s
def lv (bl : List Bool) (s : Nat) : Bool := (bl[s]?).getD false
theorem lv_eq {bl : List Bool} {s : Nat} (h : s < bl.length) : lv bl s = bl[s] := by simp [lv, getI h]
theorem lv_set {bl : List Bool} {s j : Nat} {x : Bool} : lv (bl.set s x) j = if s = j ∧ s < bl.length then x else lv bl j := by
  unfold lv
  rw [List.getElem?_set]
  by_cases e : s = j
  · subst e
    by_cases h : s < bl.length
    · simp [h]
    · simp [h]
  · simp [e]
def isT (bl : List Bool) (t : Int) : Bool := decide (0 ≤ t) && lv bl t.toNat
def isL (d : Dfa) (bl : List Bool) (s : Nat) : Bool := decide (0 ≤ ac_ d s) || (rw_ d s).any (isT bl)
structure IsLive (d : Dfa) (bl : List Bool) : Prop where
  len : bl.length = d.rows.length
  iff : ∀ s, s < d.rows.length → (lv bl s = true ↔ Live d s)
def SoundL (d : Dfa) (bl : List Bool) : Prop := ∀ s, lv bl s = true → Live d s
def ClosedL (d : Dfa) (bl : List Bool) : Prop := ∀ s, s < d.rows.length → isL d bl s = true → lv bl s = true
theorem live_lt {d : Dfa} {s : Nat} (h : Live d s) : s < d.rows.length := by cases h <;> assumption
theorem isLive_of {d : Dfa} {bl : List Bool} (hl : bl.length = d.rows.length) (h1 : SoundL d bl) (h2 : ClosedL d bl) : IsLive d bl := by
  refine ⟨hl, fun s hs => ⟨h1 s, fun h => ?_⟩⟩
  induction h with
  | acc s hs h => exact h2 s hs (by simp [isL, h])
  | step s hs t ht h0 h ih =>
    refine h2 s hs ?_
    have := ih (live_lt h)
    simp only [isL, Bool.or_eq_true, List.any_eq_true]
    right
    exact ⟨t, ht, by simp [isT, h0, this]⟩
theorem isLive_uniq {d : Dfa} {a b : List Bool} (ha : IsLive d a) (hb : IsLive d b) : a = b := by
  apply List.ext_getElem (by rw [ha.len, hb.len])
  intro i h1 h2
  have h := ha.len
  have e1 := ha.iff i (by omega)
  have e2 := hb.iff i (by omega)
  rw [lv_eq h1] at e1
  rw [lv_eq h2] at e2
  rw [Bool.eq_iff_iff, e1, e2]
theorem isLive_ex (d : Dfa) : ∃ bl, IsLive d bl := by
  refine ⟨(List.range d.rows.length).map fun s => @decide (Live d s) (Classical.propDecidable _), by simp, fun s hs => ?_⟩
  simp [lv, hs]
theorem sound_step {d : Dfa} {bl : List Bool} {s : Nat} (h : SoundL d bl) (hs : s < d.rows.length) (hi : isL d bl s = true) : Live d s := by
  simp only [isL, Bool.or_eq_true, decide_eq_true_eq, List.any_eq_true, isT, Bool.and_eq_true] at hi
  rcases hi with hi | ⟨t, ht, h0, hv⟩
  · exact .acc s hs hi
  · exact .step s hs t ht h0 (h _ hv)
theorem sound_set {d : Dfa} {bl : List Bool} {s : Nat} (h : SoundL d bl) (hs : Live d s) : SoundL d (bl.set s true) := by
  intro j hj
  rw [lv_set] at hj
  split at hj
  · rename_i e; rw [← e.1]; exact hs
  · exact h j hj
def falses (bl : List Bool) : Nat := bl.countP (fun b => !b)
theorem falses_set {bl : List Bool} {s : Nat} (hs : s < bl.length) (h : lv bl s = false) : falses (bl.set s true) + 1 = falses bl := by
  rw [lv_eq hs] at h
  unfold falses
  induction bl generalizing s with
  | nil => simp at hs
  | cons b bl ih =>
    cases s with
    | zero => simp only [List.getElem_cons_zero] at h; subst h; simp [List.countP_cons]
    | succ s =>
      simp only [List.getElem_cons_succ] at h
      have := ih (s := s) (by simpa using hs) h
      simp only [List.set_cons_succ, List.countP_cons]
      omega
theorem falses_le (bl : List Bool) : falses bl ≤ bl.length := List.countP_le_length
theorem isL_mono {d : Dfa} {a b : List Bool} (h : ∀ j, lv a j = true → lv b j = true) {s : Nat} (hs : isL d a s = true) : isL d b s = true := by
  simp only [isL, Bool.or_eq_true, decide_eq_true_eq, List.any_eq_true, isT, Bool.and_eq_true] at hs ⊢
  rcases hs with hs | ⟨t, ht, h0, hv⟩
  · exact .inl hs
  · exact .inr ⟨t, ht, h0, h _ hv⟩
theorem lv_of_ent {d : Dfa} {bl : List Bool} (hl : bl.length = d.rows.length) {t : Int} (h1 : t < d.rows.length) (h0 : 0 ≤ t) : ∀ h, bl[t.toNat]'h = lv bl t.toNat := fun h => (lv_eq h).symm
theorem set_lv {bl : List Bool} {s : Nat} {x : Bool} (h : s < bl.length) : lv (bl.set s x) s = x := by simp [lv_set, h]
theorem set_id {bl : List Bool} {s : Nat} (h : s < bl.length) : bl.set s (lv bl s) = bl := by rw [lv_eq h]; simp
end Go.Proofs.YtibeeohnjabhkaaGreatDoor.R

open Go Go.Proofs.YtibeeohnjabhkaaGreatDoor.T
namespace Go.Proofs.YtibeeohnjabhkaaGreatDoor.R
set_option maxHeartbeats 4000000
set_option maxRecDepth 100000
set_option linter.unusedSimpArgs false
set_option linter.unusedVariables false
attribute [local simp] bsV bsRows chunk fillT partsT appV makeV rowsOf cellsOf placeOf

/-- Where a state goes by a byte, from the k-th part on. -/
def nextFrom (d : Dfa) (s : Nat) (b : Nat) (k : Nat) : Int := match (List.range' k (d.parts.length - k)).find? (fun k => hasS (pt d.parts k) b) with
  | some k => ((rw_ d s)[k]?).getD (-1)
  | none => -1
def nextF (d : Dfa) (s b : Nat) : Int := nextFrom d s b 0
theorem nextFrom_next {d : Dfa} {s b k : Nat} (h : k < d.parts.length) : nextFrom d s b k = if hasS (pt d.parts k) b = true then ((rw_ d s)[k]?).getD (-1) else nextFrom d s b (k + 1) := by
  unfold nextFrom
  rw [show d.parts.length - k = (d.parts.length - (k + 1)) + 1 by omega, List.range'_succ, List.find?_cons]
  cases hasS (pt d.parts k) b <;> simp
theorem nextFrom_end {d : Dfa} {s b k : Nat} (h : ¬ k < d.parts.length) : nextFrom d s b k = -1 := by
  unfold nextFrom; rw [show d.parts.length - k = 0 by omega]; rfl
theorem nextFrom_skip {d : Dfa} {s b k : Nat} : ∀ i, i ≤ k → k ≤ d.parts.length → (∀ j, i ≤ j → j < k → hasS (pt d.parts j) b = false) → nextFrom d s b i = nextFrom d s b k := by
  intro i hi hk h
  induction hn : k - i generalizing i with
  | zero => obtain rfl : i = k := by omega
            rfl
  | succ n ih =>
    rw [nextFrom_next (by omega), if_neg (by rw [h i (by omega) (by omega)]; simp)]
    exact ih (i + 1) (by omega) (fun j a b => h j (by omega) b) (by omega)
theorem parts_disj {ps : List (List (Int × Int))} (h : partsFrom ps 0 = true) {i : Nat} (hi : i < ps.length) {b : Nat} (hb : b < 256) (h1 : hasS (pt ps i) b = true) : anyHas ps i b = false := by
  unfold partsFrom at h
  rw [List.all_eq_true] at h
  have := h i (by rw [List.mem_range'_1]; omega)
  simp only [partAt, Bool.and_eq_true] at this
  have h2 := this.2
  unfold disjFrom at h2
  rw [List.all_eq_true] at h2
  have h3 := h2 b (by rw [List.mem_range'_1]; omega)
  simp only [disjB, h1, Bool.true_and, Bool.not_eq_true'] at h3
  exact h3
theorem anyHas_false {ps : List (List (Int × Int))} {i b : Nat} (h : anyHas ps i b = false) : ∀ j, j < i → hasS (pt ps j) b = false := by
  intro j hj
  unfold anyHas at h
  rw [List.any_eq_false] at h
  simpa using h j (List.mem_range.2 hj)
theorem next_of_has {d : Dfa} (h : partsFrom d.parts 0 = true) {s k b : Nat} (hk : k < d.parts.length) (hb : b < 256) (h1 : hasS (pt d.parts k) b = true) : nextF d s b = ((rw_ d s)[k]?).getD (-1) := by
  unfold nextF
  rw [nextFrom_skip 0 (Nat.zero_le _) (Nat.le_of_lt hk) (fun j _ hj => anyHas_false (parts_disj h hk hb h1) j hj), nextFrom_next hk, if_pos h1]
theorem countP_or {l : List Nat} {f g : Nat → Bool} (h : ∀ b ∈ l, f b = true → g b = false) : l.countP (fun b => g b || f b) = l.countP g + l.countP f := by
  induction l with
  | nil => rfl
  | cons a l ih =>
    have := ih fun b hb => h b (by simp [hb])
    have ha := h a (by simp)
    simp only [List.countP_cons, this]
    cases hf : f a <;> cases hg : g a <;> simp_all <;> omega
theorem size_any {ps : List (List (Int × Int))} (h : partsFrom ps 0 = true) : ∀ i, i ≤ ps.length → (List.range 256).countP (anyHas ps i) = sizeTo ps i
  | 0, _ => by simp [sizeTo, anyHas]
  | i + 1, hi => by
    have ih := size_any h i (by omega)
    rw [sizeTo_succ, ← ih]
    have : (anyHas ps (i + 1)) = fun b => anyHas ps i b || hasS (pt ps i) b := by funext b; exact anyHas_succ
    rw [this, countP_or (f := fun b => hasS (pt ps i) b) (g := anyHas ps i)]
    · rfl
    · intro b hb h1
      exact parts_disj h (by omega) (List.mem_range.1 hb) h1
theorem parts_all {ps : List (List (Int × Int))} (h : partsOk ps = true) {b : Nat} (hb : b < 256) : anyHas ps ps.length b = true := by
  simp only [partsOk, Bool.and_eq_true, decide_eq_true_eq] at h
  have h1 := size_any h.1 ps.length (Nat.le_refl _)
  rw [h.2] at h1
  have h2 := List.countP_eq_length (p := anyHas ps ps.length) (l := List.range 256)
  rw [h1] at h2
  exact (h2.1 (by simp)) b (List.mem_range.2 hb)
theorem parts_at {ps : List (List (Int × Int))} (h : partsOk ps = true) {b : Nat} (hb : b < 256) : ∃ k, k < ps.length ∧ hasS (pt ps k) b = true := by
  have := parts_all h hb
  unfold anyHas at this
  rw [List.any_eq_true] at this
  obtain ⟨k, hk, h1⟩ := this
  exact ⟨k, List.mem_range.1 hk, h1⟩
theorem partsFrom_of {ps : List (List (Int × Int))} (h : partsOk ps = true) : partsFrom ps 0 = true := by
  simp only [partsOk, Bool.and_eq_true] at h; exact h.1
theorem next_ok {d : Dfa} (ho : DOk d) {s b : Nat} (hs : s < d.rows.length) : -1 ≤ nextF d s b ∧ nextF d s b < d.rows.length := by
  unfold nextF nextFrom
  split
  · rename_i k hk
    cases hr : (rw_ d s)[k]? with
    | none => simp; have := ho.one; omega
    | some t => simp only [Option.getD_some]; exact ho.ent s hs t (List.mem_of_getElem? hr)
  · have := ho.one; omega
theorem tc_l7Next (d : Dfa) (hs : DSm d) (ho : DOk d) (s b : Nat) (hlt : s < d.rows.length) : TC Tryz.prog 35 [.agg (encDfa d), .val (.int .i64 s), .val (.int .i64 b)] [] (.val (.int .i64 (nextF d s b))) [] := by
  refine TC.enter Tryz.func35 rfl (by simp [Tryz.ntmps35]) rfl (tw_sound (ρ := [3]) ?_)
  rw [Tryz.ntmps35]
  simp [encDfa]
  have hpl := hs.parts
  refine TWcH.loop [] (fun m st => ∃ k : Nat, k + m = d.parts.length ∧ st.σ 1 = .val (.int .i64 s) ∧ st.σ 2 = .val (.int .i64 b) ∧ st.σ 3 = .rptr [.ro (d.parts.map encP), .ro (d.rows.map encR), .ro (d.acc.map encI)] 0 ∧ st.σ 7 = .val (.int .i64 k) ∧ nextF d s b = nextFrom d s b k) d.parts.length ⟨0, by simp [nextF]⟩ ?_
  rintro m ⟨σ, H⟩ ⟨k, hkm, h1, h2, h3, h7, hh⟩
  simp only at h1 h2 h3 h7
  by_cases hk : k < d.parts.length
  · have hw : IntKind.i64.wrap ((k : Int) + 1) = k + 1 := wrapi (by omega)
    have hp' : ∀ h, d.parts[k]'h = pt d.parts k := fun _ => (pt_eq hk).symm
    have hr' : ∀ h, d.rows[s]'h = rw_ d s := fun _ => (rw_eq hlt).symm
    have hpln : (pt d.parts k).length ≤ 1152921504606846976 := by rw [pt_eq hk]; have := hs.part _ (List.getElem_mem hk); omega
    have hkr : k < (rw_ d s).length := by rw [ho.row s hlt]; exact hk
    rw [nextFrom_next hk, getI hkr] at hh
    simp [h1, h2, h3, h7, hk, hp', encP]
    refine TWoH.callV (tc_sSetHas (pt d.parts k) b hpln) callable_47 (by simp [h2]) (by simp) (by simp) (by simp) ?_
    simp [h1, h2, h3, h7, hk]
    refine gif_intro (fun c => ?_) (fun c => ?_) <;> simp [h1, h2, h3, h7, hk, c, hlt, hr', encR, encI, hkr, hw]
    · rw [hh, if_pos c]; rfl
    · exact ⟨m - 1, by omega, k + 1, by omega, by omega, by rw [hh, if_neg c]⟩
  · simp [h1, h2, h3, h7, hk]
    rw [hh, nextFrom_end hk]
/-- A row of 256 numbers. -/
def intsT (f : Nat → Int) : List TV := (List.range 256).map fun b => .val (.int .i64 (f b))
@[simp] theorem intsT_len (f : Nat → Int) : (intsT f).length = 256 := by simp [intsT]
theorem intsT_noH (f : Nat → Int) : noHL (intsT f) = true := by
  unfold intsT
  induction List.range 256 with
  | nil => rfl
  | cons a l ih => simp [ih]
theorem intsT_noRo (f : Nat → Int) : noRoL (intsT f) = true := by
  unfold intsT
  induction List.range 256 with
  | nil => rfl
  | cons a l ih => simp [ih]
theorem intsT_roL (f : Nat → Int) : roL (intsT f) = intsT f := by
  unfold intsT
  induction List.range 256 with
  | nil => rfl
  | cons a l ih => simp only [List.map_cons, roL, ih]; simp
theorem intsT_cut {f : Nat → Int} {i : Nat} (h : i < 256) : List.take 1 (List.drop i (intsT f)) = [.val (.int .i64 (f i))] := by
  rw [List.drop_eq_getElem_cons (by simpa using h)]
  simp [intsT]
theorem intsT_congr {f g : Nat → Int} (h : ∀ b, b < 256 → f b = g b) : intsT f = intsT g := by
  unfold intsT
  apply List.map_congr_left
  intro b hb
  rw [h b (List.mem_range.1 hb)]
theorem intsT_put {f : Nat → Int} {i : Nat} {x : Int} (h : i < 256) : List.take i (intsT f) ++ TV.val (.int .i64 x) :: List.drop (i + 1) (intsT f) = intsT fun b => if b = i then x else f b := by
  apply List.ext_getElem?
  intro j
  have hat : ∀ {f : Nat → Int} {j : Nat}, j < 256 → (intsT f)[j]? = some (.val (.int .i64 (f j))) := fun h => by simp [intsT, h]
  by_cases h1 : j < i
  · rw [List.getElem?_append_left (by simp; omega), List.getElem?_take_of_lt h1, hat (by omega), hat (by omega), if_neg (by omega)]
  · rw [List.getElem?_append_right (by simp; omega)]
    have hl : (List.take i (intsT f)).length = i := by simp; omega
    rw [hl]
    by_cases h2 : j = i
    · subst h2; rw [Nat.sub_self, hat h, if_pos rfl]; rfl
    · obtain ⟨d, hd⟩ : ∃ d, j - i = d + 1 := ⟨j - i - 1, by omega⟩
      rw [hd, List.getElem?_cons_succ, List.getElem?_drop, show i + 1 + d = j by omega]
      by_cases h3 : j < 256
      · rw [hat h3, hat h3, if_neg h2]
      · rw [List.getElem?_eq_none (by simp; omega), List.getElem?_eq_none (by simp; omega)]
def tabR (n : Nat) (F : Nat → Nat → Int) : List (List TV) := (List.range n).map fun s => intsT (F s)
@[simp] theorem tabR_len (n : Nat) (F : Nat → Nat → Int) : (tabR n F).length = n := by simp [tabR]
theorem tabR_at {n : Nat} {F : Nat → Nat → Int} {s : Nat} : ∀ h, (tabR n F)[s]'h = intsT (F s) := fun h => by simp [tabR]
theorem tabR_congr {n : Nat} {F G : Nat → Nat → Int} (h : ∀ s b, s < n → b < 256 → F s b = G s b) : tabR n F = tabR n G := by
  unfold tabR
  apply List.map_congr_left
  intro s hs
  exact intsT_congr fun b hb => h s b (List.mem_range.1 hs) hb
theorem tabR_set {n : Nat} {F : Nat → Nat → Int} {s : Nat} (hs : s < n) (g : Nat → Int) : (tabR n F).set s (intsT g) = tabR n fun s' b => if s' = s then g b else F s' b := by
  apply List.ext_getElem?
  intro j
  rw [List.getElem?_set]
  by_cases e : s = j
  · subst e; simp [tabR, hs]
  · rw [if_neg e]
    by_cases hj : j < n
    · simp [tabR, hj, Ne.symm e]
    · rw [List.getElem?_eq_none (by simp; omega), List.getElem?_eq_none (by simp; omega)]
@[simp] theorem tabR_noHR (n : Nat) (F : Nat → Nat → Int) : noHR (tabR n F) = true := by
  unfold tabR
  induction List.range n with
  | nil => rfl
  | cons a l ih => simp [ih, intsT_noH]
@[simp] theorem tabR_noRoR (n : Nat) (F : Nat → Nat → Int) : noRoR (tabR n F) = true := by
  unfold tabR
  induction List.range n with
  | nil => rfl
  | cons a l ih => simp [ih, intsT_noRo]
@[simp] theorem tabR_roRows (n : Nat) (F : Nat → Nat → Int) : roRows (tabR n F) = tabR n F := by
  unfold tabR
  induction List.range n with
  | nil => rfl
  | cons a l ih => simp [ih, intsT_roL]
/-- What stands in the table behind k parts. -/
def tv (d : Dfa) (k s b : Nat) : Int := if anyHas d.parts k b = true then nextF d s b else 0
end Go.Proofs.YtibeeohnjabhkaaGreatDoor.R

open Go Go.Proofs.YtibeeohnjabhkaaGreatDoor.T
namespace Go.Proofs.YtibeeohnjabhkaaGreatDoor.R
set_option maxHeartbeats 4000000
set_option maxRecDepth 100000
set_option linter.unusedSimpArgs false
set_option linter.unusedVariables false
attribute [local simp] bsV bsRows chunk fillT partsT appV makeV rowsOf cellsOf placeOf

theorem intsT_zero : List.replicate 256 (TV.val (.int .i64 0)) = intsT fun _ => 0 := by
  apply List.ext_getElem?
  intro j
  by_cases h : j < 256
  · rw [List.getElem?_replicate, if_pos h]; simp [intsT, h]
  · rw [List.getElem?_eq_none (by simp; omega), List.getElem?_eq_none (by simp; omega)]
@[simp] theorem intsT_plain (f : Nat → Int) : (intsT f).all TV.plain = true := by simp [intsT]
@[simp] theorem intsT_pc (f : Nat → Int) : (intsT f).all TV.pc = true := by simp [intsT]
@[simp high] theorem zero73 : zeroT Tryz.prog 68 = some (intsT fun _ => 0) := by rw [← intsT_zero]; exact zeroT_68
theorem tabR_zero (n : Nat) : List.replicate n (intsT fun _ => 0) = tabR n fun _ _ => 0 := by
  apply List.ext_getElem?
  intro j
  by_cases h : j < n
  · simp [tabR, h]
  · rw [List.getElem?_eq_none (by simp; omega), List.getElem?_eq_none (by simp; omega)]
theorem tv_same {d : Dfa} {k s b : Nat} (h : hasS (pt d.parts k) b = false) : tv d (k + 1) s b = tv d k s b := by
  unfold tv; rw [anyHas_succ, h, Bool.or_false]
theorem tv_new {d : Dfa} (ho : DOk d) {k s b : Nat} (hk : k < d.parts.length) (hb : b < 256) (h : hasS (pt d.parts k) b = true) : tv d (k + 1) s b = ((rw_ d s)[k]?).getD (-1) := by
  unfold tv; rw [anyHas_succ, h, Bool.or_true, if_pos rfl, next_of_has (partsFrom_of ho.parts) hk hb h]
theorem tc_table (d : Dfa) (hs : DSm d) (ho : DOk d) : TC Tryz.prog 17 [.agg (encDfa d)] [] (.own 68 (tabR d.rows.length (nextF d))) [] := by
  have hmost := ho.most
  have hpl := hs.parts
  refine TC.enter Tryz.func17 rfl (by simp [Tryz.ntmps17]) rfl (tw_sound (ρ := [1]) ?_)
  rw [Tryz.ntmps17]
  have k1 : 2048 * (d.rows.length : Int) ≤ 281474976710656 := by omega
  have k2 : (d.rows.length : Int) ≤ 9223372036854775807 := by omega
  simp [encDfa, k1, k2]
  refine gall_intro fun id hid => ?_
  simp
  refine TWcH.loop [] (fun m s => ∃ k : Nat, k + m = d.parts.length ∧ s.σ 1 = .rptr [.ro (d.parts.map encP), .ro (d.rows.map encR), .ro (d.acc.map encI)] 0 ∧ s.σ 3 = .hd id ∧ s.H id = some (.own 68 (tabR d.rows.length (tv d k))) ∧ s.σ 14 = .ro (d.parts.map encP) ∧ s.σ 15 = .val (.int .i64 d.parts.length) ∧ s.σ 16 = .val (.int .i64 k)) d.parts.length ⟨0, by simp [tabR_zero]; exact tabR_congr fun s b _ _ => by simp [tv, anyHas]⟩ ?_
  rintro m ⟨σ, H⟩ ⟨k, hkm, h1, h3, hH, h14, h15, h16⟩
  simp only at h1 h3 hH h14 h15 h16
  by_cases hk : k < d.parts.length
  · have hw : IntKind.i64.wrap ((k : Int) + 1) = k + 1 := wrapi (by omega)
    have hp' : ∀ h, d.parts[k]'h = pt d.parts k := fun _ => (pt_eq hk).symm
    have hpln : (pt d.parts k).length ≤ 1152921504606846976 := by rw [pt_eq hk]; have := hs.part _ (List.getElem_mem hk); omega
    simp [h1, h3, hH, h14, h15, h16, hk, hp', encP]
    refine TWoH.callV (tc_bitsOf (pt d.parts k) hpln) callable_34 (by simp) (by simp) (by simp) (by simp) ?_
    simp [h1, h3, hH, h14, h15, h16, hk]
    refine TWcH.loop [] (fun m' s => ∃ b : Nat, b + m' = 256 ∧ s.σ 1 = .rptr [.ro (d.parts.map encP), .ro (d.rows.map encR), .ro (d.acc.map encI)] 0 ∧ s.σ 3 = .hd id ∧ s.H id = some (.own 68 (tabR d.rows.length fun s' b' => if b' < b then tv d (k + 1) s' b' else tv d k s' b')) ∧ s.σ 14 = .ro (d.parts.map encP) ∧ s.σ 15 = .val (.int .i64 d.parts.length) ∧ s.σ 16 = .val (.int .i64 k) ∧
      s.σ 4 = .val (.int .i64 k) ∧ s.σ 22 = .agg (bitsT fun b => hasS (pt d.parts k) b) ∧ s.σ 23 = .val (.int .i64 b)) 256 ⟨0, by simp [h1, h3, hH, h14, h15, h16]⟩ ?_
    rintro m' ⟨σ, H⟩ ⟨b, hbm, g1, g3, gH, g14, g15, g16, g4, g22, g23⟩
    simp only at g1 g3 gH g14 g15 g16 g4 g22 g23
    by_cases hb : b < 256
    · have hwb : IntKind.i64.wrap ((b : Int) + 1) = b + 1 := wrapi (by omega)
      have hb2 : (b : Int) < 256 := by omega
      have hb3 : b ≤ 255 := by omega
      simp [g1, g3, gH, g14, g15, g16, g4, g22, g23, hb2, bitsT_at hb, partTV]
      refine TWcH.loop [] (fun m'' s => ∃ i : Nat, i + m'' = d.rows.length ∧ s.σ 1 = .rptr [.ro (d.parts.map encP), .ro (d.rows.map encR), .ro (d.acc.map encI)] 0 ∧ s.σ 3 = .hd id ∧ s.H id = some (.own 68 (tabR d.rows.length fun s' b' => if b' < b ∨ (b' = b ∧ s' < i) then tv d (k + 1) s' b' else tv d k s' b')) ∧ s.σ 14 = .ro (d.parts.map encP) ∧ s.σ 15 = .val (.int .i64 d.parts.length) ∧ s.σ 16 = .val (.int .i64 k) ∧
        s.σ 4 = .val (.int .i64 k) ∧ s.σ 22 = .agg (bitsT fun b => hasS (pt d.parts k) b) ∧ s.σ 23 = .val (.int .i64 b) ∧ s.σ 6 = .val (.int .i64 b) ∧ s.σ 7 = .val (.bool (hasS (pt d.parts k) b)) ∧ s.σ 28 = .val (.int .i64 d.rows.length) ∧ s.σ 29 = .val (.int .i64 i)) d.rows.length ⟨0, by simp [g1, g3, gH, g14, g15, g16, g4, g22, g23]⟩ ?_
      rintro m'' ⟨σ, H⟩ ⟨i, him, f1, f3, fH, f14, f15, f16, f4, f22, f23, f6, f7, f28, f29⟩
      simp only at f1 f3 fH f14 f15 f16 f4 f22 f23 f6 f7 f28 f29
      by_cases hi : i < d.rows.length
      · have hwi : IntKind.i64.wrap ((i : Int) + 1) = i + 1 := wrapi (by omega)
        have hr' : ∀ h, d.rows[i]'h = rw_ d i := fun _ => (rw_eq hi).symm
        have hkr : k < (rw_ d i).length := by rw [ho.row i hi]; exact hk
        cases c : hasS (pt d.parts k) b
        · simp [f1, f3, fH, f14, f15, f16, f4, f22, f23, f6, f7, f28, f29, hi, c, hwi]
          refine ⟨m'' - 1, by omega, i + 1, by omega, ?_, by omega⟩
          apply tabR_congr
          intro s b' _ _
          by_cases e : b' = b ∧ s = i
          · obtain ⟨rfl, rfl⟩ := e
            simp [tv_same c]
          · have : (b' < b ∨ b' = b ∧ s < i) = (b' < b ∨ b' = b ∧ s < i + 1) := by rw [eq_iff_iff]; omega
            simp only [this]
        · have hput := fun (g : Nat → Int) => intsT_put (f := g) (x := (rw_ d i)[k]) hb
          simp [f1, f3, fH, f14, f15, f16, f4, f22, f23, f6, f7, f28, f29, hi, c]
          refine TWcH.regionD (ρ := []) [0, 1, 2, 3, 4, 5, 6, 7, 8, 9, 10, 11, 12, 13] 13 mixed (by kernel_rfl) ?_
          simp [f1, f3, fH, f14, f15, f16, f4, f22, f23, f6, f7, f28, f29, hi, c, hr', encR, encI, hkr, hb2, hb3, tabR_at, hput, hwi]
          refine ⟨m'' - 1, by omega, i + 1, by omega, ?_, by omega⟩
          rw [tabR_set hi]
          apply tabR_congr
          intro s b' _ _
          by_cases e1 : s = i
          · subst e1
            rw [if_pos rfl]
            by_cases e2 : b' = b
            · subst e2
              rw [if_pos rfl, if_pos (by omega), tv_new ho hk hb c, getI hkr]; rfl
            · rw [if_neg e2]
              by_cases e3 : b' < b
              · rw [if_pos (by omega), if_pos (by omega)]
              · rw [if_neg (by omega), if_neg (by omega)]
          · rw [if_neg e1]
            have : (b' < b ∨ b' = b ∧ s < i) = (b' < b ∨ b' = b ∧ s < i + 1) := by rw [eq_iff_iff]; omega
            simp only [this]
      · obtain rfl : i = d.rows.length := by omega
        simp [f1, f3, fH, f14, f15, f16, f4, f22, f23, f6, f7, f28, f29, hwb]
        refine ⟨m' - 1, by omega, b + 1, by omega, ?_, by omega⟩
        apply tabR_congr
        intro s b' hs _
        have : (b' < b ∨ b' = b ∧ s < d.rows.length) = (b' < b + 1) := by rw [eq_iff_iff]; omega
        simp only [this]
    · obtain rfl : b = 256 := by omega
      simp [g1, g3, gH, g14, g15, g16, g4, g22, g23, hw]
      refine ⟨m - 1, by omega, k + 1, by omega, ?_, by omega⟩
      apply tabR_congr
      intro s b' _ hb'
      rw [if_pos hb']
  · obtain rfl : k = d.parts.length := by omega
    simp [h1, h3, hH, h14, h15, h16]
    apply tabR_congr
    intro s b _ hb
    rw [tv, if_pos (parts_all ho.parts hb)]

/-- The longest token: rule and end. -/
def lexGo (d : Dfa) : List UInt8 → Nat → Nat → Int → Nat → Int × Nat
  | [], _, _, r, to => (r, to)
  | c :: cs, s, i, r, to => if nextF d s c.toNat < 0 then (r, to) else
      if 0 ≤ ac_ d (nextF d s c.toNat).toNat then lexGo d cs (nextF d s c.toNat).toNat (i + 1) (ac_ d (nextF d s c.toNat).toNat) (i + 1) else lexGo d cs (nextF d s c.toNat).toNat (i + 1) r to
def lexAtF (d : Dfa) (t : List UInt8) (p : Nat) : Int × Nat := lexGo d (t.drop p) 0 p (-1) p
theorem lexGo_drop {d : Dfa} {t : List UInt8} {i : Nat} (h : i < t.length) (s : Nat) (r : Int) (to : Nat) : lexGo d (t.drop i) s i r to = if nextF d s t[i].toNat < 0 then (r, to) else
      if 0 ≤ ac_ d (nextF d s t[i].toNat).toNat then lexGo d (t.drop (i + 1)) (nextF d s t[i].toNat).toNat (i + 1) (ac_ d (nextF d s t[i].toNat).toNat) (i + 1) else lexGo d (t.drop (i + 1)) (nextF d s t[i].toNat).toNat (i + 1) r to := by
  conv => lhs; rw [List.drop_eq_getElem_cons h]
  rw [lexGo]
theorem lexGo_ok {d : Dfa} : ∀ (t : List UInt8) (s i : Nat) (r : Int) (to p : Nat), p ≤ i → to ≤ i → p ≤ to → (0 ≤ r → p < to) → (0 ≤ (lexGo d t s i r to).1 → p < (lexGo d t s i r to).2) ∧ p ≤ (lexGo d t s i r to).2 ∧ (lexGo d t s i r to).2 ≤ i + t.length
  | [], s, i, r, to, p, h1, h2, h3, h4 => ⟨h4, h3, by simp [lexGo]; omega⟩
  | c :: cs, s, i, r, to, p, h1, h2, h3, h4 => by
    unfold lexGo
    split
    · exact ⟨h4, h3, by simp; omega⟩
    · split
      · have := lexGo_ok (d := d) cs (nextF d s c.toNat).toNat (i + 1) (ac_ d (nextF d s c.toNat).toNat) (i + 1) p (by omega) (by omega) (by omega) (fun _ => by omega)
        simp only [List.length_cons]
        exact ⟨this.1, this.2.1, by omega⟩
      · have := lexGo_ok (d := d) cs (nextF d s c.toNat).toNat (i + 1) r to p (by omega) (by omega) h3 h4
        simp only [List.length_cons]
        exact ⟨this.1, this.2.1, by omega⟩
theorem lexAt_ok {d : Dfa} {t : List UInt8} {p : Nat} (hp : p ≤ t.length) : (0 ≤ (lexAtF d t p).1 → p < (lexAtF d t p).2) ∧ p ≤ (lexAtF d t p).2 ∧ (lexAtF d t p).2 ≤ t.length := by
  have := lexGo_ok (d := d) (t.drop p) 0 p (-1) p p (Nat.le_refl _) (Nat.le_refl _) (Nat.le_refl _) (by omega)
  refine ⟨this.1, this.2.1, ?_⟩
  have h := this.2.2
  rw [List.length_drop] at h
  unfold lexAtF; omega
theorem tc_iLexAt0 (d : Dfa) (hs : DSm d) (ho : DOk d) (t : List UInt8) (p : Nat) (ht : t.length ≤ 200) (hp : p ≤ t.length) : TC Tryz.prog 18 [.agg (encDfa d), .ro (tabR d.rows.length (nextF d)), .val (.string (bs t)), .val (.int .i64 p)] [] (.tup [.val (.int .i64 (lexAtF d t p).1), .val (.int .i64 (lexAtF d t p).2)]) [] := by
  have hmost := ho.most
  have hone := ho.one
  refine TC.enter Tryz.func18 rfl (by simp [Tryz.ntmps18]) rfl (tw_sound (ρ := [4]) ?_)
  rw [Tryz.ntmps18]
  simp [encDfa]
  refine TWcH.loop [] (fun m st => ∃ (i s to : Nat) (r : Int), i + m = t.length ∧ s < d.rows.length ∧ to ≤ i ∧ st.σ 1 = .ro (tabR d.rows.length (nextF d)) ∧ st.σ 2 = .val (.string (bs t)) ∧ st.σ 4 = .rptr [.ro (d.parts.map encP), .ro (d.rows.map encR), .ro (d.acc.map encI)] 0 ∧ st.σ 10 = .val (.int .i64 r) ∧ st.σ 11 = .val (.int .i64 to) ∧ st.σ 12 = .val (.int .i64 s) ∧ st.σ 13 = .val (.int .i64 i) ∧ lexAtF d t p = lexGo d (t.drop i) s i r to) (t.length - p) ⟨p, 0, p, -1, by omega, by omega, by omega, by simp [lexAtF]⟩ ?_
  rintro m ⟨σ, H⟩ ⟨i, s, to, r, him, hsl, hto, h1, h2, h4, h10, h11, h12, h13, hh⟩
  simp only at h1 h2 h4 h10 h11 h12 h13
  by_cases hi : i < t.length
  · have hw : IntKind.i64.wrap ((i : Int) + 1) = i + 1 := wrapi (by omega)
    rw [lexGo_drop hi] at hh
    have hn := next_ok ho (s := s) (b := t[i].toNat) hsl
    have hb : t[i].toNat < 256 := t[i].toNat_lt
    have hb2 : ((t[i].toNat : Nat) : Int) < 256 := by omega
    have hb3 : t[i].toNat ≤ 255 := by omega
    simp [h1, h2, h4, h10, h11, h12, h13, hi]
    refine TWcH.regionD (ρ := []) [0, 1, 2, 3, 4, 5, 6, 7, 8] 9 mixed (by kernel_rfl) ?_
    simp [h1, h2, h4, h10, h11, h12, h13, hi, getI hi, hsl, tabR_at, hb2, hb3, intsT_cut hb]
    by_cases c : nextF d s t[i].toNat < 0
    · rw [if_pos c] at hh
      simp [h1, h2, h4, h10, h11, h12, h13, c, hh]
    rw [if_neg c] at hh
    have hn0 : 0 ≤ nextF d s t[i].toNat := by omega
    have hnl : (nextF d s t[i].toNat).toNat < d.acc.length := by rw [ho.acc]; omega
    have hcast : (((nextF d s t[i].toNat).toNat : Nat) : Int) = nextF d s t[i].toNat := by omega
    generalize nextF d s t[i].toNat = q at hh hn c hn0 hnl hcast
    have hpa : ∀ h, d.acc[q.toNat]'h = ac_ d q.toNat := fun _ => (ac_eq hnl).symm
    simp [h1, h2, h4, h10, h11, h12, h13, c, hn0, hnl, hpa, encI]
    refine gif_intro (fun c2 => ?_) (fun c2 => ?_) <;> simp [h1, h2, h4, h10, h11, h12, h13, c, c2, hn0, hnl, hpa, encI, hw]
    · rw [if_pos c2] at hh
      exact ⟨m - 1, by omega, i + 1, by omega, q.toNat, by omega, i + 1, by omega, by omega, by omega, by omega, hh⟩
    · rw [if_neg c2] at hh
      exact ⟨m - 1, by omega, i + 1, by omega, q.toNat, by omega, to, by omega, by omega, by omega, by omega, hh⟩
  · obtain rfl : i = t.length := by omega
    simp [h1, h2, h4, h10, h11, h12, h13]
    rw [hh, List.drop_length]; exact ⟨rfl, rfl⟩
theorem tc_sL9At (d : Dfa) (hs : DSm d) (ho : DOk d) (t : List UInt8) (p : Nat) (ht : t.length ≤ 200) (hp : p ≤ t.length) : TC Tryz.prog 20 [.agg (encDfa d), .val (.string (bs t)), .val (.int .i64 p)] [] (.tup [.val (.int .i64 (lexAtF d t p).1), .val (.int .i64 (lexAtF d t p).2)]) [] := by
  have hmost := ho.most
  have hone := ho.one
  have e3 : ∀ x, encDfa x = [.ro (x.parts.map encP), .ro (x.rows.map encR), .ro (x.acc.map encI)] := fun _ => rfl
  refine TC.enter Tryz.func20 rfl (by simp [Tryz.ntmps20]) rfl (tw_sound (ρ := [3]) ?_)
  rw [Tryz.ntmps20]
  simp [encDfa]
  refine TWcH.loop [] (fun m st => ∃ (i to : Nat) (s r : Int), i + m = t.length ∧ s < d.rows.length ∧ to ≤ i ∧ st.σ 1 = .val (.string (bs t)) ∧ st.σ 3 = .rptr [.ro (d.parts.map encP), .ro (d.rows.map encR), .ro (d.acc.map encI)] 0 ∧ st.σ 8 = .val (.int .i64 r) ∧ st.σ 9 = .val (.int .i64 to) ∧ st.σ 10 = .val (.int .i64 s) ∧ st.σ 11 = .val (.int .i64 i) ∧ lexAtF d t p = if s < 0 then (r, to) else lexGo d (t.drop i) s.toNat i r to) (t.length - p) ⟨p, p, 0, -1, by omega, by omega, by omega, by simp [lexAtF]⟩ ?_
  rintro m ⟨σ, H⟩ ⟨i, to, s, r, him, hsl, hto, h1, h3, h8, h9, h10, h11, hh⟩
  simp only at h1 h3 h8 h9 h10 h11
  by_cases hi : i < t.length
  · have hw : IntKind.i64.wrap ((i : Int) + 1) = i + 1 := wrapi (by omega)
    by_cases hs0 : s < 0
    · rw [if_pos hs0] at hh
      have hs0' : ¬ 0 ≤ s := by omega
      simp [h1, h3, h8, h9, h10, h11, hi, hs0', hh]
    have hs0' : 0 ≤ s := by omega
    rw [if_neg hs0, lexGo_drop hi] at hh
    have hst : s.toNat < d.rows.length := by omega
    have hn := next_ok ho (s := s.toNat) (b := t[i].toNat) hst
    have htc := tc_l7Next d hs ho s.toNat t[i].toNat hst
    have hcs : ((s.toNat : Nat) : Int) = s := by omega
    rw [hcs] at htc
    simp [h1, h3, h8, h9, h10, h11, hi, hs0']
    refine TWcH.regionD (ρ := []) [0, 1, 2, 3, 4, 5, 6, 7] 8 mixed (by kernel_rfl) ?_
    simp [h1, h3, h8, h9, h10, h11, hi, hs0', getI hi]
    refine TWqH.callV htc callable_35 (by simp [encDfa]) (by simp) (by simp) (by simp) ?_
    generalize nextF d s.toNat t[i].toNat = q at hh hn
    by_cases c : q < 0
    · have c' : ¬ 0 ≤ q := by omega
      rw [if_pos c] at hh
      simp [h1, h3, h8, h9, h10, h11, hi, hs0', c', hw]
      exact ⟨m - 1, by omega, i + 1, by omega, to, q, by omega, by omega, rfl, rfl, by omega, by rw [hh, if_pos c]⟩
    rw [if_neg c] at hh
    have hn0 : 0 ≤ q := by omega
    have hnl : q.toNat < d.acc.length := by rw [ho.acc]; omega
    have hql : q < d.acc.length := by rw [ho.acc]; omega
    have hpa : ∀ h, d.acc[q.toNat]'h = ac_ d q.toNat := fun _ => (ac_eq hnl).symm
    simp [h1, h3, h8, h9, h10, h11, hi, hs0', hn0, hnl, hpa, encI]
    refine gif_intro (fun c2 => ?_) (fun c2 => ?_) <;> simp [h1, h3, h8, h9, h10, h11, hi, hs0', c2, hn0, hnl, hpa, encI, hw]
    · rw [if_pos c2] at hh
      exact ⟨m - 1, by omega, i + 1, by omega, i + 1, q, by omega, by omega, by omega, rfl, by omega, by rw [hh, if_neg c]⟩
    · rw [if_neg c2] at hh
      exact ⟨m - 1, by omega, i + 1, by omega, to, q, by omega, by omega, rfl, rfl, by omega, by rw [hh, if_neg c]⟩
  · obtain rfl : i = t.length := by omega
    simp [h1, h3, h8, h9, h10, h11]
    rw [hh]
    by_cases c : s < 0
    · simp [c]
    · rw [if_neg c, List.drop_length]; exact ⟨rfl, rfl⟩
end Go.Proofs.YtibeeohnjabhkaaGreatDoor.R

open Go Go.Proofs.YtibeeohnjabhkaaGreatDoor.T
namespace Go.Proofs.YtibeeohnjabhkaaGreatDoor.R
set_option linter.unusedSimpArgs false
set_option linter.unusedVariables false
/-- Patterns of right form. -/
inductive Rx where
  | set (s : List (Int × Int))
  | emp
  | cat (a b : Rx)
  | or (a b : Rx)
  | star (a : Rx)
  | and (a b : Rx)
  | not (a : Rx)
  deriving DecidableEq, Inhabited
def Rx.kind : Rx → Int
  | .set _ => 1
  | .emp => 2
  | .cat _ _ => 3
  | .or _ _ => 4
  | .star _ => 5
  | .and _ _ => 6
  | .not _ => 7
def Rx.span : Rx → List (Int × Int)
  | .set s => s
  | _ => []
def Rx.kids : Rx → List Rx
  | .set _ | .emp => []
  | .cat a b | .or a b | .and a b => [a, b]
  | .star a | .not a => [a]
def Rx.rex : Rx → Rex
  | .set s => .mk 1 s []
  | .emp => .mk 2 [] []
  | .cat a b => .mk 3 [] [a.rex, b.rex]
  | .or a b => .mk 4 [] [a.rex, b.rex]
  | .star a => .mk 5 [] [a.rex]
  | .and a b => .mk 6 [] [a.rex, b.rex]
  | .not a => .mk 7 [] [a.rex]
def Rx.ok : Rx → Prop
  | .set s => setOk s = true
  | .emp => True
  | .cat a b | .or a b | .and a b => a.ok ∧ b.ok
  | .star a | .not a => a.ok
def Rx.sz : Rx → Nat
  | .set _ | .emp => 1
  | .cat a b | .or a b | .and a b => a.sz + b.sz + 1
  | .star a | .not a => a.sz + 1
theorem Rx.sz_pos (x : Rx) : 1 ≤ x.sz := by cases x <;> simp [Rx.sz]
theorem Rx.rex_eq (x : Rx) : x.rex = .mk x.kind x.span (x.kids.map Rx.rex) := by cases x <;> rfl
theorem Rx.rex_inj : ∀ (x y : Rx), x.rex = y.rex → x = y := by
  intro x
  induction x with
  | set s => intro y h; cases y <;> simp [Rx.rex] at h; rw [h]
  | emp => intro y h; cases y <;> simp [Rx.rex] at h; rfl
  | cat a b iha ihb => intro y h; cases y <;> simp [Rx.rex] at h; rw [iha _ h.1, ihb _ h.2]
  | or a b iha ihb => intro y h; cases y <;> simp [Rx.rex] at h; rw [iha _ h.1, ihb _ h.2]
  | and a b iha ihb => intro y h; cases y <;> simp [Rx.rex] at h; rw [iha _ h.1, ihb _ h.2]
  | star a iha => intro y h; cases y <;> simp [Rx.rex] at h; rw [iha _ h]
  | not a iha => intro y h; cases y <;> simp [Rx.rex] at h; rw [iha _ h]
theorem manyN_rex : ∀ x : Rx, manyN x.rex = x.sz := by
  intro x
  induction x with
  | set s => simp [Rx.rex, manyN, manyL, Rx.sz]
  | emp => simp [Rx.rex, manyN, manyL, Rx.sz]
  | cat a b iha ihb => simp [Rx.rex, manyN, manyL, Rx.sz, iha, ihb]; omega
  | or a b iha ihb => simp [Rx.rex, manyN, manyL, Rx.sz, iha, ihb]; omega
  | and a b iha ihb => simp [Rx.rex, manyN, manyL, Rx.sz, iha, ihb]; omega
  | star a iha => simp [Rx.rex, manyN, manyL, Rx.sz, iha]; omega
  | not a iha => simp [Rx.rex, manyN, manyL, Rx.sz, iha]; omega
theorem setOkP_len : ∀ (l : List (Int × Int)) (q : Int), setOkP (some q) l = true → q ≤ 255 → (l.length : Int) ≤ 255 - q
  | [], q, _, hq => by simp; omega
  | x :: l, q, h, hq => by
    simp only [setOkP, okX, Bool.and_eq_true, decide_eq_true_eq] at h
    obtain ⟨⟨h1, h2, h3, h4⟩, h5⟩ := h
    have := h4 q rfl
    have := setOkP_len l x.2 h5 h2
    simp; omega
theorem setOk_len {l : List (Int × Int)} (h : setOk l = true) : l.length ≤ 256 := by
  cases l with
  | nil => simp
  | cons x l =>
    simp only [setOk, setOkP, okX, Bool.and_eq_true, decide_eq_true_eq] at h
    have := setOkP_len l x.2 h.2 h.1.2.1
    simp; omega
theorem Rx.sm : ∀ x : Rx, x.ok → Sm x.rex := by
  intro x
  induction x with
  | set s => intro h; have := setOk_len h; simp only [Rx.rex, Sm, SmL]; exact ⟨by omega, by simp, trivial⟩
  | emp => intro h; simp [Rx.rex, Sm, SmL]
  | cat a b iha ihb => intro h; simp only [Rx.rex, Sm, SmL]; exact ⟨by simp, by simp, iha h.1, ihb h.2, trivial⟩
  | or a b iha ihb => intro h; simp only [Rx.rex, Sm, SmL]; exact ⟨by simp, by simp, iha h.1, ihb h.2, trivial⟩
  | and a b iha ihb => intro h; simp only [Rx.rex, Sm, SmL]; exact ⟨by simp, by simp, iha h.1, ihb h.2, trivial⟩
  | star a iha => intro h; simp only [Rx.rex, Sm, SmL]; exact ⟨by simp, by simp, iha h, trivial⟩
  | not a iha => intro h; simp only [Rx.rex, Sm, SmL]; exact ⟨by simp, by simp, iha h, trivial⟩
/-- What has the right form is one of these. -/
theorem formF_rx : ∀ (d : Nat) (r : Rex), formF d r = true → ∃ x : Rx, x.rex = r ∧ x.ok
  | 0, r, h => by simp [formF] at h
  | d + 1, .mk k s l, h => by
    simp only [formF, headOk, Bool.and_eq_true, decide_eq_true_eq, Bool.or_eq_true, List.all_eq_true] at h
    obtain ⟨⟨⟨h1, h2⟩, h3⟩, h4⟩ := h
    have hs : ¬ k = 1 → s = [] := fun e => List.eq_nil_of_length_eq_zero (by rcases h2 with h2 | h2; exact absurd h2 e; exact h2)
    unfold kidsN at h1
    split at h1
    · rename_i hk
      obtain rfl : l = [] := List.eq_nil_of_length_eq_zero (by omega)
      rcases hk with rfl | rfl
      · exact ⟨.set s, rfl, h3⟩
      · exact ⟨.emp, by simp [Rx.rex, hs (by omega)], trivial⟩
    · split at h1
      · rename_i hk0 hk
        match l, h1, h4 with
        | [a], _, h4 =>
          obtain ⟨x, hx, hx2⟩ := formF_rx d a (h4 a (by simp))
          rw [hs (by omega)]
          rcases hk with rfl | rfl
          · exact ⟨.star x, by simp [Rx.rex, hx], hx2⟩
          · exact ⟨.not x, by simp [Rx.rex, hx], hx2⟩
        | [], h1, _ => simp at h1
        | a :: b :: l, h1, _ => simp at h1; omega
      · split at h1
        · rename_i hk0 hk1 hk
          match l, h1, h4 with
          | [a, b], _, h4 =>
            obtain ⟨x, hx, hx2⟩ := formF_rx d a (h4 a (by simp))
            obtain ⟨y, hy, hy2⟩ := formF_rx d b (h4 b (by simp))
            rw [hs (by omega)]
            rcases hk with rfl | rfl | rfl
            · exact ⟨.cat x y, by simp [Rx.rex, hx, hy], hx2, hy2⟩
            · exact ⟨.or x y, by simp [Rx.rex, hx, hy], hx2, hy2⟩
            · exact ⟨.and x y, by simp [Rx.rex, hx, hy], hx2, hy2⟩
          | [], h1, _ => simp at h1
          | [a], h1, _ => simp at h1
          | a :: b :: c :: l, h1, _ => simp at h1; omega
        · omega
/-- As it lies in memory. -/
def encX (x : Rx) : List TV := encRex x.rex
theorem encX_eq (x : Rx) : encX x = [.val (.int .i64 x.kind), .ro (x.span.map encS), .ro (x.kids.map encX)] := by
  unfold encX
  rw [Rx.rex_eq]
  simp [encRex, encRexL_eq, Function.comp_def]
def isNo : Rx → Bool
  | .set [] => true
  | _ => false
def isAll : Rx → Bool
  | .not a => isNo a
  | _ => false
def starX : Rx → Rx
  | .star a => .star a
  | x => if x = .emp ∨ isNo x = true then .emp else .star x
def notX : Rx → Rx
  | .not a => a
  | x => .not x
def catX : Rx → Rx → Rx
  | .cat x y, b => if isNo b then .set [] else if b = .emp then .cat x y else catX x (catX y b)
  | .emp, b => if isNo b then .set [] else b
  | a, b => if isNo a || isNo b then .set [] else if b = .emp then a else .cat a b
def listX (k : Int) : Rx → List Rx
  | .or a b => if k = 4 then listX k a ++ listX k b else [.or a b]
  | .and a b => if k = 6 then listX k a ++ listX k b else [.and a b]
  | x => [x]
def mk2 (k : Int) (a b : Rx) : Rx := if k = 4 then .or a b else .and a b
def chainX (k : Int) : List Rx → Rx
  | [] => .emp
  | [x] => x
  | x :: y :: l => mk2 k x (chainX k (y :: l))
theorem chainX_ok {k : Int} : ∀ {l : List Rx}, (∀ x ∈ l, x.ok) → (chainX k l).ok
  | [], _ => trivial
  | [x], h => h x (by simp)
  | x :: y :: l, h => by
    have h1 := h x (by simp)
    have h2 := chainX_ok (k := k) (l := y :: l) fun z hz => h z (by simp [hz])
    unfold chainX mk2
    split <;> exact ⟨h1, h2⟩
def wt : List Rx → Nat
  | [] => 0
  | x :: l => x.sz + 1 + wt l
theorem wt_app : ∀ a b : List Rx, wt (a ++ b) = wt a + wt b
  | [], b => by simp [wt]
  | x :: a, b => by simp [wt, wt_app a b]; omega
theorem wt_len : ∀ l : List Rx, 2 * l.length ≤ wt l
  | [] => by simp [wt]
  | x :: l => by have := wt_len l; have := x.sz_pos; simp [wt]; omega
theorem wt_mem : ∀ {l : List Rx} {x : Rx}, x ∈ l → x.sz + 1 ≤ wt l
  | y :: l, x, h => by
    rcases List.mem_cons.1 h with rfl | h
    · simp [wt]
    · have := wt_mem h; simp [wt]; omega
theorem chainX_sz {k : Int} : ∀ (l : List Rx), (chainX k l).sz ≤ max 1 (wt l - 1)
  | [] => by simp only [chainX, Rx.sz]; omega
  | [x] => by simp [chainX, wt]; omega
  | x :: y :: l => by
    have := chainX_sz (k := k) (y :: l)
    have hy := y.sz_pos
    unfold chainX mk2
    split <;> simp only [Rx.sz, wt] at * <;> omega
theorem listX_ok {k : Int} : ∀ {x : Rx}, x.ok → ∀ y ∈ listX k x, y.ok := by
  intro x
  induction x with
  | or a b iha ihb =>
    intro h y hy
    unfold listX at hy
    split at hy
    · rcases List.mem_append.1 hy with hy | hy
      · exact iha h.1 y hy
      · exact ihb h.2 y hy
    · simp at hy; subst hy; exact h
  | and a b iha ihb =>
    intro h y hy
    unfold listX at hy
    split at hy
    · rcases List.mem_append.1 hy with hy | hy
      · exact iha h.1 y hy
      · exact ihb h.2 y hy
    · simp at hy; subst hy; exact h
  | _ => intro h y hy; simp [listX] at hy; subst hy; exact h
theorem listX_wt {k : Int} : ∀ x : Rx, wt (listX k x) ≤ x.sz + 1 := by
  intro x
  induction x with
  | or a b iha ihb =>
    unfold listX
    split
    · rw [wt_app]; simp only [Rx.sz]; omega
    · simp [wt]
  | and a b iha ihb =>
    unfold listX
    split
    · rw [wt_app]; simp only [Rx.sz]; omega
    · simp [wt]
  | _ => simp [listX, wt]
theorem listX_ne {k : Int} : ∀ x : Rx, listX k x ≠ [] := by
  intro x
  induction x with
  | or a b iha ihb => unfold listX; split <;> simp [iha]
  | and a b iha ihb => unfold listX; split <;> simp [iha]
  | _ => simp [listX]
theorem catX_ok : ∀ {a b : Rx}, a.ok → b.ok → (catX a b).ok := by
  intro a
  induction a with
  | cat x y ihx ihy =>
    intro b ha hb
    unfold catX
    split
    · rfl
    · split
      · exact ha
      · exact ihx ha.1 (ihy ha.2 hb)
  | emp => intro b ha hb; unfold catX; split; rfl; exact hb
  | _ => intro b ha hb; unfold catX; split; rfl; split; exact ha; exact ⟨ha, hb⟩
theorem catX_sz : ∀ (a b : Rx), (catX a b).sz ≤ a.sz + b.sz + 1 := by
  intro a
  induction a with
  | cat x y ihx ihy =>
    intro b
    unfold catX
    have := b.sz_pos
    split
    · simp [Rx.sz]
    · split
      · simp [Rx.sz]; omega
      · have := ihx (catX y b); have := ihy b; simp only [Rx.sz]; omega
  | emp => intro b; unfold catX; split <;> simp [Rx.sz]; omega
  | _ => intro b; unfold catX; split; simp [Rx.sz]; split <;> simp only [Rx.sz] <;> omega
theorem starX_ok {x : Rx} (h : x.ok) : (starX x).ok := by
  cases x <;> simp only [starX] <;> first | exact h | (split; exact trivial; exact h)
theorem starX_sz (x : Rx) : (starX x).sz ≤ x.sz + 1 := by
  cases x <;> simp only [starX] <;> first | (simp [Rx.sz]; done) | (split <;> simp [Rx.sz])
theorem notX_ok {x : Rx} (h : x.ok) : (notX x).ok := by cases x <;> exact h
theorem notX_sz (x : Rx) : (notX x).sz ≤ x.sz + 1 := by cases x <;> simp [notX, Rx.sz]; omega
end Go.Proofs.YtibeeohnjabhkaaGreatDoor.R

open Go Go.Proofs.YtibeeohnjabhkaaGreatDoor.T
namespace Go.Proofs.YtibeeohnjabhkaaGreatDoor.R
set_option maxHeartbeats 4000000
set_option maxRecDepth 100000
set_option linter.unusedSimpArgs false
set_option linter.unusedVariables false
attribute [local simp] bsV bsRows chunk fillT partsT appV makeV rowsOf cellsOf placeOf
@[simp] theorem len_X (r : Rx) : (encX r).length = 3 := len_rex _
@[simp] theorem take_X (r : Rx) : (encX r).take 3 = encX r := take_rex _
@[simp] theorem plain_X (r : Rx) : (encX r).all TV.plain = true := plain_rex _
@[simp] theorem pc_X (r : Rx) : (encX r).all TV.pc = true := pc_rex _
@[simp] theorem noH_X (r : Rx) : noHL (encX r) = true := noH_rex _
@[simp] theorem argTL_X {H : Nat → Option TV} {ρ : List Nat} (r : Rx) : argTL H ρ (encX r) = some (encX r) := argTL_rex _
@[simp] theorem views_X {ρ : List Nat} (r : Rx) : (encX r).flatMap (views1 ρ) = [] := views_rex _
@[simp] theorem opnL_X {k : Nat} (r : Rx) : opnL k (encX r) = (encX r, []) := opnL_rex _
@[simp] theorem closeL_X {H : Nat → Option TV} (r : Rx) : closeL H (encX r) = some (encX r, H) := closeL_rex _
@[simp] theorem noHR_X (l : List Rx) : noHR (l.map encX) = true := by induction l <;> simp [*]
theorem roL_X (r : Rx) : roL (encX r) = encX r := by
  have := roL_rex r.rex
  exact this
@[simp] theorem roRows_X (l : List Rx) : roRows (l.map encX) = l.map encX := by induction l <;> simp [roL_X, *]
theorem frzX {f : FuncId} {args : List TV} {r0 : TV} {x : Rx} (h : TC Tryz.prog f args [] r0 []) (e : toRo r0 = .agg (encX x)) : TC Tryz.prog f args [] (.agg (encX x)) [] := by
  have := h.frz
  rwa [e] at this
theorem kind_no (x : Rx) : isNo x = decide (x.kind = 1 ∧ x.span = []) := by
  cases x with
  | set s => cases s <;> simp [isNo, Rx.kind, Rx.span]
  | _ => simp [isNo, Rx.kind]
theorem tc_l4No (x : Rx) : TC Tryz.prog 97 [.agg (encX x)] [] (.val (.bool (isNo x))) [] := by
  refine TC.enter Tryz.func97 rfl (by simp [Tryz.ntmps97]) rfl (tw_sound (ρ := [1]) ?_)
  rw [Tryz.ntmps97]
  simp [encX_eq, kind_no]
  by_cases c : x.kind = 1 <;> simp [c, kind_no]
theorem tc_l4All (x : Rx) : TC Tryz.prog 102 [.agg (encX x)] [] (.val (.bool (isAll x))) [] := by
  refine TC.enter Tryz.func102 rfl (by simp [Tryz.ntmps102]) rfl (tw_sound (ρ := [1]) ?_)
  rw [Tryz.ntmps102]
  cases x with
  | not a =>
    simp [encX_eq (.not a), Rx.kind, Rx.kids, Rx.span]
    refine TWoH.callV (tc_l4No a) callable_97 (by simp) (by simp) (by simp) (by simp) ?_
    simp [isAll]
  | _ => simp [encX_eq, Rx.kind, isAll]
theorem tc_l4Star (x : Rx) : TC Tryz.prog 93 [.agg (encX x)] [] (.agg (encX (starX x))) [] := by
  by_cases hs : ∃ a, x = .star a
  · obtain ⟨a, rfl⟩ := hs
    refine TC.enter Tryz.func93 rfl (by simp [Tryz.ntmps93]) rfl (tw_sound (ρ := [1]) ?_)
    rw [Tryz.ntmps93]
    simp
    refine gall_intro fun i g => ?_
    simp [starX, encX_eq (.star a), Rx.kind, Rx.kids, Rx.span]
  have k5 : ¬ x.kind = 5 := fun e => by cases x <;> simp [Rx.kind] at e; exact hs ⟨_, rfl⟩
  have hst : starX x = if x = .emp ∨ isNo x = true then .emp else .star x := by cases x <;> first | rfl | exact absurd ⟨_, rfl⟩ hs
  rw [hst]
  have k2 : x = .emp ↔ x.kind = 2 := by cases x <;> simp [Rx.kind]
  by_cases c2 : x.kind = 2
  · rw [if_pos (.inl (k2.2 c2))]
    refine frzX (r0 := .agg [.val (.int .i64 2), .val (.slice none 0 0), .val (.slice none 0 0)]) ?_ (by simp [encX_eq, Rx.kind, Rx.kids, Rx.span])
    refine TC.enter Tryz.func93 rfl (by simp [Tryz.ntmps93]) rfl (tw_sound (ρ := [1]) ?_)
    rw [Tryz.ntmps93]
    simp
    refine gall_intro fun i g => ?_
    simp [encX_eq x, k5, c2]
  by_cases c1 : isNo x = true
  · rw [if_pos (.inr c1)]
    refine frzX (r0 := .agg [.val (.int .i64 2), .val (.slice none 0 0), .val (.slice none 0 0)]) ?_ (by simp [encX_eq, Rx.kind, Rx.kids, Rx.span])
    refine TC.enter Tryz.func93 rfl (by simp [Tryz.ntmps93]) rfl (tw_sound (ρ := [1]) ?_)
    rw [Tryz.ntmps93]
    simp
    refine gall_intro fun i g => ?_
    simp [encX_eq x, k5, c2]
    refine TWoH.callV (tc_l4No x) callable_97 (by simp [encX_eq x]) (by simp) (by simp) (by simp) ?_
    simp [c1]
  · rw [if_neg (by rw [k2]; exact fun e => e.elim c2 c1)]
    refine frzX (r0 := .agg [.val (.int .i64 5), .val (.slice none 0 0), .own 106 [encX x]]) ?_ (by simp [encX_eq (.star x), Rx.kind, Rx.kids, Rx.span, roL_X])
    refine TC.enter Tryz.func93 rfl (by simp [Tryz.ntmps93]) rfl (tw_sound (ρ := [1]) ?_)
    rw [Tryz.ntmps93]
    simp
    refine gall_intro fun i g => ?_
    simp [encX_eq x, k5, c2]
    refine TWoH.callV (tc_l4No x) callable_97 (by simp [encX_eq x]) (by simp) (by simp) (by simp) ?_
    simp [c1, encX_eq x]
    refine gall_fresh [i] (by simp) fun j fj => ?_
    simp [frF] at fj
    simp [fj]
    exact (encX_eq x).symm
theorem tc_l4Not (x : Rx) : TC Tryz.prog 94 [.agg (encX x)] [] (.agg (encX (notX x))) [] := by
  by_cases hs : ∃ a, x = .not a
  · obtain ⟨a, rfl⟩ := hs
    refine TC.enter Tryz.func94 rfl (by simp [Tryz.ntmps94]) rfl (tw_sound (ρ := [1]) ?_)
    rw [Tryz.ntmps94]
    simp
    refine gall_intro fun i g => ?_
    simp [notX, encX_eq (.not a), Rx.kind, Rx.kids, Rx.span]
  have k7 : ¬ x.kind = 7 := fun e => by cases x <;> simp [Rx.kind] at e; exact hs ⟨_, rfl⟩
  have hst : notX x = .not x := by cases x <;> first | rfl | exact absurd ⟨_, rfl⟩ hs
  rw [hst]
  refine frzX (r0 := .agg [.val (.int .i64 7), .val (.slice none 0 0), .own 106 [encX x]]) ?_ (by simp [encX_eq (.not x), Rx.kind, Rx.kids, Rx.span, roL_X])
  refine TC.enter Tryz.func94 rfl (by simp [Tryz.ntmps94]) rfl (tw_sound (ρ := [1]) ?_)
  rw [Tryz.ntmps94]
  simp
  refine gall_intro fun i g => ?_
  simp [encX_eq x, k7]
  refine gall_fresh [i] (by simp) fun j fj => ?_
  simp [frF] at fj
  simp [fj]
  exact (encX_eq x).symm
theorem kind_emp (x : Rx) : x = .emp ↔ x.kind = 2 := by cases x <;> simp [Rx.kind]
theorem no_kind {x : Rx} (h : x.kind = 3) : ∃ a b, x = .cat a b := by cases x <;> simp [Rx.kind] at h; exact ⟨_, _, rfl⟩
theorem catX_no {a b : Rx} (h : (isNo a || isNo b) = true) : catX a b = .set [] := by
  cases a <;> unfold catX
  case cat x y => rw [if_pos (by simpa [isNo] using h)]
  case emp => rw [if_pos (by simpa [isNo] using h)]
  all_goals rw [if_pos h]
theorem catX_l {b : Rx} (h : isNo b = false) : catX .emp b = b := by unfold catX; rw [if_neg (by simp [h])]
theorem catX_r {a : Rx} (h : isNo a = false) : catX a .emp = a := by
  cases a <;> unfold catX
  case cat x y => simp [isNo]
  case emp => simp [isNo]
  all_goals simp [h, isNo] <;> simp [isNo] at h ⊢ <;> simp [h]
theorem catX_c {x y b : Rx} (h : isNo b = false) (h2 : ¬ b = .emp) : catX (.cat x y) b = catX x (catX y b) := by
  conv => lhs; unfold catX
  rw [if_neg (by simp [h]), if_neg h2]
theorem catX_o {a b : Rx} (h1 : isNo a = false) (h : isNo b = false) (h2 : ¬ b = .emp) (h3 : ¬ a.kind = 2) (h4 : ¬ a.kind = 3) : catX a b = .cat a b := by
  cases a <;> unfold catX <;> simp [Rx.kind] at h3 h4 <;> simp [h, h1, h2]
theorem X_set (s : List (Int × Int)) : encX (.set s) = [.val (.int .i64 1), .ro (s.map encS), .ro []] := by rw [encX_eq]; rfl
theorem X_emp : encX .emp = [.val (.int .i64 2), .ro [], .ro []] := by rw [encX_eq]; rfl
theorem X_cat (a b : Rx) : encX (.cat a b) = [.val (.int .i64 3), .ro [], .ro [encX a, encX b]] := by rw [encX_eq]; rfl
theorem X_or (a b : Rx) : encX (.or a b) = [.val (.int .i64 4), .ro [], .ro [encX a, encX b]] := by rw [encX_eq]; rfl
theorem X_star (a : Rx) : encX (.star a) = [.val (.int .i64 5), .ro [], .ro [encX a]] := by rw [encX_eq]; rfl
theorem X_and (a b : Rx) : encX (.and a b) = [.val (.int .i64 6), .ro [], .ro [encX a, encX b]] := by rw [encX_eq]; rfl
theorem X_not (a : Rx) : encX (.not a) = [.val (.int .i64 7), .ro [], .ro [encX a]] := by rw [encX_eq]; rfl
theorem tc_l4CatO (a b : Rx) (h3 : ¬ a.kind = 3) : TC Tryz.prog 90 [.agg (encX a), .agg (encX b)] [] (.agg (encX (catX a b))) [] := by
  by_cases c0 : (isNo a || isNo b) = true
  · rw [catX_no c0]
    refine frzX (r0 := .agg [.val (.int .i64 1), .val (.slice none 0 0), .val (.slice none 0 0)]) ?_ (by simp [X_set])
    refine TC.enter Tryz.func90 rfl (by simp [Tryz.ntmps90]) rfl (tw_sound (ρ := [2, 3]) ?_)
    rw [Tryz.ntmps90]
    simp
    refine gall_intro fun i g => ?_
    simp
    refine TWoH.callV (tc_l4No a) callable_97 (by simp) (by simp) (by simp) (by simp) ?_
    cases ha : isNo a
    · have hb : isNo b = true := by simpa [ha] using c0
      simp
      refine TWoH.callV (tc_l4No b) callable_97 (by simp) (by simp) (by simp) (by simp) ?_
      simp [hb]
    · simp
  have ha : isNo a = false := by cases h : isNo a; rfl; simp [h] at c0
  have hb : isNo b = false := by cases h : isNo b; rfl; simp [h] at c0
  by_cases c2 : a.kind = 2
  · obtain rfl := (kind_emp a).2 c2
    rw [catX_l hb]
    refine TC.enter Tryz.func90 rfl (by simp [Tryz.ntmps90]) rfl (tw_sound (ρ := [2, 3]) ?_)
    rw [Tryz.ntmps90]
    simp
    refine gall_intro fun i g => ?_
    simp
    refine TWoH.callV (tc_l4No .emp) callable_97 (by simp) (by simp) (by simp) (by simp) ?_
    simp [ha]
    refine TWoH.callV (tc_l4No b) callable_97 (by simp) (by simp) (by simp) (by simp) ?_
    simp [hb, X_emp]
  by_cases c1 : b.kind = 2
  · obtain rfl := (kind_emp b).2 c1
    rw [catX_r ha]
    refine TC.enter Tryz.func90 rfl (by simp [Tryz.ntmps90]) rfl (tw_sound (ρ := [2, 3]) ?_)
    rw [Tryz.ntmps90]
    simp
    refine gall_intro fun i g => ?_
    simp
    refine TWoH.callV (tc_l4No a) callable_97 (by simp) (by simp) (by simp) (by simp) ?_
    simp [ha]
    refine TWoH.callV (tc_l4No .emp) callable_97 (by simp) (by simp) (by simp) (by simp) ?_
    simp [hb, X_emp, encX_eq a, c2]
  rw [catX_o ha hb (fun e => c1 ((kind_emp b).1 e)) c2 h3]
  refine frzX (r0 := .agg [.val (.int .i64 3), .val (.slice none 0 0), .own 106 [encX a, encX b]]) ?_ (by simp [X_cat, roL_X])
  refine TC.enter Tryz.func90 rfl (by simp [Tryz.ntmps90]) rfl (tw_sound (ρ := [2, 3]) ?_)
  rw [Tryz.ntmps90]
  simp
  refine gall_intro fun i g => ?_
  simp
  refine TWoH.callV (tc_l4No a) callable_97 (by simp) (by simp) (by simp) (by simp) ?_
  simp [ha]
  refine TWoH.callV (tc_l4No b) callable_97 (by simp) (by simp) (by simp) (by simp) ?_
  simp [hb, encX_eq a, encX_eq b, c1, c2, h3]
  refine gall_fresh [i] (by simp) fun j fj => ?_
  simp [frF] at fj
  simp [fj]
  exact ⟨(encX_eq a).symm, (encX_eq b).symm⟩
theorem tc_l4Cat : ∀ (a b : Rx), TC Tryz.prog 90 [.agg (encX a), .agg (encX b)] [] (.agg (encX (catX a b))) [] := by
  intro a
  induction a with
  | cat x y ihx ihy =>
    intro b
    have n1 : isNo (.cat x y) = false := rfl
    by_cases c0 : isNo b = true
    · rw [catX_no (by simp [c0])]
      refine frzX (r0 := .agg [.val (.int .i64 1), .val (.slice none 0 0), .val (.slice none 0 0)]) ?_ (by simp [X_set])
      refine TC.enter Tryz.func90 rfl (by simp [Tryz.ntmps90]) rfl (tw_sound (ρ := [2, 3]) ?_)
      rw [Tryz.ntmps90]
      simp
      refine gall_intro fun i g => ?_
      simp
      refine TWoH.callV (tc_l4No (.cat x y)) callable_97 (by simp) (by simp) (by simp) (by simp) ?_
      simp [n1]
      refine TWoH.callV (tc_l4No b) callable_97 (by simp) (by simp) (by simp) (by simp) ?_
      simp [n1, c0]
    have c0' : isNo b = false := by simpa using c0
    by_cases c1 : b = .emp
    · subst c1
      rw [catX_r (by rfl)]
      refine TC.enter Tryz.func90 rfl (by simp [Tryz.ntmps90]) rfl (tw_sound (ρ := [2, 3]) ?_)
      rw [Tryz.ntmps90]
      simp
      refine gall_intro fun i g => ?_
      simp
      refine TWoH.callV (tc_l4No (.cat x y)) callable_97 (by simp) (by simp) (by simp) (by simp) ?_
      simp [n1]
      refine TWoH.callV (tc_l4No .emp) callable_97 (by simp) (by simp) (by simp) (by simp) ?_
      simp [n1, c0', X_cat, X_emp]
    have c2 : ¬ b.kind = 2 := fun e => c1 ((kind_emp b).2 e)
    rw [catX_c c0' c1]
    refine TC.enter Tryz.func90 rfl (by simp [Tryz.ntmps90]) rfl (tw_sound (ρ := [2, 3]) ?_)
    rw [Tryz.ntmps90]
    simp
    refine gall_intro fun i g => ?_
    simp
    refine TWoH.callV (tc_l4No (.cat x y)) callable_97 (by simp) (by simp) (by simp) (by simp) ?_
    simp [n1]
    refine TWoH.callV (tc_l4No b) callable_97 (by simp) (by simp) (by simp) (by simp) ?_
    simp [c0', X_cat, encX_eq b, c2]
    refine TWcH.regionD (ρ := [2, 3]) [0, 1, 2, 3, 4, 5, 6, 7, 8, 9, 10, 11] 11 mixed (by kernel_rfl) ?_
    simp
    refine TWqH.callV (ihy b) callable_90 (by simp [encX_eq b]) (by simp) (by simp) (by simp) ?_
    simp
    refine TWqH.callV (ihx (catX y b)) callable_90 (by simp) (by simp) (by simp) (by simp) ?_
    simp
  | _ => intro b; exact tc_l4CatO _ b (by simp [Rx.kind])
end Go.Proofs.YtibeeohnjabhkaaGreatDoor.R
