/- FnExactLexMeans, part 2: for every input that can be read as data the law returns true and its arguments read as before. Conditions: none but those that each theorem states. -/
import Derived.Test.YtigmibfacllhmaaRows
import Derived.Test.YtigmibfacllhmaaK1
import Derived.Below
import Derived.Carry
import Derived.ChangeArms
import Derived.ChangeOld
import Derived.ChangeSlices
import Derived.DataReads
import Derived.Deep.Slices
import Derived.KernelRfl
import Derived.Laws.AppendOwn
import Derived.Laws.BytesString
import Derived.Laws.CopyRow
import Derived.Laws.MakeOwn
import Derived.Laws.OwnMore
import Derived.Laws.Rows
import Derived.Laws.Strings
import Derived.Laws.StructEq
import Derived.Maps.AppendAt
import Derived.OpenShut
import Derived.OrdersHeld
import Derived.ProofKit
import Derived.ShutString
import Derived.SizedLaws
import Derived.StillTail
import Derived.WalkKit
open Go Go.Proofs.Ytigmibfacllhmaa.T
namespace Go.Proofs.Ytigmibfacllhmaa.R
def rv (f : List UInt8 → Bool) (t : List UInt8) (k : Nat) : Bool := (reachL f t k).getD k false
theorem reachL_at (f : List UInt8 → Bool) (t : List UInt8) : ∀ (n j : Nat), j ≤ n → (reachL f t n).getD j false = rv f t j
  | 0, j, h => by obtain rfl : j = 0 := by omega
                  rfl
  | n + 1, j, h => by
    by_cases hj : j = n + 1
    · subst hj; rfl
    · rw [reachL, List.getD_eq_getElem?_getD, List.getElem?_append_left (by rw [reachL_len]; omega), ← List.getD_eq_getElem?_getD]
      exact reachL_at f t n j (by omega)
theorem rv_succ (f : List UInt8 → Bool) (t : List UInt8) (k : Nat) : rv f t (k + 1) = (List.range (k + 1)).any fun j => rv f t j && f ((t.take (k + 1)).drop j) := by
  unfold rv
  rw [reachL, List.getD_eq_getElem?_getD, List.getElem?_append_right (by rw [reachL_len]; omega), reachL_len]
  simp only [Nat.sub_self, List.getElem?_cons_zero, Option.getD_some, anyF]
  rw [Bool.eq_iff_iff, List.any_eq_true, List.any_eq_true]
  constructor
  · rintro ⟨j, hj, h⟩
    have := List.mem_range.1 hj
    exact ⟨j, hj, by rw [reachL_at f t k j (by omega)] at h; exact h⟩
  · rintro ⟨j, hj, h⟩
    have := List.mem_range.1 hj
    exact ⟨j, hj, by rw [reachL_at f t k j (by omega)]; exact h⟩
def StP (f : List UInt8 → Bool) (p : List UInt8) : Prop := ∃ parts : List (List UInt8), (∀ a ∈ parts, a ≠ [] ∧ f a = true) ∧ parts.flatten = p
theorem rv_iff (f : List UInt8 → Bool) (t : List UInt8) : ∀ (k : Nat), k ≤ t.length → (rv f t k = true ↔ StP f (t.take k)) := by
  intro k
  induction k using Nat.strongRecOn with
  | _ k ih =>
    intro hk
    cases k with
    | zero => exact ⟨fun _ => ⟨[], by simp, by simp⟩, fun _ => rfl⟩
    | succ k =>
      rw [rv_succ, List.any_eq_true]
      constructor
      · rintro ⟨j, hj, h⟩
        have hj := List.mem_range.1 hj
        simp only [Bool.and_eq_true] at h
        obtain ⟨parts, h1, h2⟩ := (ih j hj (by omega)).1 h.1
        refine ⟨parts ++ [(t.take (k + 1)).drop j], fun a ha => ?_, ?_⟩
        · rcases List.mem_append.1 ha with ha | ha
          · exact h1 a ha
          · rw [List.mem_singleton] at ha
            subst ha
            refine ⟨fun e => ?_, h.2⟩
            have := congrArg List.length e
            simp at this
            omega
        · rw [List.flatten_append, h2, List.flatten_cons, List.flatten_nil, List.append_nil]
          have : t.take j = (t.take (k + 1)).take j := by rw [List.take_take]; congr 1; omega
          rw [this, List.take_append_drop]
      · rintro ⟨parts, h1, h2⟩
        rcases List.eq_nil_or_concat parts with rfl | ⟨init, a, rfl⟩
        · have := congrArg List.length h2
          simp at this
          omega
        · rw [List.concat_eq_append] at h1 h2
          have ha := h1 a (by simp)
          rw [List.flatten_append, List.flatten_cons, List.flatten_nil, List.append_nil] at h2
          have hl := congrArg List.length h2
          rw [List.length_append, List.length_take] at hl
          have hal : 0 < a.length := List.length_pos_iff.2 ha.1
          have hj : init.flatten.length < k + 1 := by omega
          refine ⟨init.flatten.length, List.mem_range.2 hj, ?_⟩
          rw [Bool.and_eq_true]
          constructor
          · refine (ih _ hj (by omega)).2 ⟨init, fun b hb => h1 b (by simp [hb]), ?_⟩
            have : t.take init.flatten.length = (t.take (k + 1)).take init.flatten.length := by rw [List.take_take]; congr 1; omega
            rw [this, ← h2, List.take_left']
            rfl
          · rw [← h2, List.drop_left' rfl]; exact ha.2
theorem starF_iff (f : List UInt8 → Bool) (t : List UInt8) : starF f t = true ↔ StP f t := by
  have := rv_iff f t t.length (Nat.le_refl _)
  rwa [List.take_length] at this
theorem starF_first (f : List UInt8 → Bool) (p : List UInt8) : starF f p = (decide (p.length = 0) || (List.range p.length).any fun x => f (p.take (x + 1)) && starF f (p.drop (x + 1))) := by
  rw [Bool.eq_iff_iff, starF_iff, Bool.or_eq_true, decide_eq_true_eq, List.any_eq_true]
  constructor
  · rintro ⟨parts, h1, h2⟩
    cases parts with
    | nil => left; rw [← h2]; rfl
    | cons a rest =>
      right
      have ha := h1 a (by simp)
      have hal : 0 < a.length := List.length_pos_iff.2 ha.1
      rw [List.flatten_cons] at h2
      have hl := congrArg List.length h2
      rw [List.length_append] at hl
      refine ⟨a.length - 1, List.mem_range.2 (by omega), ?_⟩
      rw [show a.length - 1 + 1 = a.length by omega, Bool.and_eq_true, ← h2, List.take_left' rfl, List.drop_left' rfl, starF_iff]
      exact ⟨ha.2, rest, fun b hb => h1 b (by simp [hb]), rfl⟩
  · rintro (h | ⟨x, hx, h⟩)
    · exact ⟨[], by simp, by rw [List.length_eq_zero_iff] at h; rw [h]; rfl⟩
    · have hx := List.mem_range.1 hx
      rw [Bool.and_eq_true, starF_iff] at h
      obtain ⟨h0, parts, h1, h2⟩ := h
      refine ⟨p.take (x + 1) :: parts, fun a ha => ?_, by rw [List.flatten_cons, h2, List.take_append_drop]⟩
      rcases List.mem_cons.1 ha with rfl | ha
      · refine ⟨fun e => ?_, h0⟩
        have := congrArg List.length e
        rw [List.length_take, List.length_nil] at this
        omega
      · exact h1 a ha
end Go.Proofs.Ytigmibfacllhmaa.R

open Go Go.Proofs.Ytigmibfacllhmaa.T
namespace Go.Proofs.Ytigmibfacllhmaa.R
set_option linter.unusedSimpArgs false
set_option linter.unusedVariables false
/-- A table of thirteen rows of thirteen answers. -/
def tabL (T : Nat → Nat → Bool) : List TV := (List.range 169).map fun x => .val (.bool (T (x / 13) (x % 13)))
@[simp] theorem len_tab (T : Nat → Nat → Bool) : (tabL T).length = 169 := by simp [tabL]
@[simp] theorem plain_tab (T : Nat → Nat → Bool) : (tabL T).all TV.plain = true := by simp [tabL]
@[simp] theorem pc_tab (T : Nat → Nat → Bool) : (tabL T).all TV.pc = true := by simp [tabL]
theorem noHL_vals : ∀ (l : List TV), (∀ t ∈ l, ∃ v, t = .val (.bool v)) → noHL l = true
  | [], _ => by simp
  | t :: l, h => by
    obtain ⟨v, rfl⟩ := h t (by simp)
    simp [noHL_vals l fun t ht => h t (by simp [ht])]
theorem vals_tab {T : Nat → Nat → Bool} : ∀ t ∈ tabL T, ∃ v, t = .val (.bool v) := by
  intro t ht; simp only [tabL, List.mem_map] at ht; obtain ⟨x, _, rfl⟩ := ht; exact ⟨_, rfl⟩
@[simp] theorem noH_tab (T : Nat → Nat → Bool) : noHL (tabL T) = true := noHL_vals _ vals_tab
theorem closeL_vals {H : Nat → Option TV} : ∀ (l : List TV), (∀ t ∈ l, ∃ v, t = .val (.bool v)) → closeL H l = some (l, H)
  | [], _ => by simp
  | t :: l, h => by
    obtain ⟨v, rfl⟩ := h t (by simp)
    simp [closeL_vals l fun t ht => h t (by simp [ht])]
@[simp] theorem closeL_tab {H : Nat → Option TV} (T : Nat → Nat → Bool) : closeL H (tabL T) = some (tabL T, H) := closeL_vals _ vals_tab
theorem opnL_vals {k : Nat} : ∀ (l : List TV), (∀ t ∈ l, ∃ v, t = .val (.bool v)) → opnL k l = (l, [])
  | [], _ => by simp
  | t :: l, h => by
    obtain ⟨v, rfl⟩ := h t (by simp)
    simp [opnL_vals l fun t ht => h t (by simp [ht])]
@[simp] theorem opnL_tab {k : Nat} (T : Nat → Nat → Bool) : opnL k (tabL T) = (tabL T, []) := opnL_vals _ vals_tab
@[simp] theorem take_tab (T : Nat → Nat → Bool) : (tabL T).take 169 = tabL T := List.take_of_length_le (by simp)
@[simp] theorem drop_tab (T : Nat → Nat → Bool) : (tabL T).drop 169 = [] := List.drop_eq_nil_of_le (by simp)
theorem get_tab {T : Nat → Nat → Bool} {i j : Nat} (hi : i < 13) (hj : j < 13) : (tabL T)[i * 13 + j]? = some (.val (.bool (T i j))) := by
  have h1 : (i * 13 + j) / 13 = i := by omega
  have h2 : (i * 13 + j) % 13 = j := by omega
  simp [tabL, List.getElem?_range (show i * 13 + j < 169 by omega), h1, h2]
theorem cut_tab {T : Nat → Nat → Bool} {i j : Nat} (hi : i < 13) (hj : j < 13) : ((tabL T).drop (i * 13 + j)).take 1 = [.val (.bool (T i j))] := by
  have h := get_tab (T := T) hi hj
  have hl : i * 13 + j < (tabL T).length := by simp; omega
  rw [List.drop_eq_getElem_cons hl]
  rw [List.getElem?_eq_getElem hl] at h
  rw [List.take_succ_cons, List.take_zero, Option.some.inj h]
def updT (T : Nat → Nat → Bool) (i j : Nat) (b : Bool) : Nat → Nat → Bool := fun x y => if x = i ∧ y = j then b else T x y
theorem set_tab {T : Nat → Nat → Bool} {i j : Nat} (hi : i < 13) (hj : j < 13) (b : Bool) : (tabL T).take (i * 13 + j) ++ .val (.bool b) :: (tabL T).drop (i * 13 + j + 1) = tabL (updT T i j b) := by
  apply List.ext_getElem?
  intro x
  by_cases hx : x < 169
  · have ex : (tabL (updT T i j b))[x]? = some (.val (.bool (updT T i j b (x / 13) (x % 13)))) := by
      simp [tabL, List.getElem?_range hx]
    have et : (tabL T)[x]? = some (.val (.bool (T (x / 13) (x % 13)))) := by
      simp [tabL, List.getElem?_range hx]
    rw [ex]
    rcases Nat.lt_trichotomy x (i * 13 + j) with h | h | h
    · rw [List.getElem?_append_left (by simp; omega), List.getElem?_take_of_lt h, et]
      have : ¬ (x / 13 = i ∧ x % 13 = j) := by omega
      simp [updT, this]
    · subst h
      rw [List.getElem?_append_right (by simp; omega)]
      have h1 : (i * 13 + j) / 13 = i := by omega
      have h2 : (i * 13 + j) % 13 = j := by omega
      have h3 : i * 13 + j - ((tabL T).take (i * 13 + j)).length = 0 := by simp; omega
      rw [h3]; simp [updT, h1, h2]
    · rw [List.getElem?_append_right (by simp; omega)]
      have h3 : x - ((tabL T).take (i * 13 + j)).length = (x - (i * 13 + j + 1)) + 1 := by simp; omega
      rw [h3, List.getElem?_cons_succ, List.getElem?_drop, show i * 13 + j + 1 + (x - (i * 13 + j + 1)) = x by omega, et]
      have : ¬ (x / 13 = i ∧ x % 13 = j) := by omega
      simp [updT, this]
  · rw [List.getElem?_eq_none (by simp; omega), List.getElem?_eq_none (by simp; omega)]
theorem zero_tab : List.replicate 169 (TV.val (.bool false)) = tabL fun _ _ => false := by
  apply List.ext_getElem?
  intro x
  by_cases hx : x < 169
  · rw [List.getElem?_replicate, if_pos hx]
    simp only [tabL, List.getElem?_map, List.getElem?_range hx]
    rfl
  · rw [List.getElem?_eq_none (by rw [List.length_replicate]; omega), List.getElem?_eq_none (by simp; omega)]
theorem zero_tab2 : List.replicate 338 (TV.val (.bool false)) = tabL (fun _ _ => false) ++ tabL fun _ _ => false := by
  rw [← zero_tab, List.replicate_append_replicate]
theorem tab_congr {T T' : Nat → Nat → Bool} (h : ∀ i j, i < 13 → j < 13 → T i j = T' i j) : tabL T = tabL T' := by
  unfold tabL
  apply List.map_congr_left
  intro x hx
  rw [h _ _ (by have := List.mem_range.1 hx; omega) (by omega)]
@[simp high] theorem zeroT_136' : zeroT Try.prog 136 = some (tabL fun _ _ => false) := by rw [← zero_tab]; exact zeroT_136
@[simp high] theorem zeroT_153' : zeroT Try.prog 153 = some (tabL (fun _ _ => false) ++ tabL fun _ _ => false) := by rw [← zero_tab2]; exact zeroT_153
@[simp] theorem pc_tab2 (A B : Nat → Nat → Bool) : (tabL A ++ tabL B).all TV.pc = true := by rw [List.all_append, pc_tab, pc_tab]; rfl
@[simp] theorem plain_tab2 (A B : Nat → Nat → Bool) : (tabL A ++ tabL B).all TV.plain = true := by rw [List.all_append, plain_tab, plain_tab]; rfl
theorem two_fst (A B : Nat → Nat → Bool) : (tabL A ++ tabL B).take 169 = tabL A := by rw [List.take_append_of_le_length (by simp), take_tab]
theorem two_snd (A B : Nat → Nat → Bool) : ((tabL A ++ tabL B).drop 169).take 169 = tabL B := by
  rw [List.drop_append_of_le_length (by simp), List.drop_eq_nil_of_le (by simp), List.nil_append, take_tab]
theorem two_set0 (A B X : Nat → Nat → Bool) : tabL X ++ (tabL A ++ tabL B).drop 169 = tabL X ++ tabL B := by
  rw [List.drop_append_of_le_length (by simp), List.drop_eq_nil_of_le (by simp), List.nil_append]
theorem two_set1 (A B X : Nat → Nat → Bool) : (tabL A ++ tabL B).take 169 ++ (tabL X ++ (tabL A ++ tabL B).drop 338) = tabL A ++ tabL X := by
  rw [two_fst, List.drop_eq_nil_of_le (by simp), List.append_nil]
/-- Plain law: the first piece of any number of such. -/
def piece (t : List UInt8) (i j : Nat) : List UInt8 := (t.take j).drop i
def tabF (f : List UInt8 → Bool) (t : List UInt8) (i j : Nat) : Bool := decide (i ≤ j ∧ j ≤ t.length) && f (piece t i j)
end Go.Proofs.Ytigmibfacllhmaa.R

open Go Go.Proofs.Ytigmibfacllhmaa.T
namespace Go.Proofs.Ytigmibfacllhmaa.R
set_option maxHeartbeats 4000000
set_option maxRecDepth 100000
set_option linter.unusedSimpArgs false
set_option linter.unusedVariables false
theorem ne_some {H : Nat → Option TV} {i j : Nat} (h : (H i).isSome = true) (h' : H j = none) : ¬ i = j := fun e => by rw [e, h'] at h; cases h
def tabS (G : List UInt8 → Bool) (t : List UInt8) (q i0 : Nat) (x y : Nat) : Bool := decide (x ≤ y ∧ y ≤ t.length ∧ (y - x < q ∨ (y - x = q ∧ x < i0))) && G (piece t x y)
def noT : Nat → Nat → Bool := fun _ _ => false
theorem tabS_zero {G : List UInt8 → Bool} {t : List UInt8} : tabL (fun _ _ => false) = tabL (tabS G t 0 0) := tab_congr fun i j _ _ => by simp [tabS]
theorem tabS_next {G : List UInt8 → Bool} {t : List UInt8} {q i : Nat} (h : t.length < i + q) : tabL (tabS G t q i) = tabL (tabS G t (q + 1) 0) := tab_congr fun x y _ _ => by
  unfold tabS
  congr 1
  rw [decide_eq_decide]; omega
theorem tabS_all {G : List UInt8 → Bool} {t : List UInt8} {q : Nat} (h : t.length < q) : tabL (tabS G t q 0) = tabL (tabF G t) := tab_congr fun x y _ _ => by
  unfold tabS tabF
  congr 1
  rw [decide_eq_decide]; omega
theorem tabS_set {G : List UInt8 → Bool} {t : List UInt8} {q i : Nat} (h : i + q ≤ t.length) : updT (tabS G t q i) i (i + q) (G (piece t i (i + q))) = tabS G t q (i + 1) := by
  funext x y
  unfold updT
  by_cases e : x = i ∧ y = i + q
  · obtain ⟨rfl, rfl⟩ := e
    rw [if_pos ⟨rfl, rfl⟩, tabS, show decide _ = true from decide_eq_true (by omega)]; rfl
  · rw [if_neg e]
    unfold tabS
    congr 1
    rw [decide_eq_decide]; omega
theorem tabF_at {f : List UInt8 → Bool} {t : List UInt8} {i j : Nat} (h : i ≤ j) (h' : j ≤ t.length) : tabF f t i j = f (piece t i j) := by simp [tabF, h, h']
theorem tabS_at {G : List UInt8 → Bool} {t : List UInt8} {q i x y : Nat} (h : x ≤ y) (h' : y ≤ t.length) (h2 : y - x < q) : tabS G t q i x y = G (piece t x y) := by simp [tabS, h, h', h2]
def catP (fa fb : List UInt8 → Bool) (t : List UInt8) (i q o : Nat) : Bool := (List.range o).any fun x => fa (piece t i (i + x)) && fb (piece t (i + x) (i + q))
theorem catP_succ {fa fb : List UInt8 → Bool} {t : List UInt8} {i q o : Nat} : catP fa fb t i q (o + 1) = (catP fa fb t i q o || (fa (piece t i (i + o)) && fb (piece t (i + o) (i + q)))) := by
  simp [catP, List.range_succ]
theorem piece_take {t : List UInt8} {i q x : Nat} (h : x ≤ q) : (piece t i (i + q)).take x = piece t i (i + x) := by
  simp only [piece, List.drop_take, List.take_take]
  congr 1; omega
theorem piece_drop {t : List UInt8} {i q x : Nat} : (piece t i (i + q)).drop x = piece t (i + x) (i + q) := by
  simp only [piece, List.drop_drop]
theorem catP_all {fa fb : List UInt8 → Bool} {t : List UInt8} {i q : Nat} (h : i + q ≤ t.length) : catP fa fb t i q (q + 1) = catF fa fb (piece t i (i + q)) 0 := by
  have hl : (piece t i (i + q)).length = q := by simp [piece]; omega
  unfold catP catF
  rw [hl, Nat.sub_zero, ← List.range_eq_range']
  rw [Bool.eq_iff_iff, List.any_eq_true, List.any_eq_true]
  constructor
  · rintro ⟨x, hx, h1⟩
    have := List.mem_range.1 hx
    exact ⟨x, hx, by rw [piece_take (by omega), piece_drop]; exact h1⟩
  · rintro ⟨x, hx, h1⟩
    have := List.mem_range.1 hx
    exact ⟨x, hx, by rw [piece_take (by omega), piece_drop] at h1; exact h1⟩
def starP (f : List UInt8 → Bool) (t : List UInt8) (i q o : Nat) : Bool := decide (q = 0) || (List.range o).any fun x => f (piece t i (i + 1 + x)) && starF f (piece t (i + 1 + x) (i + q))
theorem starP_succ {f : List UInt8 → Bool} {t : List UInt8} {i q o : Nat} : starP f t i q (o + 1) = (starP f t i q o || (f (piece t i (i + 1 + o)) && starF f (piece t (i + 1 + o) (i + q)))) := by
  simp [starP, List.range_succ, Bool.or_assoc]
theorem starP_all {f : List UInt8 → Bool} {t : List UInt8} {i q : Nat} (h : i + q ≤ t.length) : starP f t i q q = starF f (piece t i (i + q)) := by
  have hl : (piece t i (i + q)).length = q := by simp [piece]; omega
  rw [starF_first, hl]
  unfold starP
  congr 1
  rw [Bool.eq_iff_iff, List.any_eq_true, List.any_eq_true]
  constructor
  · rintro ⟨x, hx, h1⟩
    have := List.mem_range.1 hx
    exact ⟨x, hx, by rw [piece_take (by omega), piece_drop, show i + (x + 1) = i + 1 + x by omega]; exact h1⟩
  · rintro ⟨x, hx, h1⟩
    have := List.mem_range.1 hx
    exact ⟨x, hx, by rw [piece_take (by omega), piece_drop, show i + (x + 1) = i + 1 + x by omega] at h1; exact h1⟩
theorem tc_pieces : ∀ (d : Nat) (r : Rex) (t : List UInt8), Sm r → formF d r = true → t.length ≤ 12 → TC Try.prog 117 [.agg (encRex r), .val (.string (bs t))] [] (.agg (tabL (tabF (isF d r) t))) []
  | 0, r, t, hs, hf, ht => by simp [formF] at hf
  | d + 1, .mk k s l, t, hs, hf, ht => by
    refine TC.enter Try.func117 rfl (by simp [Try.ntmps117]) rfl (tw_sound (ρ := [2]) ?_)
    rw [Try.ntmps117]
    simp [encRex, encRexL_eq]
    refine gall_intro fun a ha => ?_
    simp
    refine gall_intro fun c hc => ?_
    have hca : ¬ c = a := fun e => by simp [e] at hc
    have hac : ¬ a = c := fun e => hca e.symm
    simp [hca, hac]
    have hlen : l.length ≤ 2 := by rcases form_kids hf with ⟨_, rfl⟩ | ⟨_, _, rfl, _⟩ | ⟨_, _, _, rfl, _⟩ <;> simp
    refine TWcH.loop [] (fun m s' => ∃ i, i + m = l.length ∧ s'.σ 1 = .val (.string (bs t)) ∧ s'.σ 2 = .rptr [.val (.int .i64 k), .ro (s.map encS), .ro (l.map encRex)] 0 ∧ s'.σ 4 = .pd a 0 0 0 ∧ s'.σ 5 = .pd c 0 0 0 ∧ s'.σ 19 = .ro (l.map encRex) ∧ s'.σ 20 = .val (.int .i64 l.length) ∧ s'.σ 21 = .val (.int .i64 i) ∧ s'.H a = some (.box 136 (tabL noT)) ∧
      ∃ A B, s'.H c = some (.box 153 (tabL A ++ tabL B)) ∧ (∀ x, l[0]? = some x → 0 < i → A = tabF (isF d x) t) ∧ (∀ x, l[1]? = some x → 1 < i → B = tabF (isF d x) t)) l.length ⟨0, by simp [hac]; exact ⟨rfl, _, _, rfl⟩⟩ ?_
    rintro m ⟨σ, H⟩ ⟨i, him, h1, h2, h4, h5, h19, h20, h21, hA, A, B, hC, hfA, hfB⟩
    simp only at h1 h2 h4 h5 h19 h20 h21 hA hC
    by_cases hi : i < l.length
    · have hw := hw1 hi (by omega)
      simp [h1, h2, h4, h5, h19, h20, h21, getI hi, hi]
      refine gall_intro fun b hb => ?_
      have hbc : ¬ c = b := fun e => by simp [← e, hC] at hb
      have hba : ¬ a = b := fun e => by simp [← e, hA] at hb
      have hcb : ¬ b = c := fun e => hbc e.symm
      simp [h1, h2, h4, h5, h19, h20, h21, getI hi, hi]
      refine TWoH.callV (tc_pieces d l[i] t (SmL.get hs.2.2 hi) (formF_kid hf hi) ht) callable_117 (by simp [h1]) (by simp) (by simp) (by simp) ?_
      rcases (show i = 0 ∨ i = 1 by omega) with rfl | rfl
      · simp [h1, h2, h4, h5, h19, h20, h21, hi, hC, hbc, hba, hcb, two_set0]
        exact ⟨m - 1, by omega, 1, by omega, by rw [wrapi (by omega)]; rfl, by rw [if_neg hac]; exact hA, _, B, rfl, fun _ => rfl, fun x _ h => by omega⟩
      · simp [h1, h2, h4, h5, h19, h20, h21, hi, hC, hbc, hba, hcb]
        exact ⟨m - 1, by omega, 2, by omega, by rw [wrapi (by omega)]; rfl, by rw [if_neg hac]; exact hA, A, tabF (isF d l[1]) t, by rw [List.drop_eq_nil_of_le (by simp), List.append_nil], fun x hx _ => hfA x hx (by omega), fun _ => rfl⟩
    · obtain rfl : i = l.length := by omega
      simp [h1, h2, h4, h5, h19, h20, h21]
      refine TWcH.midB (ρ := []) (fun s' => ∃ x y, s'.σ 1 = .val (.string (bs t)) ∧ s'.σ 2 = .rptr [.val (.int .i64 k), .ro (s.map encS), .ro (l.map encRex)] 0 ∧ s'.σ 4 = .pd a 0 0 0 ∧ s'.σ 8 = .pd x 0 0 0 ∧ s'.σ 9 = .pd y 0 0 0 ∧ s'.H a = some (.box 136 (tabL noT)) ∧ s'.H x = some (.box 136 (tabL A)) ∧ s'.H y = some (.box 136 (tabL B)))
        (.first 0 (.first 2 (.pick 1 (.pick 3 (.pick 4 (.pick 5 (.pick 6 (.pick 7 .fin .fin) .fin) .fin) (.pick 5 (.pick 4 (.pick 6 (.pick 7 .fin .fin) .fin) .fin) .fin)) (.pick 4 (.pick 3 (.pick 5 (.pick 6 (.pick 7 .fin .fin) .fin) .fin) (.pick 5 (.pick 3 (.pick 6 (.pick 7 .fin .fin) .fin) (.pick 6 (.pick 3 (.pick 7 .fin .fin) .fin) .fin)) .fin)) (.pick 5 (.pick 3 (.pick 4 (.pick 6 (.pick 7 .fin .fin) .fin) .fin) (.pick 4 (.pick 3 (.pick 6 (.pick 7 .fin .fin) .fin) (.pick 6 (.pick 3 (.pick 7 .fin .fin) .fin) .fin)) .fin)) .fin))) (.pick 3 (.pick 1 (.pick 4 (.pick 5 (.pick 6 (.pick 7 .fin .fin) .fin) .fin) (.pick 5 (.pick 4 (.pick 6 (.pick 7 .fin .fin) .fin) .fin) .fin)) (.pick 4 (.pick 1 (.pick 5 (.pick 6 (.pick 7 .fin .fin) .fin) .fin) (.pick 5 (.pick 1 (.pick 6 (.pick 7 .fin .fin) .fin) .fin) .fin)) (.pick 5 (.pick 1 (.pick 4 (.pick 6 (.pick 7 .fin .fin) .fin) .fin) (.pick 4 (.pick 1 (.pick 6 (.pick 7 .fin .fin) .fin) .fin) .fin)) .fin))) (.pick 4 (.pick 1 (.pick 3 (.pick 5 (.pick 6 (.pick 7 .fin .fin) .fin) .fin) (.pick 5 (.pick 3 (.pick 6 (.pick 7 .fin .fin) .fin) (.pick 6 (.pick 3 (.pick 7 .fin .fin) .fin) .fin)) .fin)) (.pick 3 (.pick 1 (.pick 5 (.pick 6 (.pick 7 .fin .fin) .fin) .fin) (.pick 5 (.pick 1 (.pick 6 (.pick 7 .fin .fin) .fin) .fin) .fin)) (.pick 5 (.pick 1 (.pick 3 (.pick 6 (.pick 7 .fin .fin) .fin) (.pick 6 (.pick 3 (.pick 7 .fin .fin) .fin) .fin)) (.pick 3 (.pick 1 (.pick 6 (.pick 7 .fin .fin) .fin) .fin) .fin)) .fin))) (.pick 5 (.pick 1 (.pick 3 (.pick 4 (.pick 6 (.pick 7 .fin .fin) .fin) .fin) (.pick 4 (.pick 3 (.pick 6 (.pick 7 .fin .fin) .fin) (.pick 6 (.pick 3 (.pick 7 .fin .fin) .fin) .fin)) .fin)) (.pick 3 (.pick 1 (.pick 4 (.pick 6 (.pick 7 .fin .fin) .fin) .fin) (.pick 4 (.pick 1 (.pick 6 (.pick 7 .fin .fin) .fin) .fin) .fin)) (.pick 4 (.pick 1 (.pick 3 (.pick 6 (.pick 7 .fin .fin) .fin) (.pick 6 (.pick 3 (.pick 7 .fin .fin) .fin) .fin)) (.pick 3 (.pick 1 (.pick 6 (.pick 7 .fin .fin) .fin) .fin) .fin)) .fin))) .fin)))))) mixed (by kernel_rfl) ?_ ?_
      · simp [h1, h2, h4, h5, hA, hC, two_fst]
        repeat' (refine And.intro ?_ ?_)
        all_goals
          refine gall_intro fun x hx => ?_
          have n1 : ¬ c = x := ne_some (by simp [hC]) hx
          have n2 : ¬ a = x := ne_some (by simp [hA]) hx
          have n1' : ¬ x = c := fun e => n1 e.symm
          have n2' : ¬ x = a := fun e => n2 e.symm
          simp [h1, h2, h4, h5, hA, hC, two_fst, two_snd, n1, n1', n2, n2']
          repeat' (refine And.intro ?_ ?_)
        all_goals
          refine gall_intro fun y hy => ?_
          have m0 : ¬ x = y := ne_some (by simp [hC]) hy
          have m0' : ¬ y = x := fun e => m0 e.symm
          have m1 : ¬ c = y := ne_some (by simp [hC, n1, n1']) hy
          have m2 : ¬ a = y := ne_some (by simp [hA, n2, n2']) hy
          have m1' : ¬ y = c := fun e => m1 e.symm
          have m2' : ¬ y = a := fun e => m2 e.symm
          simp [h1, h2, h4, h5, hA, hC, two_fst, two_snd, n1, n1', n2, n2', m0, m0', m1, m1', m2, m2']
      · rintro ⟨σ, H⟩ ⟨x, y, h1, h2, h4, h8, h9, hA, hx, hy⟩
        simp only at h1 h2 h4 h8 h9 hA hx hy
        simp [h1]
        refine gall_intro fun z hz => ?_
        have nx : ¬ x = z := ne_some (by simp [hx]) hz
        have ny : ¬ y = z := ne_some (by simp [hy]) hz
        have na : ¬ a = z := ne_some (by simp [hA]) hz
        have nx' : ¬ z = x := fun e => nx e.symm
        have ny' : ¬ z = y := fun e => ny e.symm
        have na' : ¬ z = a := fun e => na e.symm
        simp [h1, h2, h4, h8, h9]
        refine TWcH.loop [] (fun m s' => ∃ q, q + m = t.length + 1 ∧ s'.σ 1 = .val (.string (bs t)) ∧ s'.σ 2 = .rptr [.val (.int .i64 k), .ro (s.map encS), .ro (l.map encRex)] 0 ∧ s'.σ 4 = .pd a 0 0 0 ∧ s'.σ 8 = .pd x 0 0 0 ∧ s'.σ 9 = .pd y 0 0 0 ∧ s'.σ 10 = .val (.int .i64 t.length) ∧ s'.σ 11 = .pd z 0 0 0 ∧ s'.σ 12 = .val (.int .i64 q) ∧ s'.H a = some (.box 136 (tabL noT)) ∧ s'.H x = some (.box 136 (tabL A)) ∧ s'.H y = some (.box 136 (tabL B)) ∧ s'.H z = some (.box 136 (tabL (tabS (isF (d + 1) (.mk k s l)) t q 0)))) (t.length + 1) ⟨0, by simp [h1, h2, h4, h8, h9, hA, hx, hy, nx, ny, na]; exact tabS_zero⟩ ?_
        rintro m ⟨σ, H⟩ ⟨q, hm, h1, h2, h4, h8, h9, h10, h11, h12, hA, hx, hy, hz⟩
        simp only at h1 h2 h4 h8 h9 h10 h11 h12 hA hx hy hz
        by_cases hq : q ≤ t.length
        · have hw := hw1 (show q < 13 by omega) (by omega)
          simp [h1, h2, h4, h8, h9, h10, h11, h12, hq]
          refine TWcH.loop [] (fun m' s' => ∃ i, i + q + m' = t.length + 1 ∧ s'.σ 1 = .val (.string (bs t)) ∧ s'.σ 2 = .rptr [.val (.int .i64 k), .ro (s.map encS), .ro (l.map encRex)] 0 ∧ s'.σ 4 = .pd a 0 0 0 ∧ s'.σ 8 = .pd x 0 0 0 ∧ s'.σ 9 = .pd y 0 0 0 ∧ s'.σ 10 = .val (.int .i64 t.length) ∧ s'.σ 11 = .pd z 0 0 0 ∧ s'.σ 12 = .val (.int .i64 q) ∧ s'.σ 13 = .val (.int .i64 i) ∧ s'.H a = some (.box 136 (tabL noT)) ∧ s'.H x = some (.box 136 (tabL A)) ∧ s'.H y = some (.box 136 (tabL B)) ∧ s'.H z = some (.box 136 (tabL (tabS (isF (d + 1) (.mk k s l)) t q i)))) (t.length + 1 - q) ⟨0, by simp [h1, h2, h4, h8, h9, h10, h11, h12, hA, hx, hy, hz]; omega⟩ ?_
          rintro m' ⟨σ, H⟩ ⟨i, hm', g1, g2, g4, g8, g9, g10, g11, g12, g13, gA, gx', gy', gz⟩
          simp only at g1 g2 g4 g8 g9 g10 g11 g12 g13 gA gx' gy' gz
          have hwq : IntKind.i64.wrap ((i : Int) + q) = (i : Int) + q := wrapi (by omega)
          by_cases hi : i + q ≤ t.length
          · have hi' : (i : Int) + q ≤ t.length := by omega
            have hwi := hw1 (show i < 13 by omega) (by omega)
            have lt1 : i < 13 := by omega
            have lt2 : i + q < 13 := by omega
            have set_z := fun b => set_tab (T := tabS (isF (d + 1) (.mk k s l)) t q i) lt1 lt2 b
            have b1 : i * 13 + (i + q) + 1 ≤ 169 := by omega
            have j13 : (i : Int) + q < 13 := by omega
            have i13 : (i : Int) < 13 := by omega
            have j0 : (0 : Int) ≤ (i : Int) + q := by omega
            have jn : ((i : Int) + q).toNat = i + q := by omega
            have fin : ∀ b, b = isF (d + 1) (.mk k s l) (piece t i (i + q)) → ∃ m'', m'' < m' ∧ ∃ i', i' + q + m'' = t.length + 1 ∧ (i : Int) + 1 = (i' : Int) ∧ tabL (updT (tabS (isF (d + 1) (.mk k s l)) t q i) i (i + q) b) = tabL (tabS (isF (d + 1) (.mk k s l)) t q i') := fun b hb => ⟨m' - 1, by omega, i + 1, by omega, by omega, by rw [hb, tabS_set hi]⟩
            have hpl : (piece t i (i + q)).length = q := by simp [piece]; omega
            have hiq : i + q ≤ t.length := hi
            have hAt : ∀ f : List UInt8 → Bool, tabF f t i (i + q) = f (piece t i (i + q)) := fun f => tabF_at (by omega) hi
            rcases form_kids hf with ⟨hk, rfl⟩ | ⟨ra, hk, rfl, fa⟩ | ⟨ra, rb, hk, rfl, fa, fb⟩
            · rcases hk with rfl | rfl
              · by_cases hq1 : q = 1
                · subst hq1
                  have hit : i < t.length := by omega
                  have hpe : piece t i (i + 1) = [t[i]] := by
                    simp only [piece, List.drop_take, show i + 1 - i = 1 by omega]
                    rw [List.drop_eq_getElem_cons hit]; rfl
                  have hsl : s.length ≤ 1152921504606846976 := by have := hs.1; omega
                  have e1 : (i : Int) + 1 ≤ t.length := by omega
                  have e2 : ((i : Int) + 1).toNat = i + 1 := by omega
                  have e3 : (i : Int) + 1 < 13 := by omega
                  have e4 : (0 : Int) ≤ (i : Int) + 1 := by omega
                  have e5 : (i : Int) < t.length := by omega
                  simp [g1, g2, g4, g8, g9, g10, g11, g12, g13, gA, gx', gy', gz, hwq, hi', hwi, i13, j13, j0, jn, b1, nx', ny', na', nx, ny, na, cut_tab lt1 lt2, set_z, e1, e2, e3, e4, e5]
                  refine TWcH.regionD (ρ := []) [0, 1, 2, 3, 4, 5, 6, 7, 8, 9, 10, 11] 12 mixed (by kernel_rfl) ?_
                  simp [g1, g2, g4, g8, g9, g10, g11, g12, g13, gA, gx', gy', gz, hwq, hi', hwi, i13, j13, j0, jn, b1, nx', ny', na', nx, ny, na, cut_tab lt1 lt2, set_z, e1, e2, e3, e4, e5, getI hit, hit]
                  refine TWqH.callV (tc_iSetHas s t[i].toNat hsl) callable_135 (by simp [g1, g2, g4, g8, g9, g10, g11, g12, g13, gA, gx', gy', gz, hwq, hi', hwi, i13, j13, j0, jn, b1, nx', ny', na', nx, ny, na, cut_tab lt1 lt2, set_z, e1, e2, e3, e4, e5]) (by simp) (by simp) (by simp) ?_
                  simp [g1, g2, g4, g8, g9, g10, g11, g12, g13, gA, gx', gy', gz, hwq, hi', hwi, i13, j13, j0, jn, b1, nx', ny', na', nx, ny, na, cut_tab lt1 lt2, set_z, e1, e2, e3, e4, e5]
                  exact fin _ (by rw [hpe]; simp [isF])
                · have hq1' : ¬ ((q : Int) = 1) := by omega
                  simp [g1, g2, g4, g8, g9, g10, g11, g12, g13, gA, gx', gy', gz, hwq, hi', hwi, i13, j13, j0, jn, b1, nx', ny', na', nx, ny, na, cut_tab lt1 lt2, set_z]
                  refine TWcH.regionD (ρ := []) [0, 1, 2, 3, 4, 5, 6, 7, 8, 9, 10, 11] 12 mixed (by kernel_rfl) ?_
                  simp [g1, g2, g4, g8, g9, g10, g11, g12, g13, gA, gx', gy', gz, hwq, hi', hwi, i13, j13, j0, jn, b1, nx', ny', na', nx, ny, na, cut_tab lt1 lt2, set_z, hq1, hq1']
                  exact fin _ (by simp [isF, hpl, hq1])
              · simp [g1, g2, g4, g8, g9, g10, g11, g12, g13, gA, gx', gy', gz, hwq, hi', hwi, i13, j13, j0, jn, b1, nx', ny', na', nx, ny, na, cut_tab lt1 lt2, set_z]
                exact fin _ (by simp [isF, ← List.length_eq_zero_iff, hpl])
            · obtain rfl : A = tabF (isF d ra) t := hfA ra rfl (by simp)
              rcases hk with rfl | rfl
              · simp [g1, g2, g4, g8, g9, g10, g11, g12, g13, gA, gx', gy', gz, hwq, hi', hwi, i13, j13, j0, jn, b1, nx', ny', na', nx, ny, na, cut_tab lt1 lt2, set_z]
                refine TWcH.loop [] (fun m3 s' => ∃ o, o + m3 = q ∧ s'.σ 1 = .val (.string (bs t)) ∧ s'.σ 2 = .rptr [.val (.int .i64 5), .ro (s.map encS), .ro ([ra].map encRex)] 0 ∧ s'.σ 4 = .pd a 0 0 0 ∧ s'.σ 8 = .pd x 0 0 0 ∧ s'.σ 9 = .pd y 0 0 0 ∧ s'.σ 10 = .val (.int .i64 t.length) ∧ s'.σ 11 = .pd z 0 0 0 ∧ s'.σ 12 = .val (.int .i64 q) ∧ s'.σ 13 = .val (.int .i64 i) ∧ s'.σ 14 = .val (.int .i64 ((i : Int) + q)) ∧ s'.σ 17 = .val (.int .i64 (i + 1 + o : Nat)) ∧ s'.σ 15 = .val (.bool (starP (isF d ra) t i q o)) ∧ s'.H a = some (.box 136 (tabL noT)) ∧ s'.H x = some (.box 136 (tabL (tabF (isF d ra) t))) ∧ s'.H y = some (.box 136 (tabL B)) ∧ s'.H z = some (.box 136 (tabL (tabS (isF (d + 1) (.mk 5 s [ra])) t q i)))) q ⟨0, by simp [g1, g2, g4, g8, g9, g10, g11, g12, g13, gA, gx', gy', gz, hwq, hi', hwi, i13, j13, j0, jn, b1, nx', ny', na', nx, ny, na, cut_tab lt1 lt2, set_z, starP]⟩ ?_
                rintro m3 ⟨σ, H⟩ ⟨o, ho, f1, f2, f4, f8, f9, f10, f11, f12, f13, f14, fk, f15, fA, fx, fy, fz⟩
                simp only at f1 f2 f4 f8 f9 f10 f11 f12 f13 f14 fk f15 fA fx fy fz
                by_cases hoq : o < q
                · have k1 : (i : Int) + 1 + o ≤ (i : Int) + q := by omega
                  have k2 : (i : Int) + 1 + o < 13 := by omega
                  have k3 : (0 : Int) ≤ (i : Int) + 1 + o := by omega
                  have k4 : ((i : Int) + 1 + o).toNat = i + 1 + o := by omega
                  have k5 : i * 13 + (i + 1 + o) + 1 ≤ 169 := by omega
                  have k6 : (i + 1 + o) * 13 + (i + q) + 1 ≤ 169 := by omega
                  have k7 : IntKind.i64.wrap ((i : Int) + 1 + o + 1) = (i : Int) + 1 + o + 1 := wrapi (by omega)
                  have k8 : tabF (isF d ra) t i (i + 1 + o) = isF d ra (piece t i (i + 1 + o)) := tabF_at (by omega) (by omega)
                  have k9 : tabS (isF (d + 1) (.mk 5 s [ra])) t q i (i + 1 + o) (i + q) = starF (isF d ra) (piece t (i + 1 + o) (i + q)) := by
                    rw [tabS_at (by omega) (by omega) (by omega)]; simp [isF]
                  have k10 : i + 1 + o < 13 := by omega
                  simp [f1, f2, f4, f8, f9, f10, f11, f12, f13, f14, fk, f15, fA, fx, fy, fz, hwq, hi', hwi, i13, j13, j0, jn, b1, nx', ny', na', nx, ny, na, k1, k2, k3, k4, k5, k6, k7]
                  refine gif_intro (fun c1 => ?_) (fun c1 => ?_) <;> simp [f1, f2, f4, f8, f9, f10, f11, f12, f13, f14, fk, f15, fA, fx, fy, fz, hwq, hi', hwi, i13, j13, j0, jn, b1, nx', ny', na', nx, ny, na, k1, k2, k3, k4, k5, k6, k7, c1, cut_tab lt1 k10, k8]
                  · exact ⟨m3 - 1, by omega, o + 1, by omega, by omega, by rw [starP_succ, c1]; rfl⟩
                  · refine gif_intro (fun c2 => ?_) (fun c2 => ?_) <;> simp [f1, f2, f4, f8, f9, f10, f11, f12, f13, f14, fk, f15, fA, fx, fy, fz, hwq, hi', hwi, i13, j13, j0, jn, b1, nx', ny', na', nx, ny, na, k1, k2, k3, k4, k5, k6, k7, c1, c2, cut_tab k10 lt2, k8, k9]
                    · exact ⟨m3 - 1, by omega, o + 1, by omega, by omega, by rw [starP_succ, Bool.eq_false_iff.2 c1, c2]; rfl⟩
                    · exact ⟨m3 - 1, by omega, o + 1, by omega, by omega, by rw [starP_succ, Bool.eq_false_iff.2 c1, Bool.eq_false_iff.2 c2]; rfl⟩
                · obtain rfl : o = q := by omega
                  have k1 : ¬ ((i : Int) + 1 + o ≤ (i : Int) + o) := by omega
                  simp [f1, f2, f4, f8, f9, f10, f11, f12, f13, f14, fk, f15, fA, fx, fy, fz, hwq, hi', hwi, i13, j13, j0, jn, b1, nx', ny', na', nx, ny, na, k1, set_z]
                  exact fin _ (by rw [starP_all hiq]; simp [isF])
              · simp [g1, g2, g4, g8, g9, g10, g11, g12, g13, gA, gx', gy', gz, hwq, hi', hwi, i13, j13, j0, jn, b1, nx', ny', na', nx, ny, na, cut_tab lt1 lt2, set_z]
                exact fin _ (by rw [hAt]; simp [isF])
            · obtain rfl : A = tabF (isF d ra) t := hfA ra rfl (by simp)
              obtain rfl : B = tabF (isF d rb) t := hfB rb rfl (by simp)
              rcases hk with rfl | rfl | rfl
              · simp [g1, g2, g4, g8, g9, g10, g11, g12, g13, gA, gx', gy', gz, hwq, hi', hwi, i13, j13, j0, jn, b1, nx', ny', na', nx, ny, na, cut_tab lt1 lt2, set_z]
                refine TWcH.loop [] (fun m3 s' => ∃ o, o + m3 = q + 1 ∧ s'.σ 1 = .val (.string (bs t)) ∧ s'.σ 2 = .rptr [.val (.int .i64 3), .ro (s.map encS), .ro ([ra, rb].map encRex)] 0 ∧ s'.σ 4 = .pd a 0 0 0 ∧ s'.σ 8 = .pd x 0 0 0 ∧ s'.σ 9 = .pd y 0 0 0 ∧ s'.σ 10 = .val (.int .i64 t.length) ∧ s'.σ 11 = .pd z 0 0 0 ∧ s'.σ 12 = .val (.int .i64 q) ∧ s'.σ 13 = .val (.int .i64 i) ∧ s'.σ 14 = .val (.int .i64 ((i : Int) + q)) ∧ s'.σ 16 = .val (.int .i64 (i + o : Nat)) ∧ s'.σ 15 = .val (.bool (catP (isF d ra) (isF d rb) t i q o)) ∧ s'.H a = some (.box 136 (tabL noT)) ∧ s'.H x = some (.box 136 (tabL (tabF (isF d ra) t))) ∧ s'.H y = some (.box 136 (tabL (tabF (isF d rb) t))) ∧ s'.H z = some (.box 136 (tabL (tabS (isF (d + 1) (.mk 3 s [ra, rb])) t q i)))) (q + 1) ⟨0, by simp [g1, g2, g4, g8, g9, g10, g11, g12, g13, gA, gx', gy', gz, hwq, hi', hwi, i13, j13, j0, jn, b1, nx', ny', na', nx, ny, na, cut_tab lt1 lt2, set_z, catP]⟩ ?_
                rintro m3 ⟨σ, H⟩ ⟨o, ho, f1, f2, f4, f8, f9, f10, f11, f12, f13, f14, fk, f15, fA, fx, fy, fz⟩
                simp only at f1 f2 f4 f8 f9 f10 f11 f12 f13 f14 fk f15 fA fx fy fz
                by_cases hoq : o ≤ q
                · have k1 : (i : Int) + o ≤ (i : Int) + q := by omega
                  have k2 : (i : Int) + o < 13 := by omega
                  have k3 : (0 : Int) ≤ (i : Int) + o := by omega
                  have k4 : ((i : Int) + o).toNat = i + o := by omega
                  have k5 : i * 13 + (i + o) + 1 ≤ 169 := by omega
                  have k6 : (i + o) * 13 + (i + q) + 1 ≤ 169 := by omega
                  have k7 : IntKind.i64.wrap ((i : Int) + o + 1) = (i : Int) + o + 1 := wrapi (by omega)
                  have k8 : tabF (isF d ra) t i (i + o) = isF d ra (piece t i (i + o)) := tabF_at (by omega) (by omega)
                  have k9 : tabF (isF d rb) t (i + o) (i + q) = isF d rb (piece t (i + o) (i + q)) := tabF_at (by omega) (by omega)
                  have k10 : i + o < 13 := by omega
                  simp [f1, f2, f4, f8, f9, f10, f11, f12, f13, f14, fk, f15, fA, fx, fy, fz, hwq, hi', hwi, i13, j13, j0, jn, b1, nx', ny', na', nx, ny, na, k1, k2, k3, k4, k5, k6, k7]
                  refine gif_intro (fun c1 => ?_) (fun c1 => ?_) <;> simp [f1, f2, f4, f8, f9, f10, f11, f12, f13, f14, fk, f15, fA, fx, fy, fz, hwq, hi', hwi, i13, j13, j0, jn, b1, nx', ny', na', nx, ny, na, k1, k2, k3, k4, k5, k6, k7, c1, cut_tab lt1 k10, k8]
                  · exact ⟨m3 - 1, by omega, o + 1, by omega, by omega, by rw [catP_succ, c1]; rfl⟩
                  · refine gif_intro (fun c2 => ?_) (fun c2 => ?_) <;> simp [f1, f2, f4, f8, f9, f10, f11, f12, f13, f14, fk, f15, fA, fx, fy, fz, hwq, hi', hwi, i13, j13, j0, jn, b1, nx', ny', na', nx, ny, na, k1, k2, k3, k4, k5, k6, k7, c1, c2, cut_tab k10 lt2, k8, k9]
                    · exact ⟨m3 - 1, by omega, o + 1, by omega, by omega, by rw [catP_succ, Bool.eq_false_iff.2 c1, c2]; rfl⟩
                    · exact ⟨m3 - 1, by omega, o + 1, by omega, by omega, by rw [catP_succ, Bool.eq_false_iff.2 c1, Bool.eq_false_iff.2 c2]; rfl⟩
                · obtain rfl : o = q + 1 := by omega
                  have k1 : ¬ ((i : Int) + ((q : Int) + 1) ≤ (i : Int) + q) := by omega
                  simp [f1, f2, f4, f8, f9, f10, f11, f12, f13, f14, fk, f15, fA, fx, fy, fz, hwq, hi', hwi, i13, j13, j0, jn, b1, nx', ny', na', nx, ny, na, k1, set_z]
                  exact fin _ (by rw [catP_all hiq]; simp [isF])
              · simp [g1, g2, g4, g8, g9, g10, g11, g12, g13, gA, gx', gy', gz, hwq, hi', hwi, i13, j13, j0, jn, b1, nx', ny', na', nx, ny, na, cut_tab lt1 lt2, set_z]
                refine gif_intro (fun c1 => ?_) (fun c1 => ?_) <;> simp [g1, g2, g4, g8, g9, g10, g11, g12, g13, gA, gx', gy', gz, hwq, hi', hwi, i13, j13, j0, jn, b1, nx', ny', na', nx, ny, na, cut_tab lt1 lt2, set_z, c1]
                · exact fin _ (by rw [hAt] at c1; simp [isF, c1])
                · exact fin _ (by rw [hAt] at c1 ⊢; simp [isF, Bool.eq_false_iff.2 c1])
              · simp [g1, g2, g4, g8, g9, g10, g11, g12, g13, gA, gx', gy', gz, hwq, hi', hwi, i13, j13, j0, jn, b1, nx', ny', na', nx, ny, na, cut_tab lt1 lt2, set_z]
                refine gif_intro (fun c1 => ?_) (fun c1 => ?_) <;> simp [g1, g2, g4, g8, g9, g10, g11, g12, g13, gA, gx', gy', gz, hwq, hi', hwi, i13, j13, j0, jn, b1, nx', ny', na', nx, ny, na, cut_tab lt1 lt2, set_z, c1]
                · exact fin _ (by rw [hAt] at c1 ⊢; simp [isF, c1])
                · exact fin _ (by rw [hAt] at c1; simp [isF, Bool.eq_false_iff.2 c1])
          · have hi' : ¬ ((i : Int) + q ≤ t.length) := by omega
            simp [g1, g2, g4, g8, g9, g10, g11, g12, g13, gA, gx', gy', gz, hwq, hi', hw]
            exact ⟨m - 1, by omega, q + 1, by omega, by omega, tabS_next (by omega)⟩
        · simp [h1, h2, h4, h8, h9, h10, h11, h12, hA, hx, hy, hz, hq, na, na']
          rw [tabS_all (by omega)]
end Go.Proofs.Ytigmibfacllhmaa.R

open Go Go.Proofs.Ytigmibfacllhmaa.T
namespace Go.Proofs.Ytigmibfacllhmaa.R
set_option maxHeartbeats 4000000
set_option maxRecDepth 100000
set_option linter.unusedSimpArgs false
set_option linter.unusedVariables false
theorem row0 {T : Nat → Nat → Bool} {j : Nat} (hj : j < 13) : ((tabL T).take 13)[j]? = some (.val (.bool (T 0 j))) := by
  rw [List.getElem?_take_of_lt hj]
  have := get_tab (T := T) (i := 0) (by omega) hj
  rwa [Nat.zero_mul, Nat.zero_add] at this
theorem row0' {T : Nat → Nat → Bool} {j : Nat} (hj : j < 13) : (tabL T)[j]? = some (.val (.bool (T 0 j))) := by
  have := get_tab (T := T) (i := 0) (by omega) hj
  rwa [Nat.zero_mul, Nat.zero_add] at this
def matchIs (r : Rex) (t : List UInt8) : Bool := rexOk r && decide (t.length ≤ 12) && isF 8 r t
theorem tc_iMatchIs (r : Rex) (t : List UInt8) (hs : Sm r) : TC Try.prog 79 [.agg (encRex r), .val (.string (bs t))] [] (.val (.bool (matchIs r t))) [] := by
  refine TC.enter Try.func79 rfl (by simp [Try.ntmps79]) rfl (tw_sound (ρ := [2]) ?_)
  rw [Try.ntmps79]
  simp
  refine TWoH.callV (tc_iRexOk r hs) callable_116 (by simp) (by simp) (by simp) (by simp) ?_
  simp
  refine gif_intro (fun c1 => ?_) (fun c1 => ?_) <;> simp [c1]
  case refine_2 => simp [matchIs, c1]
  refine TWoH.callV (tc_iMatchWord t) callable_78 (by simp) (by simp) (by simp) (by simp) ?_
  simp [c1]
  refine gif_intro (fun c2 => ?_) (fun c2 => ?_) <;> simp [c1, c2]
  case refine_2 => simp [matchIs, c2]
  have hf : formF 8 r = true := by simp only [rexOk, Bool.and_eq_true] at c1; exact c1.1
  refine TWoH.callV (tc_pieces 8 r t hs hf c2) callable_117 (by simp) (by simp) (by simp) (by simp) ?_
  have e13 : (t.length : Int) < 13 := by omega
  have h0 : tabF (isF 8 r) t 0 t.length = isF 8 r t := by rw [tabF_at (by omega) (by omega)]; simp [piece]
  simp [c1, c2, partTV, e13, row0 (show t.length < 13 by omega), row0' (show t.length < 13 by omega), h0, matchIs]
theorem tc_iRulesFirst (l : List Rule) (t : List UInt8) (hs : RSm l) : TC Try.prog 27 [.ro (l.map encRule), .val (.string (bs t))] [] (.val (.int .i64 (rulesFirst l t))) [] := by
  refine TC.enter Try.func27 rfl (by simp [Try.ntmps27]) rfl (tw_sound (ρ := []) ?_)
  rw [Try.ntmps27]
  simp
  refine TWoH.callV (tc_iRulesOk l hs) callable_77 (by simp) (by simp) (by simp) (by simp) ?_
  simp
  refine gif_intro (fun c1 => ?_) (fun c1 => ?_) <;> simp [c1]
  case refine_2 => simp [rulesFirst, c1]
  refine TWoH.callV (tc_iMatchWord t) callable_78 (by simp) (by simp) (by simp) (by simp) ?_
  simp
  refine gif_intro (fun c2 => ?_) (fun c2 => ?_) <;> simp [c2]
  case refine_2 => simp [rulesFirst, c2]
  have hr : rulesFirst l t = firstF l t 0 := by simp [rulesFirst, c1, c2]
  refine TWcH.loop [] (fun m s => ∃ i, i + m = l.length ∧ s.σ 1 = .val (.string (bs t)) ∧ s.σ 15 = .ro (l.map encRule) ∧ s.σ 16 = .val (.int .i64 l.length) ∧ s.σ 17 = .val (.int .i64 i) ∧ firstF l t 0 = firstF l t i) l.length ⟨0, by simp⟩ ?_
  rintro m ⟨σ, H⟩ ⟨i, him, h1, h15, h16, h17, hh⟩
  simp only at h1 h15 h16 h17
  by_cases hi : i < l.length
  · rw [firstF_next hi] at hh
    have hw := hw1 hi (by have := hs.1; omega)
    have hsi := hs.2 _ (List.getElem_mem hi)
    have hm : matchIs l[i].rex t = isF 8 l[i].rex t := by
      have h2 : rexOk l[i].rex = true := by
        simp only [rulesOk, okFrom, Bool.and_eq_true, List.all_eq_true, List.mem_range'_1] at c1
        have h1 := c1.2 i (by omega)
        simp only [ruleAt, getI hi, Bool.and_eq_true] at h1
        exact h1.1.2
      simp [matchIs, h2, c2]
    simp [h1, h15, h16, h17, getI hi, hi]
    refine gall_intro fun a ha => ?_
    simp [h1, h15, h16, h17, getI hi, hi, encRule]
    refine TWoH.callV (tc_iMatchIs l[i].rex t hsi.1) callable_79 (by simp [h1]) (by simp) (by simp) (by simp) ?_
    rw [hm]
    simp [h1, h15, h16, h17, getI hi, hi, encRule]
    refine gif_intro (fun c3 => ?_) (fun c3 => ?_) <;> simp [h1, h15, h16, h17, getI hi, hi, encRule, c3, hw]
    · rw [hr, hh, if_pos c3]
    · exact ⟨m - 1, by omega, i + 1, by omega, by omega, by rw [hh, if_neg c3]⟩
  · simp [h1, h15, h16, h17, hi]
    rw [hr, hh, firstF_end hi]
end Go.Proofs.Ytigmibfacllhmaa.R

open Go Go.Proofs.Ytigmibfacllhmaa.T
namespace Go.Proofs.Ytigmibfacllhmaa.R
set_option linter.unusedSimpArgs false
set_option linter.unusedVariables false
theorem szN_ok {n : Nat} {left : Int} (hn : n ≤ 1152921504606846976) (h0 : 0 ≤ left) (h1 : left ≤ 1048576) (h : ¬ szN n left < 0) : (n : Int) ≤ left ∧ szN n left = left - n := by
  have hw : IntKind.i64.wrap (left - n) = left - n := wrapi (by omega)
  unfold szN at h ⊢
  rw [hw] at h ⊢
  split at h
  · exact absurd h (by omega)
  · rename_i h2
    rw [if_neg h2]
    omega
def BSpan (x : Int × Int) : Prop := (Lit.int .i64 x.1).wf = true ∧ (Lit.int .i64 x.2).wf = true
theorem rdSpan (n : Nat) : RdT Try.prog n 146 encS BSpan :=
  ((RdT.struct (sz := 2) Try.underlying146 rfl (by kernel_rfl) (FsT.cons (sz := 1) (sz' := 1) (RdT.int n Try.underlying3) rfl (by kernel_rfl) (FsT.one (RdT.int n Try.underlying3) rfl (by kernel_rfl)))).le (Nat.le_succ n)).iso id fun x hx => ⟨rfl, hx⟩
theorem rdRex : ∀ n, RdT Try.prog n 93 encRex Small
  | 0 => RdT.zero
  | n + 1 => by
    have ih := rdRex n
    refine (RdT.struct (sz := 1 + (1 + 1)) Try.underlying93 rfl (by kernel_rfl) (FsT.cons (sz := 1) (sz' := 1 + 1) (RdT.int n Try.underlying3) rfl (by kernel_rfl)
      (FsT.cons (sz := 1) (sz' := 1) ((RdT.slice (b := 16) (rdSpan n) Try.underlying90 (by kernel_rfl)).le (Nat.le_succ n)) rfl (by kernel_rfl)
        (FsT.one ((RdT.slice (b := 56) ih Try.underlying91 (by kernel_rfl)).le (Nat.le_succ n)) rfl (by kernel_rfl))))).iso (fun x => Rex.mk x.1 x.2.1 x.2.2) fun x hx => ⟨by simp [encRex, encRexL_eq], ?_⟩
    obtain ⟨_, ⟨h1, _⟩, h2, h3⟩ := hx
    have hr : reachBytes = 140737488351232 := rfl
    have key : ∀ l : List Rex, (∀ r ∈ l, Small r) → SmallL l := by
      intro l
      induction l with
      | nil => intro _; exact trivial
      | cons r l ih => intro h; exact ⟨h r (by simp), ih fun q hq => h q (by simp [hq])⟩
    exact ⟨by omega, by omega, key _ h3⟩
def BRule (r : Rule) : Prop := r.name.length ≤ 1152921504606846976 ∧ Small r.rex
theorem rdRule (n : Nat) : RdT Try.prog n 95 encRule BRule := by
  refine ((RdT.struct (sz := 1 + 3) Try.underlying95 rfl (by kernel_rfl) (FsT.cons (sz := 1) (sz' := 3) (RdT.string n Try.underlying9) rfl (by kernel_rfl) (FsT.one (rdRex n) rfl (by kernel_rfl)))).le (Nat.le_succ n)).iso (fun x => Rule.mk x.1 x.2) fun x hx => ⟨by simp [encRule], ?_⟩
  have hr : reachBytes = 140737488351232 := rfl
  exact ⟨by have := hx.1; simp only; omega, hx.2⟩
def BRules (l : List Rule) : Prop := l.length ≤ 1152921504606846976 ∧ ∀ r ∈ l, BRule r
theorem rdRules (n : Nat) : RdT Try.prog n 41 (fun l : List Rule => [.ro (l.map encRule)]) BRules := by
  refine ((RdT.slice (b := 72) (rdRule n) Try.underlying41 (by kernel_rfl)).le (Nat.le_succ n)).imp fun x hx => ⟨?_, hx.2⟩
  have hr : reachBytes = 140737488351232 := rfl
  have := hx.1
  omega
end Go.Proofs.Ytigmibfacllhmaa.R

open Go Go.Proofs.Ytigmibfacllhmaa.T
namespace Go.Proofs.Ytigmibfacllhmaa.R
set_option linter.unusedSimpArgs false
set_option linter.unusedVariables false
theorem ite_neg1 {c : Prop} [Decidable c] {x : Int} (h : ¬ (if c then -1 else x) < 0) : ¬ c ∧ ¬ x < 0 := by
  split at h
  · exact absurd h (by omega)
  · exact ⟨by assumption, h⟩
mutual
theorem szRex_ok : ∀ (r : Rex) (left : Int), Small r → 0 ≤ left → left ≤ 1048576 → ¬ szRexF r left < 0 → Sm r ∧ szRexF r left ≤ left
  | .mk k s l, left, hs, h0, h1, h => by
    rw [szRexF_eq] at h ⊢
    obtain ⟨c1, h⟩ := ite_neg1 h
    obtain ⟨c2, h⟩ := ite_neg1 h
    rw [if_neg c1, if_neg c2]
    obtain ⟨a1, a2⟩ := szN_ok hs.1 h0 h1 c1
    have hw : IntKind.i64.wrap (szN s.length left - l.length) = szN s.length left - l.length := wrapi (by have := hs.2.1; omega)
    unfold szRexSF at c2 ⊢
    obtain ⟨c3, c4⟩ := ite_neg1 c2
    rw [if_neg c3]
    rw [hw] at c3 c4 ⊢
    obtain ⟨b1, b2⟩ := szLoop_ok l _ hs.2.2 (by omega) (by omega) c4
    exact ⟨⟨by omega, by omega, b1⟩, by omega⟩
theorem szLoop_ok : ∀ (l : List Rex) (left : Int), SmallL l → 0 ≤ left → left ≤ 1048576 → ¬ szLoopF l left < 0 → SmL l ∧ szLoopF l left ≤ left
  | [], left, hs, h0, h1, h => ⟨trivial, by simp [szLoopF]⟩
  | r :: l, left, hs, h0, h1, h => by
    rw [szLoopF] at h ⊢
    obtain ⟨c1, h⟩ := ite_neg1 h
    rw [if_neg c1]
    obtain ⟨a1, a2⟩ := szRex_ok r left hs.1 h0 h1 c1
    obtain ⟨b1, b2⟩ := szLoop_ok l _ hs.2 (by omega) (by omega) h
    exact ⟨⟨a1, b1⟩, by omega⟩
end
theorem szRules_ok : ∀ (l : List Rule) (left : Int), (∀ r ∈ l, BRule r) → 0 ≤ left → left ≤ 1048576 → ¬ szRulesLoop l left < 0 → ∀ r ∈ l, Sm r.rex ∧ r.name.length ≤ 1048576
  | [], left, hs, h0, h1, h => by intro r hr; cases hr
  | r :: l, left, hs, h0, h1, h => by
    rw [szRulesLoop] at h
    obtain ⟨c1, h⟩ := ite_neg1 h
    have hb := hs r (by simp)
    unfold szRuleF at c1
    obtain ⟨c2, c3⟩ := ite_neg1 c1
    obtain ⟨c4, c5⟩ := ite_neg1 c3
    obtain ⟨a1, a2⟩ := szN_ok hb.1 h0 h1 c2
    obtain ⟨b1, b2⟩ := szRex_ok r.rex _ hb.2 (by omega) (by omega) c4
    have e : szRuleF r left = szRexF r.rex (szN r.name.length left) := by unfold szRuleF; rw [if_neg c2, if_neg c4]
    rw [e] at h
    have := szRules_ok l _ (fun q hq => hs q (by simp [hq])) (by omega) (by omega) h
    intro q hq
    rcases List.mem_cons.1 hq with rfl | hq
    · exact ⟨b1, by omega⟩
    · exact this q hq
theorem RSm_of {l : List Rule} (hB : BRules l) (h : ¬ szRulesF l 1048576 < 0) : RSm l := by
  unfold szRulesF at h
  obtain ⟨c1, h⟩ := ite_neg1 h
  have hw : IntKind.i64.wrap ((1048576 : Int) - l.length) = (1048576 : Int) - l.length := wrapi (by have := hB.1; omega)
  rw [hw] at c1 h
  exact ⟨by omega, szRules_ok l _ hB.2 (by omega) (by omega) h⟩
set_option maxHeartbeats 4000000
set_option maxRecDepth 100000
/-- The law as a whole answers true. -/
theorem tc_law4 (l : List Rule) (t : List UInt8) (hB : BRules l) : TC Try.prog 7 [.ro (l.map encRule), .val (.string (bs t))] [] (.val (.bool true)) [] := by
  refine TC.enter Try.func7 rfl (by simp [Try.ntmps7]) rfl (tw_sound (ρ := []) ?_)
  rw [Try.ntmps7]
  simp
  refine gif_intro (fun c1 => ?_) (fun c1 => ?_) <;> simp [c1]
  refine TWoH.callV (tc_szRuleS l hB.1 (fun r hr => (hB.2 r hr).2) 1048576) callable_24 (by simp) (by simp) (by simp) (by simp) ?_
  simp
  refine gif_intro (fun c2 => ?_) (fun c2 => ?_) <;> simp [c2]
  have hs := RSm_of hB c2
  have hto := tc_toRuleS l hs.1 fun r hr => (hs.2 r hr).1
  refine TWoH.callV hto callable_26 (by simp) (by simp) (by simp) (by simp) ?_
  simp
  refine TWoH.callV (tc_sRulesFirst l t hs) callable_25 (by simp) (by simp) (by simp) (by simp) ?_
  simp
  refine TWoH.callV hto callable_26 (by simp) (by simp) (by simp) (by simp) ?_
  simp
  refine TWoH.callV (tc_iRulesFirst l t hs) callable_27 (by simp) (by simp) (by simp) (by simp) ?_
  simp
  refine TWoH.callV hto callable_26 (by simp) (by simp) (by simp) (by simp) ?_
  simp
  refine TWoH.callV (tc_eqRuleS l hs) callable_28 (by simp) (by simp) (by simp) (by simp) ?_
  simp
end Go.Proofs.Ytigmibfacllhmaa.R

open Go Go.Proofs.Ytigmibfacllhmaa.T
namespace Go.Proofs.Ytigmibfacllhmaa.R
set_option maxHeartbeats 4000000
set_option maxRecDepth 100000
set_option linter.unusedSimpArgs false
set_option linter.unusedVariables false
/-- The longest piece from a place on, of at most k - 1 bytes. -/
def longF (G : List UInt8 → Bool) (t : List UInt8) (p : Nat) : Nat → Int
  | 0 => -1
  | k + 1 => if G (piece t p (p + k)) = true then (k : Int) else longF G t p k
def matchLong (r : Rex) (t : List UInt8) (p : Nat) : Int := longF (isF 8 r) t p (t.length - p + 1)
theorem longF_le {G : List UInt8 → Bool} {t : List UInt8} {p : Nat} : ∀ k : Nat, longF G t p k < k ∧ -1 ≤ longF G t p k
  | 0 => by simp [longF]
  | k + 1 => by
    unfold longF
    have := longF_le (G := G) (t := t) (p := p) k
    split <;> omega
theorem rexOk_form {r : Rex} (h : rexOk r = true) : formF 8 r = true := by simp only [rexOk, Bool.and_eq_true] at h; exact h.1
theorem tc_sMatchLong (r : Rex) (t : List UInt8) (p : Nat) (hs : Sm r) (hr : rexOk r = true) (ht : t.length ≤ 12) (hp : p ≤ t.length) : TC Try.prog 121 [.agg (encRex r), .val (.string (bs t)), .val (.int .i64 p)] [] (.val (.int .i64 (matchLong r t p))) [] := by
  refine TC.enter Try.func121 rfl (by simp [Try.ntmps121]) rfl (tw_sound (ρ := [3]) ?_)
  rw [Try.ntmps121]
  simp
  refine TWoH.callV (tc_sRexOk r hs) callable_111 (by simp) (by simp) (by simp) (by simp) ?_
  simp [hr]
  refine TWoH.callV (tc_sMatchWord t) callable_74 (by simp) (by simp) (by simp) (by simp) ?_
  have h1 : ¬ ((p : Int) < 0) := by omega
  have h2 : ¬ ((t.length : Int) < p) := by omega
  simp [ht, h1, h2]
  refine TWcH.loop [] (fun m s => ∃ k, k + p ≤ t.length + 1 ∧ m = k ∧ s.σ 1 = .val (.string (bs t)) ∧ s.σ 2 = .val (.int .i64 p) ∧ s.σ 3 = .rptr (encRex r) 0 ∧ s.σ 7 = .val (.int .i64 ((p : Int) + k - 1)) ∧ matchLong r t p = longF (isF 8 r) t p k) (t.length - p + 1) ⟨t.length - p + 1, by omega, rfl, by simp, by simp, by simp, by simp; omega, rfl⟩ ?_
  rintro m ⟨σ, H⟩ ⟨k, hk, rfl, h1', h2', h3, h7, hh⟩
  simp only at h1' h2' h3 h7
  cases m with
  | zero =>
    have e0 : ¬ ((p : Int) ≤ p - 1) := by omega
    simp [h1', h2', h3, h7, hh, longF, e0]
  | succ m =>
    have e1 : (p : Int) + ((m + 1 : Nat) : Int) - 1 = ((p + m : Nat) : Int) := by omega
    rw [e1] at h7
    have hle : (p : Int) ≤ ((p + m : Nat) : Int) := by omega
    have hle2 : ((p + m : Nat) : Int) ≤ t.length := by omega
    have hw : IntKind.i64.wrap (((p + m : Nat) : Int) - 1) = ((p + m : Nat) : Int) - 1 := wrapi (by omega)
    have hw2 : IntKind.i64.wrap (((p + m : Nat) : Int) - p) = m := by rw [wrapi (by omega)]; omega
    simp only [Int.natCast_add] at h7 hle hle2 hw hw2
    have hl0 : (0 : Int) ≤ (p : Int) + m := by omega
    simp [h1', h2', h3, h7, hle, hle2]
    refine TWcH.regionD (ρ := [3]) [0, 1, 2, 3, 4, 5] 5 mixed (by kernel_rfl) ?_
    have en : ((p : Int) + m).toNat = p + m := by omega
    simp [h1', h2', h3, h7, hle, hle2, en]
    refine TWoH.callV (tc_l3Is 8 r (piece t p (p + m)) hs (rexOk_form hr) (by simp [piece]; omega)) callable_75 (by simp [piece]) (by simp) (by simp) (by simp) ?_
    simp [h1', h2', h3, h7, hle, hle2]
    refine gif_intro (fun c => ?_) (fun c => ?_) <;> simp [h1', h2', h3, h7, hle, hle2, c, hw, hw2]
    · rw [hh, longF, if_pos c]
    · exact ⟨m, by omega, m, by omega, rfl, rfl, by rw [hh, longF, if_neg c]⟩
theorem tc_iMatchLong (r : Rex) (t : List UInt8) (p : Nat) (hs : Sm r) (hr : rexOk r = true) (ht : t.length ≤ 12) (hp : p ≤ t.length) : TC Try.prog 90 [.agg (encRex r), .val (.string (bs t)), .val (.int .i64 p)] [] (.val (.int .i64 (matchLong r t p))) [] := by
  refine TC.enter Try.func90 rfl (by simp [Try.ntmps90]) rfl (tw_sound (ρ := [3]) ?_)
  rw [Try.ntmps90]
  simp
  refine TWoH.callV (tc_iRexOk r hs) callable_116 (by simp) (by simp) (by simp) (by simp) ?_
  simp [hr]
  refine TWoH.callV (tc_iMatchWord t) callable_78 (by simp) (by simp) (by simp) (by simp) ?_
  simp [ht]
  refine TWoH.callV (tc_in p 0 t.length) callable_64 (by simp) (by simp) (by simp) (by simp) ?_
  simp [hp]
  refine TWoH.callV (tc_pieces 8 r t hs (rexOk_form hr) ht) callable_117 (by simp) (by simp) (by simp) (by simp) ?_
  simp
  refine gall_intro fun a ha => ?_
  have hw0 : IntKind.i64.wrap ((t.length : Int) - p) = (t.length : Int) - p := wrapi (by omega)
  simp [hw0]
  refine TWcH.loop [] (fun m s => ∃ k, k + p ≤ t.length + 1 ∧ m = k ∧ s.σ 1 = .val (.string (bs t)) ∧ s.σ 2 = .val (.int .i64 p) ∧ s.σ 7 = .pd a 0 0 0 ∧ s.H a = some (.box 136 (tabL (tabF (isF 8 r) t))) ∧ s.σ 8 = .val (.int .i64 ((k : Int) - 1)) ∧ matchLong r t p = longF (isF 8 r) t p k) (t.length - p + 1) ⟨t.length - p + 1, by omega, rfl, by simp, by simp, by simp, by simp, by simp; omega, rfl⟩ ?_
  rintro m ⟨σ, H⟩ ⟨k, hk, rfl, h1', h2', h7, hH, h8, hh⟩
  simp only at h1' h2' h7 hH h8
  cases m with
  | zero => simp [h1', h2', h7, h8, hh, longF]
  | succ m =>
    have e1 : ((m + 1 : Nat) : Int) - 1 = (m : Int) := by omega
    rw [e1] at h8
    have hle : (0 : Int) ≤ m := by omega
    have hw : IntKind.i64.wrap ((m : Int) - 1) = (m : Int) - 1 := wrapi (by omega)
    have hw2 : IntKind.i64.wrap ((p : Int) + m) = (p : Int) + m := wrapi (by omega)
    have en : ((p : Int) + m).toNat = p + m := by omega
    have hp13 : (p : Int) < 13 := by omega
    have hq13 : (p : Int) + m < 13 := by omega
    have hq0 : (0 : Int) ≤ (p : Int) + m := by omega
    have hg := cut_tab (T := tabF (isF 8 r) t) (i := p) (j := p + m) (by omega) (by omega)
    have h168 : p * 13 + (p + m) ≤ 168 := by omega
    have hG : tabF (isF 8 r) t p (p + m) = isF 8 r (piece t p (p + m)) := tabF_at (by omega) (by omega)
    simp [h1', h2', h7, hH, h8, hle, hw2, en, hp13, hq13, hq0, h168, hg, hG]
    refine gif_intro (fun c => ?_) (fun c => ?_) <;> simp [h1', h2', h7, hH, h8, hle, c, hw]
    · rw [hh, longF, if_pos c]
    · exact ⟨m, by omega, m, by omega, rfl, rfl, by rw [hh, longF, if_neg c]⟩
end Go.Proofs.Ytigmibfacllhmaa.R

open Go Go.Proofs.Ytigmibfacllhmaa.T
namespace Go.Proofs.Ytigmibfacllhmaa.R
set_option maxHeartbeats 4000000
set_option maxRecDepth 100000
set_option linter.unusedSimpArgs false
set_option linter.unusedVariables false
def bestGo (t : List UInt8) (p : Nat) : List Rule → Nat → Int → Nat → Int × Nat
  | [], _, b, m => (b, m)
  | r :: l, i, b, m => if (m : Int) < matchLong r.rex t p then bestGo t p l (i + 1) i (matchLong r.rex t p).toNat else bestGo t p l (i + 1) b m
def bestF (l : List Rule) (t : List UInt8) (p : Nat) : Int × Nat := bestGo t p l 0 (-1) 0
theorem bestGo_drop {t : List UInt8} {p : Nat} {l : List Rule} {i : Nat} (hi : i < l.length) (b : Int) (m : Nat) : bestGo t p (l.drop i) i b m = if (m : Int) < matchLong l[i].rex t p then bestGo t p (l.drop (i + 1)) (i + 1) i (matchLong l[i].rex t p).toNat else bestGo t p (l.drop (i + 1)) (i + 1) b m := by
  conv => lhs; rw [List.drop_eq_getElem_cons hi]
  rw [bestGo]
theorem matchLong_le {r : Rex} {t : List UInt8} {p : Nat} (hp : p ≤ t.length) : matchLong r t p ≤ ((t.length - p : Nat) : Int) := by
  have := (longF_le (G := isF 8 r) (t := t) (p := p) (t.length - p + 1)).1
  unfold matchLong; omega
theorem bestGo_ok {t : List UInt8} {p : Nat} (hp : p ≤ t.length) : ∀ (l : List Rule) (i : Nat) (b : Int) (m : Nat), (0 ≤ b → 0 < m) → p + m ≤ t.length → (0 ≤ (bestGo t p l i b m).1 → 0 < (bestGo t p l i b m).2) ∧ p + (bestGo t p l i b m).2 ≤ t.length
  | [], i, b, m, h, h' => ⟨h, h'⟩
  | r :: l, i, b, m, h, h' => by
    unfold bestGo
    have := matchLong_le (r := r.rex) hp
    split
    · exact bestGo_ok hp l _ _ _ (fun _ => by omega) (by omega)
    · exact bestGo_ok hp l _ _ _ h h'
theorem bestF_ok {l : List Rule} {t : List UInt8} {p : Nat} (hp : p ≤ t.length) : (0 ≤ (bestF l t p).1 → 0 < (bestF l t p).2) ∧ p + (bestF l t p).2 ≤ t.length := bestGo_ok hp l 0 (-1) 0 (by omega) (by omega)
theorem rulesOk_rex {l : List Rule} (h : rulesOk l = true) {i : Nat} (hi : i < l.length) : rexOk l[i].rex = true := by
  simp only [rulesOk, okFrom, Bool.and_eq_true, List.all_eq_true, List.mem_range'_1] at h
  have h1 := h.2 i (by omega)
  simp only [ruleAt, getI hi, Bool.and_eq_true] at h1
  exact h1.1.2
theorem tc_l9Best (l : List Rule) (t : List UInt8) (p : Nat) (hs : RSm l) (hr : rulesOk l = true) (ht : t.length ≤ 12) (hp : p ≤ t.length) :
    TC Try.prog 89 [.ro (l.map encRule), .val (.string (bs t)), .val (.int .i64 p)] [] (.tup [.val (.int .i64 (bestF l t p).1), .val (.int .i64 ((p : Int) + (bestF l t p).2))]) [] := by
  refine TC.enter Try.func89 rfl (by simp [Try.ntmps89]) rfl (tw_sound (ρ := []) ?_)
  rw [Try.ntmps89]
  simp
  refine TWcH.loop [] (fun m' s => ∃ i b m, i + m' = l.length ∧ s.σ 0 = .ro (l.map encRule) ∧ s.σ 1 = .val (.string (bs t)) ∧ s.σ 2 = .val (.int .i64 p) ∧ s.σ 8 = .val (.int .i64 b) ∧ s.σ 9 = .val (.int .i64 ((p : Int) + (m : Nat))) ∧ s.σ 10 = .val (.int .i64 i) ∧
    p + m ≤ t.length ∧ bestF l t p = bestGo t p (l.drop i) i b m) l.length ⟨0, -1, 0, by simp [bestF]; exact hp⟩ ?_
  rintro m' ⟨σ, H⟩ ⟨i, b, m, him, h0, h1, h2, h8, h9, h10, hm, hh⟩
  simp only at h0 h1 h2 h8 h9 h10
  by_cases hi : i < l.length
  · rw [bestGo_drop hi] at hh
    have hw := hw1 hi (by have := hs.1; omega)
    simp [h0, h1, h2, h8, h9, h10, getI hi, hi, encRule]
    refine TWoH.callV (tc_sMatchLong l[i].rex t p (hs.2 _ (List.getElem_mem hi)).1 (rulesOk_rex hr hi) ht hp) callable_121 (by simp [h1, h2]) (by simp) (by simp) (by simp) ?_
    have hle := matchLong_le (r := l[i].rex) hp
    have hge := (longF_le (G := isF 8 l[i].rex) (t := t) (p := p) (t.length - p + 1)).2
    have hww : IntKind.i64.wrap ((p : Int) + matchLong l[i].rex t p) = (p : Int) + matchLong l[i].rex t p := wrapi (by unfold matchLong at *; omega)
    by_cases c : (m : Int) < matchLong l[i].rex t p
    · rw [if_pos c] at hh
      have c1 : 0 < matchLong l[i].rex t p := by omega
      have hn : ((matchLong l[i].rex t p).toNat : Int) = matchLong l[i].rex t p := by omega
      simp [h0, h1, h2, h8, h9, h10, getI hi, hi, encRule, c, c1, hww, hw]
      exact ⟨m' - 1, by omega, i + 1, by omega, (matchLong l[i].rex t p).toNat, by omega, by omega, by omega, hh⟩
    · rw [if_neg c] at hh
      simp [h0, h1, h2, h8, h9, h10, getI hi, hi, encRule, c, hww, hw]
      refine gif_intro (fun c1 => ?_) (fun c1 => ?_) <;> simp [h0, h1, h2, h8, h9, h10, hi, c, c1, hww, hw]
      all_goals exact ⟨m' - 1, by omega, i + 1, by omega, m, by omega, by omega, by omega, hh⟩
  · simp [h0, h1, h2, h8, h9, h10, hi]
    rw [hh, List.drop_eq_nil_of_le (by omega)]; exact ⟨rfl, rfl⟩
attribute [local simp] bsV bsRows chunk fillT partsT appV makeV rowsOf cellsOf placeOf
abbrev Tok := Int × Int × Int
def encTok (x : Tok) : List TV := [.val (.int .i64 x.1), .val (.int .i64 x.2.1), .val (.int .i64 x.2.2)]
@[simp] theorem len_tok (r : Tok) : (encTok r).length = 3 := by simp [encTok]
@[simp] theorem take_tok (r : Tok) : (encTok r).take 3 = encTok r := by simp [encTok]
@[simp] theorem plain_tok (r : Tok) : (encTok r).all TV.plain = true := by simp [encTok]
@[simp] theorem pc_tok (r : Tok) : (encTok r).all TV.pc = true := by simp [encTok]
@[simp] theorem noH_tok (r : Tok) : noHL (encTok r) = true := by simp [encTok]
@[simp] theorem argTL_tok {H : Nat → Option TV} {ρ : List Nat} (r : Tok) : argTL H ρ (encTok r) = some (encTok r) := by simp [encTok]
@[simp] theorem views_tok {ρ : List Nat} (r : Tok) : (encTok r).flatMap (views1 ρ) = [] := by simp [encTok]
@[simp] theorem opnL_tok {k : Nat} (r : Tok) : opnL k (encTok r) = (encTok r, []) := by simp [encTok]
@[simp] theorem closeL_tok {H : Nat → Option TV} (r : Tok) : closeL H (encTok r) = some (encTok r, H) := by simp [encTok]
@[simp] theorem noHR_tok (s : List Tok) : noHR (s.map encTok) = true := by induction s <;> simp [encTok, *]
@[simp] theorem roL_tok (s : Tok) : roL (encTok s) = encTok s := by simp [encTok]
@[simp] theorem roRows_tok (l : List Tok) : roRows (l.map encTok) = l.map encTok := by induction l <;> simp [*]
@[simp] theorem noRoR_tok (l : List Tok) : noRoR (l.map encTok) = true := by induction l <;> simp [encTok, *]
theorem rl_tok (l : List Tok) : ∀ r ∈ l.map encTok, r.length = szOf Try.prog 108 := by
  intro r hr
  obtain ⟨x, _, rfl⟩ := List.mem_map.1 hr
  simp
def toksF (l : List Rule) (t : List UInt8) (p : Nat) : List Tok × Nat :=
  if h : p < t.length ∧ 0 ≤ (bestF l t p).1 ∧ 0 < (bestF l t p).2 then
    (((bestF l t p).1, (p : Int), ((p + (bestF l t p).2 : Nat) : Int)) :: (toksF l t (p + (bestF l t p).2)).1, (toksF l t (p + (bestF l t p).2)).2)
  else ([], p)
termination_by t.length - p
theorem toksF_end {l : List Rule} {t : List UInt8} {p : Nat} (h : ¬ (p < t.length ∧ 0 ≤ (bestF l t p).1 ∧ 0 < (bestF l t p).2)) : toksF l t p = ([], p) := by
  rw [toksF, dif_neg h]
theorem toksF_next {l : List Rule} {t : List UInt8} {p : Nat} (h : p < t.length) (h1 : 0 ≤ (bestF l t p).1) (h2 : 0 < (bestF l t p).2) : toksF l t p =
    (((bestF l t p).1, (p : Int), ((p + (bestF l t p).2 : Nat) : Int)) :: (toksF l t (p + (bestF l t p).2)).1, (toksF l t (p + (bestF l t p).2)).2) := by
  rw [toksF, dif_pos ⟨h, h1, h2⟩]
def lexMeans (l : List Rule) (t : List UInt8) : List Tok × Nat := if rulesOk l = true ∧ t.length ≤ 12 then toksF l t 0 else ([], 0)
theorem tc_sLexMeans (l : List Rule) (t : List UInt8) (hs : RSm l) :
    TC Try.prog 45 [.ro (l.map encRule), .val (.string (bs t))] [] (.tup [.own 108 ((lexMeans l t).1.map encTok), .val (.int .i64 (lexMeans l t).2)]) [] := by
  refine TC.enter Try.func45 rfl (by simp [Try.ntmps45]) rfl (tw_sound (ρ := []) ?_)
  rw [Try.ntmps45]
  simp
  refine gall_intro fun id hid => ?_
  simp
  refine TWoH.callV (tc_sRulesOk l hs) callable_73 (by simp) (by simp) (by simp) (by simp) ?_
  simp
  refine gif_intro (fun c1 => ?_) (fun c1 => ?_) <;> simp [c1]
  case refine_2 => simp [lexMeans, c1]
  refine TWoH.callV (tc_sMatchWord t) callable_74 (by simp) (by simp) (by simp) (by simp) ?_
  simp
  refine gif_intro (fun c2 => ?_) (fun c2 => ?_) <;> simp [c2]
  case refine_2 => simp [lexMeans, c2]
  have hr : lexMeans l t = toksF l t 0 := by simp [lexMeans, c1, c2]
  rw [hr]
  refine TWcH.loop [40] (fun m' s => ∃ p acc id, p + m' = t.length ∧ s.σ 0 = .ro (l.map encRule) ∧ s.σ 1 = .val (.string (bs t)) ∧ s.σ 6 = .hd id ∧ s.H id = some (.own 108 (acc.map encTok)) ∧ s.σ 7 = .val (.int .i64 (p : Nat)) ∧
    acc.length ≤ p ∧ toksF l t 0 = (acc ++ (toksF l t p).1, (toksF l t p).2)) t.length ⟨0, [], id, by simp⟩ ?_
  rintro m' ⟨σ, H⟩ ⟨p, acc, id, hpm, h0, h1, h6, hH, h7, hal, hh⟩
  simp only at h0 h1 h6 h7 hH
  by_cases hp : p < t.length
  · obtain ⟨hb1, hb2⟩ := bestF_ok (l := l) (Nat.le_of_lt hp)
    simp [h0, h1, h6, h7, hH, hp]
    refine TWoH.callV (tc_l9Best l t p hs c1 c2 (Nat.le_of_lt hp)) callable_89 (by simp [h0, h1, h7]) (by simp) (by simp) (by simp) ?_
    simp [h0, h1, h6, h7, hH, hp]
    refine gif_intro (fun c3 => ?_) (fun c3 => ?_) <;> simp [h0, h1, h6, h7, hH, hp, c3]
    · rw [toksF_end (p := p) (by omega)] at hh
      simp [hh]
    · have c4 := hb1 (by omega)
      have hw : IntKind.i64.wrap ((p : Int) + (bestF l t p).2) = (p : Int) + (bestF l t p).2 := wrapi (by omega)
      rw [toksF_next (p := p) hp (by omega) c4] at hh
      have k1 : (acc.length + 1) * 24 ≤ 140737488355328 := by omega
      have k2 : acc.length ≤ 9223372036854775806 := by omega
      simp [h0, h1, h6, h7, hH, hp, hw, k1, k2]
      refine gall_intro fun id' hid' => ?_
      simp [h0, h1, h6, h7, hH, hp, hw]
      exact ⟨t.length - (p + (bestF l t p).2), by omega, p + (bestF l t p).2, by omega, acc ++ [((bestF l t p).1, (p : Int), ((p + (bestF l t p).2 : Nat) : Int))], by simp [encTok], by omega, by simp; omega, by rw [hh]; simp⟩
  · rw [toksF_end (p := p) (by omega)] at hh
    simp [h0, h1, h6, h7, hH, hp, hh]
theorem tc_copiedTok (l : List Tok) (hl : l.length ≤ 1048576) : TC Try.prog 85 [.ro (l.map encTok)] [] (.own 108 (l.map encTok)) [] := by
  refine TC.enter Try.func85 rfl (by simp [Try.ntmps85]) rfl (TWc.postT (tw_sound (ρ := []) ?_))
  rw [Try.ntmps85]
  simp
  refine gif_intro (fun c1 => ?_) (fun c1 => ?_) <;> simp [c1]
  · refine Turn.nil 2 108 (by simp) fun id hid => ?_
    simp [List.eq_nil_of_length_eq_zero (show l.length = 0 by simpa using c1)]
  have k1 : (24 : Int) * l.length ≤ 281474976710656 := by omega
  have k2 : (l.length : Int) ≤ 9223372036854775807 := by omega
  simp [k1, k2]
  refine gall_intro fun id hid => ?_
  simp
  refine TWoH.copy id (List.replicate l.length [.val (.int .i64 0), .val (.int .i64 0), .val (.int .i64 0)]) (l.map encTok) Try.underlying54 (by simp) ?_ ?_ ?_ (rl_tok l) ?_ ?_
  all_goals simp
  exact Turn.same (by simp)
theorem tc_iLexMeans (l : List Rule) (t : List UInt8) (hs : RSm l) :
    TC Try.prog 46 [.ro (l.map encRule), .val (.string (bs t))] [] (.tup [.own 108 ((lexMeans l t).1.map encTok), .val (.int .i64 (lexMeans l t).2)]) [] := by
  refine TC.enter Try.func46 rfl (by simp [Try.ntmps46]) rfl (TWc.postT (tw_sound (ρ := []) ?_))
  rw [Try.ntmps46]
  simp
  refine TWoH.callV (tc_iRulesOk l hs) callable_77 (by simp) (by simp) (by simp) (by simp) ?_
  simp
  refine gif_intro (fun c1 => ?_) (fun c1 => ?_) <;> simp [c1]
  case refine_2 =>
    refine Turn.nil 4 108 (by simp) fun id hid => ?_
    simp [lexMeans, c1]
  refine TWoH.callV (tc_iMatchWord t) callable_78 (by simp) (by simp) (by simp) (by simp) ?_
  simp
  refine gif_intro (fun c2 => ?_) (fun c2 => ?_) <;> simp [c2]
  case refine_2 =>
    refine Turn.nil 4 108 (by simp) fun id hid => ?_
    simp [lexMeans, c2]
  have hr : lexMeans l t = toksF l t 0 := by simp [lexMeans, c1, c2]
  rw [hr]
  refine TWcH.turn (Turn.nil 6 108 (by simp) fun id hid => ?_)
  refine TWcH.loop [52] (fun m' s => ∃ p acc id, p + m' = t.length ∧ s.σ 0 = .ro (l.map encRule) ∧ s.σ 1 = .val (.string (bs t)) ∧ s.σ 6 = .hd id ∧ s.H id = some (.own 108 (acc.map encTok)) ∧ s.σ 7 = .val (.int .i64 (p : Nat)) ∧
    acc.length ≤ p ∧ toksF l t 0 = (acc ++ (toksF l t p).1, (toksF l t p).2)) t.length ⟨0, [], id, by simp⟩ ?_
  rintro m' ⟨σ, H⟩ ⟨p, acc, id, hpm, h0, h1, h6, hH, h7, hal, hh⟩
  simp only at h0 h1 h6 h7 hH
  by_cases hp : p < t.length
  · obtain ⟨hb1, hb2⟩ := bestF_ok (l := l) (Nat.le_of_lt hp)
    simp [h0, h1, h6, h7, hH, hp]
    refine TWcH.loop [] (fun m'' s => ∃ i b m, i + m'' = l.length ∧ s.σ 0 = .ro (l.map encRule) ∧ s.σ 1 = .val (.string (bs t)) ∧ s.σ 6 = .hd id ∧ s.H id = some (.own 108 (acc.map encTok)) ∧ s.σ 7 = .val (.int .i64 (p : Nat)) ∧ s.σ 8 = .val (.int .i64 b) ∧ s.σ 9 = .val (.int .i64 (m : Nat)) ∧
      s.σ 25 = .ro (l.map encRule) ∧ s.σ 26 = .val (.int .i64 l.length) ∧ s.σ 27 = .val (.int .i64 i) ∧ bestF l t p = bestGo t p (l.drop i) i b m) l.length ⟨0, -1, 0, by simp [h0, h1, h6, h7, hH, bestF]⟩ ?_
    rintro m'' ⟨σ, H⟩ ⟨i, b, m, him, g0, g1, g6, gH, g7, g8, g9, g25, g26, g27, gg⟩
    simp only at g0 g1 g6 gH g7 g8 g9 g25 g26 g27
    by_cases hi : i < l.length
    · rw [bestGo_drop hi] at gg
      have hw := hw1 hi (by have := hs.1; omega)
      simp [g0, g1, g6, gH, g7, g8, g9, g25, g26, g27, getI hi, hi]
      refine gall_intro fun a ha => ?_
      have hne : ¬ id = a := ne_some (by simp [gH]) ha
      simp [g0, g1, g6, gH, g7, g8, g9, g25, g26, g27, getI hi, hi, encRule, hne]
      refine TWoH.callV (tc_iMatchLong l[i].rex t p (hs.2 _ (List.getElem_mem hi)).1 (rulesOk_rex c1 hi) c2 (Nat.le_of_lt hp)) callable_90 (by simp [g1, g7]) (by simp) (by simp) (by simp) ?_
      have hle := matchLong_le (r := l[i].rex) (Nat.le_of_lt hp)
      by_cases c : (m : Int) < matchLong l[i].rex t p
      · rw [if_pos c] at gg
        have hn : ((matchLong l[i].rex t p).toNat : Int) = matchLong l[i].rex t p := by omega
        simp [g0, g1, g6, gH, g7, g8, g9, g25, g26, g27, getI hi, hi, encRule, c, hw, hne]
        exact ⟨m'' - 1, by omega, i + 1, by omega, (matchLong l[i].rex t p).toNat, by omega, by omega, gg⟩
      · rw [if_neg c] at gg
        simp [g0, g1, g6, gH, g7, g8, g9, g25, g26, g27, getI hi, hi, encRule, c, hw, hne]
        exact ⟨m'' - 1, by omega, i + 1, by omega, m, by omega, by omega, gg⟩
    · have hb : bestF l t p = (b, m) := by rw [gg, List.drop_eq_nil_of_le (by omega)]; rfl
      simp [g0, g1, g6, gH, g7, g8, g9, g25, g26, g27, hi]
      refine gif_intro (fun c3 => ?_) (fun c3 => ?_) <;> simp [g0, g1, g6, gH, g7, g8, g9, g25, g26, g27, hi, c3]
      · rw [toksF_end (p := p) (by rw [hb]; simp; omega)] at hh
        refine TWoH.call (tc_copiedTok acc (by omega)) callable_85 (by simp [g6, gH]) (by simp) (by simp) fun k hk => ?_
        simp [g7, hh]
        exact Turn.same (by simp)
      · rw [hb] at hb1 hb2
        have c4 := hb1 (by simp; omega)
        simp only at c4 hb2
        have hw : IntKind.i64.wrap ((p : Int) + m) = (p : Int) + m := wrapi (by omega)
        rw [toksF_next (p := p) hp (by rw [hb]; simp; omega) (by rw [hb]; exact c4), hb] at hh
        have k1 : (acc.length + 1) * 24 ≤ 140737488355328 := by omega
        have k2 : acc.length ≤ 9223372036854775806 := by omega
        simp [g0, g1, g6, gH, g7, g8, g9, g25, g26, g27, hw, k1, k2]
        refine gall_intro fun id' hid' => ?_
        simp [g0, g1, g6, gH, g7, g8, g9, g25, g26, g27, hw]
        exact ⟨t.length - (p + m), by omega, p + m, by omega, acc ++ [(b, (p : Int), ((p + m : Nat) : Int))], by simp [encTok], by omega, by simp; omega, by rw [hh]; simp⟩
  · rw [toksF_end (p := p) (by omega)] at hh
    simp [h0, h1, h6, h7, hH, hp, hh]
    refine TWoH.call (tc_copiedTok acc (by omega)) callable_85 (by simp [h6, hH]) (by simp) (by simp) fun k hk => ?_
    simp [h0, h1, h6, h7, hH, hp, hh]
    refine Turn.same ?_
    simp
end Go.Proofs.Ytigmibfacllhmaa.R

open Go Go.Proofs.Ytigmibfacllhmaa.T
namespace Go.Proofs.Ytigmibfacllhmaa.R
set_option maxHeartbeats 4000000
set_option maxRecDepth 100000
set_option linter.unusedSimpArgs false
set_option linter.unusedVariables false
attribute [local simp] bsV bsRows chunk fillT partsT appV makeV rowsOf cellsOf placeOf
/-- One list as far as i, another from there on. -/
def mix {α : Type _} (A B : List α) (i : Nat) : List α := A.take i ++ B.drop i
section
variable {α : Type _} {A B : List α} {i : Nat}
@[simp] theorem mix_zero : mix A B 0 = B := by simp [mix]
@[simp] theorem mix_len (h : A.length = B.length) (hi : i ≤ B.length) : (mix A B i).length = B.length := by simp [mix]; omega
theorem mix_all (h : A.length = B.length) (hi : B.length ≤ i) : mix A B i = A := by
  unfold mix; rw [List.take_of_length_le (by omega), List.drop_eq_nil_of_le hi, List.append_nil]
theorem mix_at (h : A.length = B.length) (hi : i < B.length) : (mix A B i)[i]? = some B[i] := by
  unfold mix
  rw [List.getElem?_append_right (by simp; omega)]
  simp [List.getElem?_drop, Nat.min_eq_left (show i ≤ A.length by omega)]
theorem mix_at' (h : A.length = B.length) (hi : i < B.length) (hh : i < (mix A B i).length) : (mix A B i)[i] = B[i] := by
  have := mix_at h hi
  rw [List.getElem?_eq_getElem hh] at this
  exact Option.some.inj this
theorem mix_set (h : A.length = B.length) (hi : i < B.length) {x : α} (hx : A[i]? = some x) : (mix A B i).set i x = mix A B (i + 1) := by
  apply List.ext_getElem?
  intro j
  unfold mix
  rw [List.getElem?_set]
  by_cases e : i = j
  · subst e
    rw [if_pos rfl, if_pos (by simp; omega), List.getElem?_append_left (by simp; omega)]
    simp [List.getElem?_take, hx]
  · rw [if_neg e]
    by_cases h' : j < i
    · rw [List.getElem?_append_left (by simp; omega), List.getElem?_append_left (by simp; omega)]
      simp [List.getElem?_take, h', show j < i + 1 by omega]
    · rw [List.getElem?_append_right (by simp; omega), List.getElem?_append_right (by simp; omega)]
      simp [List.getElem?_drop]
      congr 1; omega
end
theorem tc_eqToken (a : Tok) : TC Try.prog 86 [.agg (encTok a), .agg (encTok a)] [] (.val (.bool true)) [] := by
  refine TC.enter Try.func86 rfl (by simp [Try.ntmps86]) rfl (tw_sound (ρ := [2, 3]) ?_)
  rw [Try.ntmps86]
  simp [encTok]
theorem tc_eqTokenS (l : List Tok) (hl : l.length ≤ 1152921504606846976) : TC Try.prog 37 [.ro (l.map encTok), .ro (l.map encTok)] [] (.val (.bool true)) [] := by
  refine TC.enter Try.func37 rfl (by simp [Try.ntmps37]) rfl (tw_sound (ρ := []) ?_)
  rw [Try.ntmps37]
  simp
  refine TWcH.loop [] (fun m s => ∃ i, i + m = l.length ∧ s.σ 0 = .ro (l.map encTok) ∧ s.σ 1 = .ro (l.map encTok) ∧ s.σ 5 = .val (.int .i64 i)) l.length ⟨0, by simp⟩ ?_
  rintro m ⟨σ, H⟩ ⟨i, him, h0, h1, h5⟩
  simp only at h0 h1 h5
  by_cases hi : i < l.length
  · have hw := hw1 hi hl
    simp [h0, h1, h5, hi]
    refine TWcH.regionD (ρ := []) [0, 1, 2, 3, 4, 5, 6, 7, 8, 9] 10 mixed (by kernel_rfl) ?_
    simp [h0, h1, h5, hi, getI hi]
    refine TWqH.callV (tc_eqToken l[i]) callable_86 (by simp) (by simp) (by simp) (by simp) ?_
    simp [h0, h1, h5, hi, hw]
    exact ⟨m - 1, by omega, i + 1, by omega, by omega⟩
  · simp [h0, h1, h5, hi]
def mkTok (k : Int) (i : Nat) : Tok := (k + 3 * i, k + 3 * i + 1, k + 3 * i + 2)
def mkToks (k : Int) (n : Nat) : List Tok := (List.range n).map (mkTok k)
@[simp] theorem mkToks_len (k : Int) (n : Nat) : (mkToks k n).length = n := by simp [mkToks]
theorem mkToks_at {k : Int} {n i : Nat} (h : i < n) : (mkToks k n)[i]? = some (mkTok k i) := by simp [mkToks, h]
theorem tc_markTokenS (l : List Tok) (k : Int) (h0 : 0 ≤ k) (hk : k + 3 * l.length ≤ 1152921504606846976) : TC Try.prog 38 [.hd 0, .val (.int .i64 k)] [.own 108 (l.map encTok)] (.val (.int .i64 (k + 3 * l.length))) [.own 108 ((mkToks k l.length).map encTok)] := by
  refine TC.enter Try.func38 rfl (by simp [Try.ntmps38]) rfl (tw_sound (ρ := []) ?_)
  rw [Try.ntmps38]
  simp
  refine TWcH.loop [] (fun m s => ∃ i : Nat, i + m = l.length ∧ s.σ 0 = .hd 0 ∧ s.σ 1 = .val (.int .i64 (k + 3 * i)) ∧ s.σ 5 = .val (.int .i64 i) ∧ s.H 0 = some (.own 108 (mix ((mkToks k l.length).map encTok) (l.map encTok) i))) l.length ⟨0, by simp⟩ ?_
  rintro m ⟨σ, H⟩ ⟨i, him, g0, g1, g5, gH⟩
  simp only at g0 g1 g5 gH
  by_cases hi : i < l.length
  · have hw := hw1 hi (by omega)
    have e1 : IntKind.i64.wrap (k + 3 * i + 1) = k + 3 * i + 1 := wrapi (by omega)
    have e2 : IntKind.i64.wrap (k + 3 * i + 1 + 1) = k + 3 * i + 2 := by rw [wrapi (by omega)]; omega
    have e3 : IntKind.i64.wrap (k + 3 * i + 2 + 1) = k + 3 * i + 3 := by rw [wrapi (by omega)]; omega
    have hat := mix_at' (A := (mkToks k l.length).map encTok) (B := l.map encTok) (i := i) (by simp) (by simpa using hi)
    simp only [List.getElem_map] at hat
    have hln : (mix ((mkToks k l.length).map encTok) (l.map encTok) i).length = l.length := by rw [mix_len (by simp) (by simp; omega)]; simp
    have hset := mix_set (A := (mkToks k l.length).map encTok) (B := l.map encTok) (i := i) (by simp) (by simpa using hi) (x := encTok (mkTok k i)) (by rw [List.getElem?_map, mkToks_at hi]; rfl)
    simp only [encTok, mkTok] at hset
    simp only [encTok] at hat
    simp [g0, g1, g5, gH, hi, hw, e1, e2, e3, hat, hln, hset]
    exact ⟨m - 1, by omega, i + 1, by omega, by omega, by omega, rfl⟩
  · obtain rfl : i = l.length := by omega
    rw [mix_all (by simp) (by simp)] at gH
    simp [g0, g1, g5, gH]
    exact ⟨_, _, ⟨rfl, rfl⟩, rfl, by simp, by simp [gH]⟩
theorem tc_heldTokenS (n : Nat) (k : Int) (h0 : 0 ≤ k) (hk : k + 3 * n ≤ 1152921504606846976) : TC Try.prog 39 [.ro ((mkToks k n).map encTok), .val (.int .i64 k)] [] (.val (.int .i64 (k + 3 * n))) [] := by
  refine TC.enter Try.func39 rfl (by simp [Try.ntmps39]) rfl (tw_sound (ρ := []) ?_)
  rw [Try.ntmps39]
  simp
  refine TWcH.loop [] (fun m s => ∃ i : Nat, i + m = n ∧ s.σ 0 = .ro ((mkToks k n).map encTok) ∧ s.σ 1 = .val (.int .i64 (k + 3 * i)) ∧ s.σ 5 = .val (.int .i64 i)) n ⟨0, by simp⟩ ?_
  rintro m ⟨σ, H⟩ ⟨i, him, g0, g1, g5⟩
  simp only at g0 g1 g5
  by_cases hi : i < n
  · have hw : IntKind.i64.wrap ((i : Int) + 1) = i + 1 := wrapi (by omega)
    have e1 : IntKind.i64.wrap (k + 3 * i + 1) = k + 3 * i + 1 := wrapi (by omega)
    have e2 : IntKind.i64.wrap (k + 3 * i + 1 + 1) = k + 3 * i + 2 := by rw [wrapi (by omega)]; omega
    have e3 : IntKind.i64.wrap (k + 3 * i + 2 + 1) = k + 3 * i + 3 := by rw [wrapi (by omega)]; omega
    have hat : ∀ h, (mkToks k n)[i]'h = mkTok k i := fun h => by simp [mkToks]
    simp [g0, g1, g5, hi, hw, e1, e2, e3, hat, encTok, mkTok]
    exact ⟨m - 1, by omega, i + 1, by omega, by omega, by omega⟩
  · obtain rfl : i = n := by omega
    simp [g0, g1, g5]
/-- Spans are marked: how they read then does not matter. -/
theorem tcr_markSpanS (l : List (Int × Int)) (k : Int) (h0 : 0 ≤ k) (hk : k + 2 * l.length ≤ 1152921504606846976) : TCR Try.prog 92 [.hd 0, .val (.int .i64 k)] [.own 117 (l.map encS)] (fun r o => r = .val (.int .i64 (k + 2 * l.length)) ∧ ∃ l' : List (Int × Int), o = [.own 117 (l'.map encS)]) := by
  refine TCR.enter Try.func92 rfl (by simp [Try.ntmps92]) rfl (tw_sound (ρ := []) ?_)
  rw [Try.ntmps92]
  simp
  refine TWcH.loop [] (fun m s => ∃ (i : Nat) (l' : List (Int × Int)), i + m = l.length ∧ l'.length = l.length ∧ s.σ 0 = .hd 0 ∧ s.σ 1 = .val (.int .i64 (k + 2 * i)) ∧ s.σ 5 = .val (.int .i64 i) ∧ s.H 0 = some (.own 117 (l'.map encS))) l.length ⟨0, l, by simp⟩ ?_
  rintro m ⟨σ, H⟩ ⟨i, l', him, hl', g0, g1, g5, gH⟩
  simp only at g0 g1 g5 gH
  by_cases hi : i < l.length
  · have hw : IntKind.i64.wrap ((i : Int) + 1) = i + 1 := wrapi (by omega)
    have e1 : IntKind.i64.wrap (k + 2 * i + 1) = k + 2 * i + 1 := wrapi (by omega)
    have e2 : IntKind.i64.wrap (k + 2 * i + 1 + 1) = k + 2 * i + 2 := by rw [wrapi (by omega)]; omega
    have hi' : i < l'.length := by omega
    simp [g0, g1, g5, gH, hi, hi', hl', hw, e1, e2, encS]
    exact ⟨m - 1, by omega, i + 1, by omega, l'.set i (k + 2 * i, k + 2 * i + 1), by simp [hl'], by omega, by omega, by rw [List.map_set]; simp [encS]⟩
  · obtain rfl : i = l.length := by omega
    simp [g0, g1, g5, gH, hl']
    exact ⟨_, _, ⟨rfl, rfl⟩, by simp, by simp [gH], rfl, l', by simp [gH]⟩
end Go.Proofs.Ytigmibfacllhmaa.R

open Go Go.Proofs.Ytigmibfacllhmaa.T
namespace Go.Proofs.Ytigmibfacllhmaa.R
set_option maxHeartbeats 4000000
set_option maxRecDepth 100000
set_option linter.unusedSimpArgs false
set_option linter.unusedVariables false
attribute [local simp] bsV bsRows chunk fillT partsT appV makeV rowsOf cellsOf placeOf
mutual
def oRex : Rex → List TV
  | .mk k s l => [.val (.int .i64 k), .own 117 (s.map encS), .own 101 (oRexL l)]
def oRexL : List Rex → List (List TV)
  | [] => []
  | r :: l => oRex r :: oRexL l
end
theorem oRexL_eq : ∀ l : List Rex, oRexL l = l.map oRex
  | [] => rfl
  | r :: l => by simp [oRexL, oRexL_eq l]
@[simp] theorem len_orex (r : Rex) : (oRex r).length = 3 := by cases r; simp [oRex]
@[simp] theorem noRoR_S (l : List (Int × Int)) : noRoR (l.map encS) = true := by induction l <;> simp [encS, *]
mutual
theorem noH_orex : ∀ r : Rex, noHL (oRex r) = true
  | .mk k s l => by simp [oRex, noHR_orex l]
theorem noHR_orex : ∀ l : List Rex, noHR (oRexL l) = true
  | [] => by simp [oRexL]
  | r :: l => by simp [oRexL, noH_orex r, noHR_orex l]
end
mutual
theorem noRo_orex : ∀ r : Rex, noRoL (oRex r) = true
  | .mk k s l => by simp [oRex, noRoR_orex l]
theorem noRoR_orex : ∀ l : List Rex, noRoR (oRexL l) = true
  | [] => by simp [oRexL]
  | r :: l => by simp [oRexL, noRo_orex r, noRoR_orex l]
end
mutual
theorem roL_orex : ∀ r : Rex, roL (oRex r) = encRex r
  | .mk k s l => by simp [oRex, encRex, roRows_orex l]
theorem roRows_orex : ∀ l : List Rex, roRows (oRexL l) = encRexL l
  | [] => by simp [oRexL, encRexL]
  | r :: l => by simp [oRexL, encRexL, roL_orex r, roRows_orex l]
end
attribute [simp] noH_orex noHR_orex noRo_orex noRoR_orex roL_orex roRows_orex
@[simp] theorem noHR_orexs (l : List Rex) : noHR (l.map oRex) = true := by rw [← oRexL_eq]; simp
@[simp] theorem noRoR_orexs (l : List Rex) : noRoR (l.map oRex) = true := by rw [← oRexL_eq]; simp
@[simp] theorem roRows_orexs (l : List Rex) : roRows (l.map oRex) = l.map encRex := by rw [← oRexL_eq, ← encRexL_eq]; simp
theorem tc_toRexSO (l : List Rex) (hl : l.length ≤ 1048576) (ih : ∀ i (h : i < l.length), TC Try.prog 114 [.agg (encRex l[i])] [] (.agg (oRex l[i])) []) : TC Try.prog 140 [.ro (l.map encRex)] [] (.own 101 (l.map oRex)) [] := by
  refine TC.enter Try.func140 rfl (by simp [Try.ntmps140]) rfl (tw_sound (ρ := []) ?_)
  rw [Try.ntmps140]
  simp [makeV]
  rw [gif_pos (by omega)]
  refine gall_intro fun id hid => ?_
  simp
  refine TWcH.loopS [] (fun m s => ∃ i, i + m = l.length ∧ s.σ 0 = .ro (l.map encRex) ∧ s.σ 3 = .hd id ∧ s.σ 4 = .val (.int .i64 i) ∧ s.H id = some (.own 101 (fillR oRex [.val (.int .i64 0), .val (.slice none 0 0), .val (.slice none 0 0)] l i))) l.length ⟨0, by simp⟩ ?_
  rintro m ⟨σ, H⟩ ⟨i, him, h0, h3, h4, hH⟩
  simp only at h0 h3 h4 hH
  refine tw_sound (ρ := []) ?_
  by_cases hi : i < l.length
  · have hw := hw1 hi (by omega)
    simp [h0, h3, h4, getI hi, hi]
    have hih := ih i hi
    have hset := fillR_set (enc := oRex) (z := [.val (.int .i64 0), .val (.slice none 0 0), .val (.slice none 0 0)]) hi
    generalize l[i] = r at hih hset
    obtain ⟨kk, ss, ks⟩ := r
    refine TWoH.call hih callable_114 (by simp [*]) (by simp) (by simp) fun k hk => ?_
    have n1 : ¬ id = k := fun e => by have := hk k (Nat.le_refl _); rw [← e] at this; simp [hH] at this
    have n2 : ¬ id = k + 1 := fun e => by have := hk (k + 1) (by omega); rw [← e] at this; simp [hH] at this
    simp [h0, h3, h4, hH, hi, oRex, n1, n2, fillR_at hi, fillR_at' hi, fillR_len (Nat.le_of_lt hi), hw]
    refine ⟨m - 1, by omega, _, Shift.fold2x id k (k + 1) 101 i 1 2 ((fillR oRex [.val (.int .i64 0), .val (.slice none 0 0), .val (.slice none 0 0)] l i).set i [.val (.int .i64 kk), .hd k, .hd (k + 1)]) [.val (.int .i64 kk), .hd k, .hd (k + 1)] (.own 117 (ss.map encS)) (.own 101 (oRexL ks)) n1 n2 (by omega) (by omega) (by simp) (by simp [fillR_len (Nat.le_of_lt hi), hi]) (by simp) (by simp) (by simp [n1, Ne.symm n1]) (by simp [n2, Ne.symm n2]), i + 1, by omega, ?_⟩
    simp [h0, h3]
    rw [← hset]; simp [oRex]

  · simp [h0, h3, h4, hH, hi, fillR_all (Nat.le_of_not_lt hi)]
mutual
theorem tc_toRexO : ∀ (r : Rex), Sm r → TC Try.prog 114 [.agg (encRex r)] [] (.agg (oRex r)) []
  | .mk k s l, hs => by
    refine TC.enter Try.func114 rfl (by simp [Try.ntmps114]) rfl (tw_sound (ρ := [1]) ?_)
    rw [Try.ntmps114]
    simp [encRex]
    refine gall_intro fun a ha => ?_
    simp
    refine gall_intro fun b hb => ?_
    simp at hb
    simp [hb, Ne.symm hb]
    refine TWoH.call (tc_toSpanS s hs.1) callable_104 (by simp [*]) (by simp) (by simp) fun c hc => ?_
    have c1 : ¬ a = c := fun e => by have := hc c (Nat.le_refl _); rw [← e] at this; simp [hb, Ne.symm hb] at this
    have c2 : ¬ b = c := fun e => by have := hc c (Nat.le_refl _); rw [← e] at this; simp [hb, Ne.symm hb] at this
    simp [hb, Ne.symm hb, c1, c2, Ne.symm c1, Ne.symm c2]
    refine TWoH.call (tc_toRexSO l hs.2.1 (tc_toRexOL l hs.2.2)) callable_140 (by simp [*, encRexL_eq]) (by simp) (by simp) fun d hd => ?_
    have d1 : ¬ a = d := fun e => by have := hd d (Nat.le_refl _); rw [← e] at this; simp [hb, Ne.symm hb, c1, c2] at this
    have d2 : ¬ b = d := fun e => by have := hd d (Nat.le_refl _); rw [← e] at this; simp [hb, Ne.symm hb, c1, c2] at this
    have d3 : ¬ c = d := fun e => by have := hd d (Nat.le_refl _); rw [← e] at this; simp [hb, Ne.symm hb, c1, c2, Ne.symm c1, Ne.symm c2] at this
    simp [hb, Ne.symm hb, c1, c2, Ne.symm c1, Ne.symm c2, d1, d2, d3, Ne.symm d1, Ne.symm d2, Ne.symm d3, oRex, oRexL_eq]
theorem tc_toRexOL : ∀ (l : List Rex), SmL l → ∀ i (h : i < l.length), TC Try.prog 114 [.agg (encRex l[i])] [] (.agg (oRex l[i])) []
  | r :: l, hs, 0, _ => tc_toRexO r hs.1
  | r :: l, hs, i + 1, h => by
    simp only [List.getElem_cons_succ]
    exact tc_toRexOL l hs.2 i (by simpa using h)
end
def oRule (r : Rule) : List TV := .val (.string (bs r.name)) :: oRex r.rex
@[simp] theorem len_orule (r : Rule) : (oRule r).length = 4 := by simp [oRule]
@[simp] theorem roL_orule (r : Rule) : roL (oRule r) = encRule r := by simp [oRule, encRule]
@[simp] theorem noH_orule (r : Rule) : noHL (oRule r) = true := by simp [oRule]
@[simp] theorem noRo_orule (r : Rule) : noRoL (oRule r) = true := by simp [oRule]
@[simp] theorem noHR_orules (l : List Rule) : noHR (l.map oRule) = true := by induction l <;> simp [*]
@[simp] theorem noRoR_orules (l : List Rule) : noRoR (l.map oRule) = true := by induction l <;> simp [*]
@[simp] theorem roRows_orules (l : List Rule) : roRows (l.map oRule) = l.map encRule := by induction l <;> simp [*]
theorem tc_toRuleO (r : Rule) (hs : Sm r.rex) : TC Try.prog 76 [.agg (encRule r)] [] (.agg (oRule r)) [] := by
  refine TC.enter Try.func76 rfl (by simp [Try.ntmps76]) rfl (tw_sound (ρ := [1]) ?_)
  rw [Try.ntmps76]
  simp [encRule]
  refine gall_intro fun a ha => ?_
  simp
  refine gall_intro fun b hb => ?_
  simp at hb
  simp [hb, Ne.symm hb]
  have h := tc_toRexO r.rex hs
  obtain ⟨nm, rx⟩ := r
  obtain ⟨kk, ss, ks⟩ := rx
  refine TWoH.call h callable_114 (by simp [*]) (by simp) (by simp) fun c hc => ?_
  have c1 : ¬ a = c := fun e => by have := hc c (Nat.le_refl _); rw [← e] at this; simp [hb, Ne.symm hb] at this
  have c2 : ¬ b = c := fun e => by have := hc c (Nat.le_refl _); rw [← e] at this; simp [hb, Ne.symm hb] at this
  have d1 : ¬ a = c + 1 := fun e => by have := hc (c + 1) (by omega); rw [← e] at this; simp [hb, Ne.symm hb] at this
  have d2 : ¬ b = c + 1 := fun e => by have := hc (c + 1) (by omega); rw [← e] at this; simp [hb, Ne.symm hb] at this
  simp [hb, Ne.symm hb, c1, c2, Ne.symm c1, Ne.symm c2, d1, d2, Ne.symm d1, Ne.symm d2, oRule, oRex]
theorem tc_toRuleSO (l : List Rule) (hl : l.length ≤ 1048576) (hs : ∀ r ∈ l, Sm r.rex) : TC Try.prog 26 [.ro (l.map encRule)] [] (.own 103 (l.map oRule)) [] := by
  refine TC.enter Try.func26 rfl (by simp [Try.ntmps26]) rfl (tw_sound (ρ := []) ?_)
  rw [Try.ntmps26]
  simp [makeV]
  rw [gif_pos (by omega)]
  refine gall_intro fun id hid => ?_
  simp
  refine TWcH.loopS [] (fun m s => ∃ i, i + m = l.length ∧ s.σ 0 = .ro (l.map encRule) ∧ s.σ 3 = .hd id ∧ s.σ 4 = .val (.int .i64 i) ∧ s.H id = some (.own 103 (fillR oRule [.val (.string (bs [])), .val (.int .i64 0), .val (.slice none 0 0), .val (.slice none 0 0)] l i))) l.length ⟨0, by simp⟩ ?_
  rintro m ⟨σ, H⟩ ⟨i, him, h0, h3, h4, hH⟩
  simp only at h0 h3 h4 hH
  refine tw_sound (ρ := []) ?_
  by_cases hi : i < l.length
  · have hw := hw1 hi (by omega)
    simp [h0, h3, h4, getI hi, hi]
    have hih := tc_toRuleO l[i] (hs _ (List.getElem_mem hi))
    have hset := fillR_set (enc := oRule) (z := [.val (.string (bs [])), .val (.int .i64 0), .val (.slice none 0 0), .val (.slice none 0 0)]) hi
    generalize l[i] = r at hih hset
    obtain ⟨nm, rx⟩ := r
    obtain ⟨kk, ss, ks⟩ := rx
    refine TWoH.call hih callable_76 (by simp [*]) (by simp) (by simp) fun k hk => ?_
    have n1 : ¬ id = k := fun e => by have := hk k (Nat.le_refl _); rw [← e] at this; simp [hH] at this
    have n2 : ¬ id = k + 1 := fun e => by have := hk (k + 1) (by omega); rw [← e] at this; simp [hH] at this
    simp [h0, h3, h4, hH, hi, oRule, oRex, n1, n2, fillR_at hi, fillR_at' hi, fillR_len (Nat.le_of_lt hi), hw]
    refine ⟨m - 1, by omega, _, Shift.fold2x id k (k + 1) 103 i 2 3 ((fillR oRule [.val (.string (bs [])), .val (.int .i64 0), .val (.slice none 0 0), .val (.slice none 0 0)] l i).set i [.val (.string (bs nm)), .val (.int .i64 kk), .hd k, .hd (k + 1)]) [.val (.string (bs nm)), .val (.int .i64 kk), .hd k, .hd (k + 1)] (.own 117 (ss.map encS)) (.own 101 (oRexL ks)) n1 n2 (by omega) (by omega) (by simp) (by simp [fillR_len (Nat.le_of_lt hi), hi]) (by simp) (by simp) (by simp [n1, Ne.symm n1]) (by simp [n2, Ne.symm n2]), i + 1, by omega, ?_⟩
    simp [h0, h3]
    rw [← hset]; simp [oRule, oRex]
  · simp [h0, h3, h4, hH, hi, fillR_all (Nat.le_of_not_lt hi)]
end Go.Proofs.Ytigmibfacllhmaa.R

open Go Go.Proofs.Ytigmibfacllhmaa.T
namespace Go.Proofs.Ytigmibfacllhmaa.R
set_option maxHeartbeats 4000000
set_option maxRecDepth 100000
set_option linter.unusedSimpArgs false
set_option linter.unusedVariables false
attribute [local simp] bsV bsRows chunk fillT partsT appV makeV rowsOf cellsOf placeOf
theorem tcr_markText (k : Int) (h0 : 0 ≤ k) (hk : k ≤ 1152921504606846976) : TCR Try.prog 91 [.val (.int .i64 k)] [] (fun r o => o = [] ∧ ∃ s : List UInt8, r = .val (.string (bs s))) := by
  refine TCR.enter Try.func91 rfl (by simp [Try.ntmps91]) rfl (tw_sound (ρ := [12]) ?_)
  rw [Try.ntmps91]
  simp
  refine gif_intro (fun c1 => ?_) (fun c1 => ?_) <;> simp [c1]
  · exact ⟨_, rfl⟩
  refine TWcH.loop [12] (fun m s => ∃ (j : Nat) (w : List UInt8), m = j ∧ s.σ 0 = .val (.int .i64 j) ∧ s.σ 3 = .val (.string (bs w)) ∧ w.length + j ≤ k) k.toNat ⟨k.toNat, [], rfl, by simp; omega, by simp, by simp; omega⟩ ?_
  rintro m ⟨σ, H⟩ ⟨j, w, rfl, g0, g3, hw⟩
  simp only at g0 g3
  by_cases hj : 0 < m
  · have e1 : IntKind.i64.wrap (48 + (m : Int).tmod 10) = 48 + (m : Int) % 10 := by rw [Int.tmod_eq_emod_of_nonneg (by omega), wrapi (by omega)]
    have e4 : ¬ ((9223372036854775807 : Int) < ((1 + w.length : Nat) : Int)) := by omega
    simp only [Int.natCast_add, Int.natCast_one] at e4
    have e3 : IntKind.i64.wrap ((m : Int).tdiv 10) = ((m / 10 : Nat) : Int) := by rw [Int.tdiv_eq_ediv_of_nonneg (by omega), wrapi (by omega)]; omega
    simp [g0, g3, hj, e1, e3, e4]
    refine ⟨m / 10, by omega, by rw [wrapi (by omega)]; omega, _, rfl, by simp; omega⟩

  · have e4 : ¬ ((9223372036854775807 : Int) < 1 + (w.length : Int)) := by omega
    simp [g0, g3, hj, e4]
    exact ⟨_, rfl⟩
mutual
/-- How many marks what is drawn takes. -/
def costR : Rex → Nat
  | .mk _ s l => 1 + 2 * s.length + costL l
def costL : List Rex → Nat
  | [] => 0
  | r :: l => costR r + costL l
end
theorem costL_drop {l : List Rex} {i : Nat} (h : i < l.length) : costL (l.drop i) = costR l[i] + costL (l.drop (i + 1)) := by
  conv => lhs; rw [List.drop_eq_getElem_cons h]
  rw [costL]
theorem costR_lt {l : List Rex} {i : Nat} (h : i < l.length) : costR l[i] ≤ costL l := by
  induction l generalizing i with
  | nil => simp at h
  | cons r l ih =>
    cases i with
    | zero => simp [costL]
    | succ i => simp only [List.getElem_cons_succ, costL]; have := ih (i := i) (by simpa using h); omega
mutual
theorem tcr_markRexS : ∀ (l : List Rex), (k : Int) → 0 ≤ k → k + costL l ≤ 1152921504606846976 → l.length ≤ 1048576 → SmL l → TCR Try.prog 93 [.hd 0, .val (.int .i64 k)] [.own 101 (l.map oRex)] (fun r o => ∃ (k' : Int) (l' : List Rex), r = .val (.int .i64 k') ∧ o = [.own 101 (l'.map oRex)] ∧ k ≤ k' ∧ k' ≤ k + costL l)
  | l, k, h0, hk, hl, hs => by
    refine TCR.enter Try.func93 rfl (by simp [Try.ntmps93]) rfl (tw_sound (ρ := []) ?_)
    rw [Try.ntmps93]
    simp
    refine TWcH.loopS [] (fun m s => ∃ (i : Nat) (l' : List Rex) (a : Int), i + m = l.length ∧ l'.length = l.length ∧ (∀ j, i ≤ j → l'[j]? = l[j]?) ∧ s.σ 0 = .hd 0 ∧ s.σ 1 = .val (.int .i64 a) ∧ s.σ 5 = .val (.int .i64 i) ∧ s.H 0 = some (.own 101 (l'.map oRex)) ∧ k ≤ a ∧ a + costL (l.drop i) ≤ k + costL l) l.length ⟨0, l, k, by simp⟩ ?_
    rintro m ⟨σ, H⟩ ⟨i, l', a, him, hl', hsame, g0, g1, g5, gH, ha0, ha1⟩
    simp only at g0 g1 g5 gH
    by_cases hi : i < l.length
    · have hw : IntKind.i64.wrap ((i : Int) + 1) = i + 1 := wrapi (by omega)
      have hi' : i < l'.length := by omega
      rw [costL_drop hi] at ha1
      have hli := hsame i (Nat.le_refl _)
      rw [getI hi] at hli
      have hsub := tcr_markRexK l hs i hi
      have hc := costR_lt hi
      generalize hx : l[i] = x at hli hsub hc ha1
      obtain ⟨kk, ss, ks⟩ := x
      refine TWc.unfold2 (E1 := 117) (rows1 := ss.map encS) (E2 := 101) (rows2 := ks.map oRex) (c1 := 1) (c2 := 2) (row := oRex (.mk kk ss ks)) (by omega) gH (by rw [List.getElem?_map, hli]; rfl) (by simp [oRex]) (by simp [oRex, oRexL_eq]) fun k1 k2 H' n1 n2 d1 d2 d12 eH e1 e2 e3 => ?_
      simp only at n1 n2 eH e1 e2 e3
      refine tw_sound (ρ := []) ?_
      simp only [costR] at ha1 hc
      have w1 : IntKind.i64.wrap (a + 1) = a + 1 := wrapi (by omega)
      have hd1 : ¬ k1 = 0 := fun e => d1 e.symm
      have hd2 : ¬ k2 = 0 := fun e => d2 e.symm
      have hd12 : ¬ k2 = k1 := fun e => d12 e.symm
      simp [g0, g1, g5, eH, hi, hi', hl', oRex, w1]
      refine TWoH.lendR [k1] (tcr_markSpanS ss (a + 1) (by omega) (by omega)) callable_92 (by simp) (by simp [e1, d1, hd1]) (by simp) (by simp) ?_
      rintro r o ⟨rfl, s', rfl⟩
      refine ⟨by simp, by simp, .inl (by simp), fun q hq => ?_⟩
      simp [g0, g1, g5, eH, e1, e2, hi, hi', hl', oRex, w1, d1, d2, d12, hd1, hd2, hd12]
      refine TWoH.lendR [k2] (hsub (a + 1 + 2 * ss.length) (by omega) (by omega)) callable_93 (by simp) (by simp [e2, d1, d2, d12, hd1, hd2, hd12]) (by simp) (by simp) ?_
      rintro r o ⟨a', l2, rfl, rfl, b1, b2⟩
      refine ⟨by simp, by simp, .inl (by simp), fun q' hq' => ?_⟩
      simp [g0, g1, g5, eH, e1, e2, hi, hi', hl', oRex, w1, d1, d2, d12, hd1, hd2, hd12, hw]
      refine ⟨m - 1, by omega, _, Shift.fold2x 0 k1 k2 101 i 1 2 ((l'.map oRex).set i [.val (.int .i64 a), .hd k1, .hd k2]) [.val (.int .i64 a), .hd k1, .hd k2] (.own 117 (s'.map encS)) (.own 101 (l2.map oRex)) d1 d2 d12 (by omega) (by simp [hd1, hd2, d1, d2]) (by simp [hi']) (by simp) (by simp) (by simp [hd1, hd2, d1, d2, d12, hd12]) (by simp [hd1, hd2, d1, d2, d12, hd12]), i + 1, by omega, l'.set i (.mk a s' l2), by simp [hl'], ?_, ?_⟩
      · intro j hj
        rw [List.getElem?_set_ne (by omega)]
        exact hsame j (by omega)
      · simp [g0, g5, hw, List.map_set, oRex, oRexL_eq]
        omega
    · obtain rfl : i = l.length := by omega
      refine tw_sound (ρ := []) ?_
      simp [g0, g1, g5, gH, hl']
      exact ⟨_, _, ⟨rfl, rfl⟩, by simp, by simp [gH], a, rfl, ⟨l', by simp [gH]⟩, by omega, by omega⟩
theorem tcr_markRexK : ∀ (l : List Rex), SmL l → ∀ i (h : i < l.length), match l[i] with
    | .mk kk ss ks => ∀ k : Int, 0 ≤ k → k + costL ks ≤ 1152921504606846976 → TCR Try.prog 93 [.hd 0, .val (.int .i64 k)] [.own 101 (ks.map oRex)] (fun r o => ∃ (k' : Int) (l' : List Rex), r = .val (.int .i64 k') ∧ o = [.own 101 (l'.map oRex)] ∧ k ≤ k' ∧ k' ≤ k + costL ks)
  | .mk kk ss ks :: l, hs, 0, _ => fun k h0 hk => tcr_markRexS ks k h0 hk hs.1.2.1 hs.1.2.2
  | r :: l, hs, i + 1, h => by
    simp only [List.getElem_cons_succ]
    exact tcr_markRexK l hs.2 i (by simpa using h)
end
def costU : List Rule → Nat
  | [] => 0
  | r :: l => 1 + costR r.rex + costU l
theorem costU_drop {l : List Rule} {i : Nat} (h : i < l.length) : costU (l.drop i) = 1 + costR l[i].rex + costU (l.drop (i + 1)) := by
  conv => lhs; rw [List.drop_eq_getElem_cons h]
  rw [costU]
theorem costU_lt {l : List Rule} {i : Nat} (h : i < l.length) : costR l[i].rex ≤ costU l := by
  induction l generalizing i with
  | nil => simp at h
  | cons r l ih =>
    cases i with
    | zero => simp [costU]; omega
    | succ i => simp only [List.getElem_cons_succ, costU]; have := ih (i := i) (by simpa using h); omega
theorem tcr_markRuleS (l : List Rule) (k : Int) (h0 : 0 ≤ k) (hk : k + costU l ≤ 1152921504606846976) (hl : l.length ≤ 1048576) (hs : ∀ r ∈ l, Sm r.rex) : TCR Try.prog 47 [.hd 0, .val (.int .i64 k)] [.own 103 (l.map oRule)] (fun r o => ∃ (k' : Int) (l' : List Rule), r = .val (.int .i64 k') ∧ o = [.own 103 (l'.map oRule)] ∧ k ≤ k' ∧ k' ≤ k + costU l) := by
  refine TCR.enter Try.func47 rfl (by simp [Try.ntmps47]) rfl (tw_sound (ρ := []) ?_)
  rw [Try.ntmps47]
  simp
  refine TWcH.loopS [] (fun m s => ∃ (i : Nat) (l' : List Rule) (a : Int), i + m = l.length ∧ l'.length = l.length ∧ (∀ j, i ≤ j → l'[j]? = l[j]?) ∧ s.σ 0 = .hd 0 ∧ s.σ 1 = .val (.int .i64 a) ∧ s.σ 5 = .val (.int .i64 i) ∧ s.H 0 = some (.own 103 (l'.map oRule)) ∧ k ≤ a ∧ a + costU (l.drop i) ≤ k + costU l) l.length ⟨0, l, k, by simp⟩ ?_
  rintro m ⟨σ, H⟩ ⟨i, l', a, him, hl', hsame, g0, g1, g5, gH, ha0, ha1⟩
  simp only at g0 g1 g5 gH
  by_cases hi : i < l.length
  · have hw : IntKind.i64.wrap ((i : Int) + 1) = i + 1 := wrapi (by omega)
    have hi' : i < l'.length := by omega
    rw [costU_drop hi] at ha1
    have hli := hsame i (Nat.le_refl _)
    rw [getI hi] at hli
    have hc := costU_lt hi
    have hsm := hs _ (List.getElem_mem hi)
    generalize hx : l[i] = x at hli hc ha1 hsm
    obtain ⟨nm, kk, ss, ks⟩ := x
    refine TWc.unfold2 (E1 := 117) (rows1 := ss.map encS) (E2 := 101) (rows2 := ks.map oRex) (c1 := 2) (c2 := 3) (row := oRule ⟨nm, .mk kk ss ks⟩) (by omega) gH (by rw [List.getElem?_map, hli]; rfl) (by simp [oRule, oRex]) (by simp [oRule, oRex, oRexL_eq]) fun k1 k2 H' n1 n2 d1 d2 d12 eH e1 e2 e3 => ?_
    simp only at n1 n2 eH e1 e2 e3
    refine tw_sound (ρ := []) ?_
    simp only [costR] at ha1 hc
    have w1 : IntKind.i64.wrap (a + 1) = a + 1 := wrapi (by omega)
    have w2 : IntKind.i64.wrap (a + 1 + 1) = a + 1 + 1 := wrapi (by omega)
    have hd1 : ¬ k1 = 0 := fun e => d1 e.symm
    have hd2 : ¬ k2 = 0 := fun e => d2 e.symm
    have hd12 : ¬ k2 = k1 := fun e => d12 e.symm
    simp [g0, g1, g5, eH, hi, hi', hl', oRex, w1]
    refine TWoH.callR (tcr_markText a (by omega) (by omega)) callable_91 (by simp [g1]) ?_
    rintro r o ⟨rfl, w, rfl⟩
    refine ⟨rfl, by simp, .inr (by simp), fun q hq => ?_⟩
    simp [g0, g1, g5, eH, e1, e2, hi, hi', hl', oRule, oRex, w1, w2, d1, d2, d12, hd1, hd2, hd12]
    refine TWoH.lendR [k1] (tcr_markSpanS ss (a + 1 + 1) (by omega) (by omega)) callable_92 (by simp) (by simp [e1, d1, hd1]) (by simp) (by simp) ?_
    rintro r o ⟨rfl, s', rfl⟩
    refine ⟨by simp, by simp, .inl (by simp), fun q hq => ?_⟩
    simp [g0, g1, g5, eH, e1, e2, hi, hi', hl', oRule, oRex, w1, w2, d1, d2, d12, hd1, hd2, hd12]
    refine TWoH.lendR [k2] (tcr_markRexS ks (a + 1 + 1 + 2 * ss.length) (by omega) (by omega) hsm.2.1 hsm.2.2) callable_93 (by simp) (by simp [e2, d1, d2, d12, hd1, hd2, hd12]) (by simp) (by simp) ?_
    rintro r o ⟨a', l2, rfl, rfl, b1, b2⟩
    refine ⟨by simp, by simp, .inl (by simp), fun q' hq' => ?_⟩
    simp [g0, g1, g5, eH, e1, e2, hi, hi', hl', oRule, oRex, w1, w2, d1, d2, d12, hd1, hd2, hd12, hw]
    refine ⟨m - 1, by omega, _, Shift.fold2x 0 k1 k2 103 i 2 3 ((l'.map oRule).set i [.val (.string (bs w)), .val (.int .i64 (a + 1)), .hd k1, .hd k2]) [.val (.string (bs w)), .val (.int .i64 (a + 1)), .hd k1, .hd k2] (.own 117 (s'.map encS)) (.own 101 (l2.map oRex)) d1 d2 d12 (by omega) (by simp [hd1, hd2, d1, d2]) (by simp [hi']) (by simp) (by simp) (by simp [hd1, hd2, d1, d2, d12, hd12]) (by simp [hd1, hd2, d1, d2, d12, hd12]), i + 1, by omega, l'.set i ⟨w, .mk (a + 1) s' l2⟩, by simp [hl'], ?_, ?_⟩
    · intro j hj
      rw [List.getElem?_set_ne (by omega)]
      exact hsame j (by omega)
    · simp [g0, g5, hw, List.map_set, oRule, oRex, oRexL_eq]
      omega
  · obtain rfl : i = l.length := by omega
    refine tw_sound (ρ := []) ?_
    simp [g0, g1, g5, gH, hl']
    exact ⟨_, _, ⟨rfl, rfl⟩, by simp, by simp [gH], a, rfl, ⟨l', by simp [gH]⟩, by omega, by omega⟩
end Go.Proofs.Ytigmibfacllhmaa.R

open Go Go.Proofs.Ytigmibfacllhmaa.T
namespace Go.Proofs.Ytigmibfacllhmaa.R
set_option maxHeartbeats 4000000
set_option maxRecDepth 100000
set_option linter.unusedSimpArgs false
set_option linter.unusedVariables false
attribute [local simp] bsV bsRows chunk fillT partsT appV makeV rowsOf cellsOf placeOf
mutual
theorem szRex_cost : ∀ (r : Rex) (left : Int), Small r → 0 ≤ left → left ≤ 1048576 → ¬ szRexF r left < 0 → (costR r : Int) ≤ 1 + 2 * (left - szRexF r left) ∧ szRexF r left ≤ left
  | .mk k s l, left, hs, h0, h1, h => by
    have hok := (szRex_ok (.mk k s l) left hs h0 h1 h).2
    rw [szRexF_eq] at h ⊢
    obtain ⟨c1, h⟩ := ite_neg1 h
    obtain ⟨c2, h⟩ := ite_neg1 h
    rw [if_neg c1, if_neg c2]
    obtain ⟨a1, a2⟩ := szN_ok hs.1 h0 h1 c1
    have hw : IntKind.i64.wrap (szN s.length left - l.length) = szN s.length left - l.length := wrapi (by have := hs.2.1; omega)
    unfold szRexSF at c2 ⊢
    obtain ⟨c3, c4⟩ := ite_neg1 c2
    rw [if_neg c3]
    rw [hw] at c3 c4 ⊢
    obtain ⟨b1, b2⟩ := szLoop_cost l _ hs.2.2 (by omega) (by omega) c4
    simp only [costR, Int.natCast_add, Int.natCast_mul]
    constructor <;> omega
theorem szLoop_cost : ∀ (l : List Rex) (left : Int), SmallL l → 0 ≤ left → left ≤ 1048576 → ¬ szLoopF l left < 0 → (costL l : Int) ≤ l.length + 2 * (left - szLoopF l left) ∧ szLoopF l left ≤ left
  | [], left, hs, h0, h1, h => by simp [szLoopF, costL]
  | r :: l, left, hs, h0, h1, h => by
    rw [szLoopF] at h ⊢
    obtain ⟨c1, h⟩ := ite_neg1 h
    rw [if_neg c1]
    obtain ⟨a1, a2⟩ := szRex_cost r left hs.1 h0 h1 c1
    obtain ⟨b1, b2⟩ := szLoop_cost l _ hs.2 (by omega) (by omega) h
    simp only [costL, Int.natCast_add, List.length_cons]
    constructor <;> omega
end
theorem szRules_cost : ∀ (l : List Rule) (left : Int), (∀ r ∈ l, BRule r) → 0 ≤ left → left ≤ 1048576 → ¬ szRulesLoop l left < 0 → (costU l : Int) ≤ 2 * l.length + 2 * (left - szRulesLoop l left) ∧ szRulesLoop l left ≤ left
  | [], left, hs, h0, h1, h => by simp [szRulesLoop, costU]
  | r :: l, left, hs, h0, h1, h => by
    rw [szRulesLoop] at h ⊢
    obtain ⟨c1, h⟩ := ite_neg1 h
    rw [if_neg c1]
    have hb := hs r (by simp)
    unfold szRuleF at c1
    obtain ⟨c2, c3⟩ := ite_neg1 c1
    obtain ⟨c4, c5⟩ := ite_neg1 c3
    obtain ⟨a1, a2⟩ := szN_ok hb.1 h0 h1 c2
    obtain ⟨b1, b2⟩ := szRex_cost r.rex _ hb.2 (by omega) (by omega) c4
    have e : szRuleF r left = szRexF r.rex (szN r.name.length left) := by unfold szRuleF; rw [if_neg c2, if_neg c4]
    rw [e] at h ⊢
    obtain ⟨d1, d2⟩ := szRules_cost l _ (fun q hq => hs q (by simp [hq])) (by omega) (by omega) h
    simp only [costU, Int.natCast_add, List.length_cons]
    constructor <;> omega
theorem cost_of {l : List Rule} (hB : BRules l) (h : ¬ szRulesF l 1048576 < 0) : costU l ≤ 4194304 := by
  unfold szRulesF at h
  obtain ⟨c1, h⟩ := ite_neg1 h
  have hw : IntKind.i64.wrap ((1048576 : Int) - l.length) = (1048576 : Int) - l.length := wrapi (by have := hB.1; omega)
  rw [hw] at c1 h
  have := (szRules_cost l _ hB.2 (by omega) (by omega) h).1
  omega
theorem toksF_len {l : List Rule} {t : List UInt8} : ∀ (m p : Nat), p ≤ t.length → t.length - p ≤ m → (toksF l t p).1.length ≤ t.length - p
  | 0, p, hp, hm => by rw [toksF_end (by omega)]; simp
  | m + 1, p, hp, hm => by
    by_cases h : p < t.length ∧ 0 ≤ (bestF l t p).1 ∧ 0 < (bestF l t p).2
    · have hb := (bestF_ok (l := l) hp).2
      rw [toksF_next h.1 h.2.1 h.2.2]
      have := toksF_len (l := l) (t := t) m (p + (bestF l t p).2) hb (by omega)
      simp only [List.length_cons]; omega
    · rw [toksF_end h]; simp
theorem lexMeans_len (l : List Rule) (t : List UInt8) : (lexMeans l t).1.length ≤ 12 := by
  unfold lexMeans
  split
  · rename_i h
    have := toksF_len (l := l) (t := t) t.length 0 (by omega) (by omega)
    omega
  · simp
theorem fresh_ne {H : Nat → Option TV} {i k j : Nat} (hk : ∀ j, k ≤ j → H j = none) (hi : (H i).isSome = true) (hj : k ≤ j) : ¬ i = j := fun e => by rw [e, hk j hj] at hi; cases hi
/-- The law as a whole answers true. -/
theorem tc_law11 (l : List Rule) (t : List UInt8) (hB : BRules l) : TC Try.prog 11 [.ro (l.map encRule), .val (.string (bs t))] [] (.val (.bool true)) [] := by
  refine TC.enter Try.func11 rfl (by simp [Try.ntmps11]) rfl (tw_sound (ρ := []) ?_)
  rw [Try.ntmps11]
  simp
  refine gif_intro (fun c1 => ?_) (fun c1 => ?_) <;> simp [c1]
  refine TWoH.callV (tc_szRuleS l hB.1 (fun r hr => (hB.2 r hr).2) 1048576) callable_24 (by simp) (by simp) (by simp) (by simp) ?_
  simp
  refine gif_intro (fun c2 => ?_) (fun c2 => ?_) <;> simp [c2]
  have hs := RSm_of hB c2
  have hcost := cost_of hB c2
  have hlen := lexMeans_len l t
  have hto := tc_toRuleS l hs.1 fun r hr => (hs.2 r hr).1
  have hto' := tc_toRuleSO l hs.1 fun r hr => (hs.2 r hr).1
  refine TWoH.callV hto callable_26 (by simp) (by simp) (by simp) (by simp) ?_
  simp
  refine TWoH.call (tc_sLexMeans l t hs) callable_45 (by simp) (by simp) (by simp) fun w hw => ?_
  simp
  refine TWoH.call hto' callable_26 (by simp) (by simp) (by simp) fun x hx => ?_
  have nwx := fresh_ne (i := w) hx (by simp) (Nat.le_refl _)
  have nxw : ¬ x = w := fun e => nwx e.symm
  simp [nwx, nxw]
  refine TWoH.call (tc_iLexMeans l t hs) callable_46 (by simp) (by simp) (by simp) fun g hg => ?_
  have nwg := fresh_ne (i := w) hg (by simp [nwx, nxw]) (Nat.le_refl _)
  have nxg := fresh_ne (i := x) hg (by simp [nwx, nxw]) (Nat.le_refl _)
  have ngw : ¬ g = w := fun e => nwg e.symm
  have ngx : ¬ g = x := fun e => nxg e.symm
  simp [nwx, nxw, nwg, nxg, ngw, ngx]
  have heq := tc_eqTokenS (lexMeans l t).1 (by omega)
  refine TWoH.callV heq callable_37 (by simp [nwx, nxw, nwg, nxg, ngw, ngx]) (by simp) (by simp) (by simp) ?_
  simp [nwx, nxw, nwg, nxg, ngw, ngx]
  refine TWoH.callV hto callable_26 (by simp) (by simp) (by simp) (by simp) ?_
  simp [nwx, nxw, nwg, nxg, ngw, ngx]
  refine TWoH.callV (tc_eqRuleS l hs) callable_28 (by simp [nwx, nxw, nwg, nxg, ngw, ngx]) (by simp) (by simp) (by simp) ?_
  simp [nwx, nxw, nwg, nxg, ngw, ngx]
  refine TWoH.lendR [x] (tcr_markRuleS l 1 (by omega) (by omega) hs.1 (fun r hr => (hs.2 r hr).1)) callable_47 (by simp) (by simp [nwx, nxw, nwg, nxg, ngw, ngx]) (by simp) (by simp) ?_
  rintro r o ⟨k', l', rfl, rfl, b1, b2⟩
  refine ⟨by simp, by simp, .inl (by simp), fun q hq => ?_⟩
  have b3 : ¬ k' < 0 := by omega
  simp [nwx, nxw, nwg, nxg, ngw, ngx, b3]
  refine TWoH.callV heq callable_37 (by simp [nwx, nxw, nwg, nxg, ngw, ngx]) (by simp) (by simp) (by simp) ?_
  simp [nwx, nxw, nwg, nxg, ngw, ngx, b3]
  refine TWoH.lend [g] (tc_markTokenS (lexMeans l t).1 1 (by omega) (by omega)) callable_38 (by simp) (by simp [nwx, nxw, nwg, nxg, ngw, ngx]) (by simp) (by simp) (by simp) (by simp) (.inl (by simp)) fun q hq => ?_
  simp [nwx, nxw, nwg, nxg, ngw, ngx, b3]
  have hheld := tc_heldTokenS (lexMeans l t).1.length 1 (by omega) (by omega)
  refine TWoH.callV hheld callable_39 (by simp [nwx, nxw, nwg, nxg, ngw, ngx]) (by simp) (by simp) (by simp) ?_
  have b4 : ¬ (1 + 3 * ((lexMeans l t).1.length : Int) < 0) := by omega
  simp [nwx, nxw, nwg, nxg, ngw, ngx, b3, b4]
  refine TWoH.callV hto callable_26 (by simp) (by simp) (by simp) (by simp) ?_
  simp [nwx, nxw, nwg, nxg, ngw, ngx, b3, b4]
  refine TWoH.call (tc_iLexMeans l t hs) callable_46 (by simp) (by simp) (by simp) fun h hh => ?_
  have nwh := fresh_ne (i := w) hh (by simp [nwx, nxw, nwg, nxg, ngw, ngx]) (Nat.le_refl _)
  have ngh := fresh_ne (i := g) hh (by simp [nwx, nxw, nwg, nxg, ngw, ngx]) (Nat.le_refl _)
  have nhw : ¬ h = w := fun e => nwh e.symm
  have nhg : ¬ h = g := fun e => ngh e.symm
  simp [nwx, nxw, nwg, nxg, ngw, ngx, b3, b4, nwh, nhw, ngh, nhg]
  refine TWoH.callV heq callable_37 (by simp [nwx, nxw, nwg, nxg, ngw, ngx, nwh, nhw, ngh, nhg]) (by simp) (by simp) (by simp) ?_
  simp [nwx, nxw, nwg, nxg, ngw, ngx, b3, b4, nwh, nhw, ngh, nhg]
  refine TWoH.callV hheld callable_39 (by simp [nwx, nxw, nwg, nxg, ngw, ngx, nwh, nhw, ngh, nhg]) (by simp) (by simp) (by simp) ?_
  simp [nwx, nxw, nwg, nxg, ngw, ngx, b3, b4, nwh, nhw, ngh, nhg]
end Go.Proofs.Ytigmibfacllhmaa.R

namespace Go.Proofs.Ytigmibfacllhmaa.fnExactLexMeans
open Go.Proofs.Ytigmibfacllhmaa.R Go.ChangeShapes Go.WideShapes Go.ChangeAt Go.RowKit Go.Proofs.Ytigmibfacllhmaa.T
open Go.ChangeMaps (open_string shut_string)
set_option linter.unusedVariables false
set_option linter.unusedSimpArgs false
theorem own : ownKnob Try.prog.godebug = none := by kernel_rfl
theorem laidOut : laidOutB Try.prog = true := by kernel_rfl
set_option maxRecDepth 100000 in
theorem lifted (os : Os) (started : os.Started) (H : Type) (enc : TypeId × Value → H) :
    ReturnsInHanded {} Try.checked os 11 .any (Rows.fnExactLexMeansSpec.pre6 enc Try.prog Try.f11 Rows.fnExactLexMeansRow.domain false) (Rows.fnExactLexMeansSpec.post enc Try.prog Try.f11 false true false false) := by
  refine returnsInHanded_of_change_sized (C := Try.checked) own started (by kernel_rfl) Try.func11
    (ChangeSpec.witness6 (enc := enc) (C := Try.checked) false ⟨#[], #[.slice none 0 0, .string ByteArray.empty], []⟩ 8 (by kernel_rfl) (by kernel_rfl) (by kernel_rfl) (by kernel_rfl)) ?_
  intro W base args ds gs before hval0 hW hcnd hsz0 _
  have hsz : (DataW.weightsEach Try.prog (Try.f11.params.toList ++ Rows.fnExactLexMeansSpec.plain.varTypes Try.prog) (ds ++ gs)).all (· ≤ reachBytes) = true := hsz0
  have hval : ∀ (j : Nat) t v, Try.f11.params[j]? = some t → args[j]? = some v → Value.okWide Try.prog W .any base t v := hval0
  have hW' := hW
  obtain ⟨p, q, hA0, hV, rfl, hfz, hnd⟩ := hW
  have hA : DataW.TrodAll enc Try.prog W 0 (fun _ => true) true Try.f11.params.toList args.toList ds p := hA0
  rw [Try.params11] at hA hval hsz
  obtain ⟨v0, vs0, d0, ds0, p0, q0, hargs, rfl, rfl, h0, r0⟩ := trodAll_cons hA
  obtain ⟨v1, vs1, d1, ds1, p1, q1, rfl, rfl, rfl, h1, r1⟩ := trodAll_cons r0
  obtain ⟨rfl, rfl, rfl⟩ := trodAll_nil r1
  obtain rfl : args = #[v0, v1] := by cases args; simp_all
  obtain ⟨rfl, rfl⟩ := trodVars_none hV
  have z0 : ∀ q ∈ d0.weights Try.prog 41, q ≤ reachBytes := fun q hq => by simpa using List.all_eq_true.1 hsz q (DataW.weights_mem_each (j := 0) rfl rfl q hq)
  have k0 := h0
  have lt0 : ∀ x ∈ p0, x.block < W.heap.size := by obtain ⟨m, hm⟩ := k0; exact DataW.trod_lt m _ _ _ hm
  obtain ⟨x0, hx0, y0⟩ := RdT.arg (fun n => rdRules n) h0 z0
  obtain ⟨a0, len0, cap0, rfl⟩ := okWide_slice Try.underlying41 (hval 0 41 v0 rfl rfl)
  obtain ⟨a1, rfl, rfl, rfl, y1⟩ := open_string Try.underlying9 (hval 1 9 v1 rfl rfl) h1
  clear hA0 hval0 hsz0 hsz
  have ha : RepL Try.prog (eW W) [.ro (x0.map encRule), .val (.string (bs a1.data.toList))] [.slice a0 len0 cap0, .string a1] noF := by
    have hx : RepL Try.prog (eW W) [.ro (x0.map encRule)] [.slice a0 len0 cap0] noF := hx0
    have h2 : RepL Try.prog (eW W) [.val (.string (bs a1.data.toList))] [.string a1] noF := repL_one.2 (by rw [← bs_eq]; simp [Rep, emp_noF])
    have := RepL.append hx h2 (fun b m m' x _ => x.elim)
    have en' : Uni noF noF = noF := by funext b m; simp [Uni, noF]
    rw [en'] at this
    exact this
  refine ((tc_law11 x0 a1.data.toList y0).law ha).mono fun e W' ⟨he, bel⟩ => ?_
  subst he
  exact ⟨_, rfl, _, _, _, [], _, [], hW', trodAll_mk1 (shut_bool Try.underlying4 _), (trodAll_cons_mk (Below.trod laidOut (by kernel_rfl) (of_decide_eq_true (by kernel_rfl)) k0 bel lt0) (trodAll_cons_mk (shut_string Try.underlying9 y1) trodAll_mk0)), rfl, bel.frame _, fun h => by cases h⟩
theorem over : Rows.fnExactLexMeansRow.holds Try.pinned (OpenSpec.ofChange Rows.fnExactLexMeansSpec) :=
  OpenClaim.holds_of_wide 11 Try.f11 rfl rfl rfl rfl rfl rfl rfl ⟨rfl, rfl, rfl, rfl, rfl⟩ rfl rfl rfl rfl rfl (by kernel_rfl) Try.func11 (by kernel_rfl)
    (of_decide_eq_true (by kernel_rfl)) (by unfold Func.isWrapper; first | (rw [if_pos (by decide +kernel)]; kernel_rfl) | (rw [if_neg (by decide +kernel)]; exact ⟨rfl, rfl⟩))
    (fun os started H enc _ => lifted os started H enc)
theorem proved : Rows.FnExactLexMeansSaid := over
end Go.Proofs.Ytigmibfacllhmaa.fnExactLexMeans
namespace Go.Proofs.Ytigmibfacllhmaa
theorem fnExactLexMeans_holds : Rows.FnExactLexMeansSaid := fnExactLexMeans.proved
end Go.Proofs.Ytigmibfacllhmaa
