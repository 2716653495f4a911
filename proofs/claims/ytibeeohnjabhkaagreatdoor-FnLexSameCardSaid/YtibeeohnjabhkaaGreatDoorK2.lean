/- Part 2: what the walk of the code stands on. Conditions: none but those that each theorem states. -/
import Derived.Test.YtibeeohnjabhkaaGreatDoorK1
open Go Go.Proofs.YtibeeohnjabhkaaGreatDoor.T
namespace Go.Proofs.YtibeeohnjabhkaaGreatDoor.R
inductive Rex where
  | mk (kind : Int) (set : List (Int × Int)) (kids : List Rex)
  deriving Inhabited
def encS (s : Int × Int) : List TV := [.val (.int .i64 s.1), .val (.int .i64 s.2)]
mutual
def encRex : Rex → List TV
  | .mk k s l => [.val (.int .i64 k), .ro (s.map encS), .ro (encRexL l)]
def encRexL : List Rex → List (List TV)
  | [] => []
  | r :: l => encRex r :: encRexL l
end
@[simp] theorem len_S (r : Int × Int) : (encS r).length = 2 := by simp [encS]
@[simp] theorem take_S (r : Int × Int) : (encS r).take 2 = encS r := by simp [encS]
@[simp] theorem plain_S (r : Int × Int) : (encS r).all TV.plain = true := by simp [encS]
@[simp] theorem pc_S (r : Int × Int) : (encS r).all TV.pc = true := by simp [encS]
@[simp] theorem noH_S (r : Int × Int) : noHL (encS r) = true := by simp [encS]
@[simp] theorem argTL_S {H : Nat → Option TV} {ρ : List Nat} (r : Int × Int) : argTL H ρ (encS r) = some (encS r) := by simp [encS]
@[simp] theorem views_S {ρ : List Nat} (r : Int × Int) : (encS r).flatMap (views1 ρ) = [] := by simp [encS]
theorem opnL_of {k : Nat} : ∀ (l : List TV), noHL l = true → (∀ t ∈ l, (match t with | .own _ _ | .box _ _ | .agg _ | .tup _ | .mp _ _ => false | _ => true) = true) → opnL k l = (l, [])
  | [], _, _ => by simp
  | t :: l, hn, h => by
    have h1 := h t (by simp)
    have h2 := opnL_of (k := k) l (by simp at hn; exact hn.2) fun t ht => h t (by simp [ht])
    cases t <;> simp at h1 <;> simp [h2]
@[simp] theorem opnL_S {k : Nat} (r : Int × Int) : opnL k (encS r) = (encS r, []) := by simp [encS]
@[simp] theorem len_rex (r : Rex) : (encRex r).length = 3 := by cases r; simp [encRex]
@[simp] theorem take_rex (r : Rex) : (encRex r).take 3 = encRex r := by cases r; simp [encRex]
@[simp] theorem plain_rex (r : Rex) : (encRex r).all TV.plain = true := by cases r; simp [encRex]
@[simp] theorem pc_rex (r : Rex) : (encRex r).all TV.pc = true := by cases r; simp [encRex, TV.pc, TV.cell, Value.oneCell']
@[simp] theorem noHR_set (s : List (Int × Int)) : noHR (s.map encS) = true := by induction s <;> simp [encS, *]
mutual
theorem noH_rex : ∀ r : Rex, noHL (encRex r) = true
  | .mk k s l => by simp [encRex, noHR_rex l]
theorem noHR_rex : ∀ l : List Rex, noHR (encRexL l) = true
  | [] => by simp [encRexL]
  | r :: l => by simp [encRexL, noH_rex r, noHR_rex l]
end
attribute [simp] noH_rex noHR_rex
@[simp] theorem opnL_rex {k : Nat} (r : Rex) : opnL k (encRex r) = (encRex r, []) := by cases r; simp [encRex]
@[simp] theorem closeL_S {H : Nat → Option TV} (r : Int × Int) : closeL H (encS r) = some (encS r, H) := by simp [encS]
@[simp] theorem closeL_rex {H : Nat → Option TV} (r : Rex) : closeL H (encRex r) = some (encRex r, H) := by cases r; simp [encRex]
@[simp] theorem argTL_rex {H : Nat → Option TV} {ρ : List Nat} (r : Rex) : argTL H ρ (encRex r) = some (encRex r) := by
  obtain ⟨k, s, l⟩ := r
  have h1 := noHR_set s
  have h2 := noHR_rex l
  simp [encRex, h1, h2]
@[simp] theorem views_rex {ρ : List Nat} (r : Rex) : (encRex r).flatMap (views1 ρ) = [] := by cases r; simp [encRex]
theorem encRexL_eq : ∀ l : List Rex, encRexL l = l.map encRex
  | [] => rfl
  | r :: l => by simp [encRexL, encRexL_eq l]
end Go.Proofs.YtibeeohnjabhkaaGreatDoor.R

open Go Go.Proofs.YtibeeohnjabhkaaGreatDoor.T
namespace Go.Proofs.YtibeeohnjabhkaaGreatDoor.R
set_option maxHeartbeats 2000000
set_option linter.unusedSimpArgs false
set_option linter.unusedVariables false
set_option maxRecDepth 100000

theorem hw1 {i n : Nat} (h : i < n) (hn : n ≤ 1152921504606846976) : IntKind.i64.wrap ((i : Int) + 1) = (i : Int) + 1 := wrapi (by omega)
mutual
def Small : Rex → Prop
  | .mk _ s l => s.length ≤ 1152921504606846976 ∧ l.length ≤ 1152921504606846976 ∧ SmallL l
def SmallL : List Rex → Prop
  | [] => True
  | r :: l => Small r ∧ SmallL l
end
theorem SmallL.get : ∀ {l : List Rex} {i : Nat} (h : SmallL l) (hi : i < l.length), Small l[i]
  | r :: l, 0, h, _ => h.1
  | r :: l, i + 1, h, hi => by
    simp only [List.getElem_cons_succ]
    exact SmallL.get h.2 (by simpa using hi)
def szN (n : Nat) (left : Int) : Int := if IntKind.i64.wrap (left - n) < 0 then -1 else IntKind.i64.wrap (left - n)
mutual
def szRexF : Rex → Int → Int
  | .mk _ s l, left => if szN s.length left < 0 then -1 else if (if IntKind.i64.wrap (szN s.length left - l.length) < 0 then -1 else szLoopF l (IntKind.i64.wrap (szN s.length left - l.length))) < 0 then -1 else (if IntKind.i64.wrap (szN s.length left - l.length) < 0 then -1 else szLoopF l (IntKind.i64.wrap (szN s.length left - l.length)))
def szLoopF : List Rex → Int → Int
  | [], a => a
  | r :: l, a => if szRexF r a < 0 then -1 else szLoopF l (szRexF r a)
end
def szRexSF (l : List Rex) (left : Int) : Int := if IntKind.i64.wrap (left - l.length) < 0 then -1 else szLoopF l (IntKind.i64.wrap (left - l.length))
theorem szRexF_eq (k : Int) (s : List (Int × Int)) (l : List Rex) (left : Int) : szRexF (.mk k s l) left = if szN s.length left < 0 then -1 else if szRexSF l (szN s.length left) < 0 then -1 else szRexSF l (szN s.length left) := by
  simp only [szRexF, szRexSF]; rfl
theorem szLoopF_drop {l : List Rex} {i : Nat} (h : i < l.length) (a : Int) : szLoopF (l.drop i) a = if szRexF l[i] a < 0 then -1 else szLoopF (l.drop (i + 1)) (szRexF l[i] a) := by
  conv => lhs; rw [List.drop_eq_getElem_cons h]
  rw [szLoopF]
structure Rule where
  name : List UInt8
  rex : Rex
def encRule (r : Rule) : List TV := .val (.string (bs r.name)) :: encRex r.rex
@[simp] theorem len_rule (r : Rule) : (encRule r).length = 4 := by simp [encRule]
@[simp] theorem take_rule (r : Rule) : (encRule r).take 4 = encRule r := by simp [encRule]
@[simp] theorem plain_rule (r : Rule) : (encRule r).all TV.plain = true := by simp [encRule]
@[simp] theorem pc_rule (r : Rule) : (encRule r).all TV.pc = true := by simp only [encRule, List.all_cons, pc_rex]; simp
@[simp] theorem noH_rule (r : Rule) : noHL (encRule r) = true := by simp [encRule]
@[simp] theorem opnL_rule {k : Nat} (r : Rule) : opnL k (encRule r) = (encRule r, []) := by simp [encRule]
@[simp] theorem closeL_rule {H : Nat → Option TV} (r : Rule) : closeL H (encRule r) = some (encRule r, H) := by simp [encRule]
@[simp] theorem argTL_rule {H : Nat → Option TV} {ρ : List Nat} (r : Rule) : argTL H ρ (encRule r) = some (encRule r) := by simp [encRule]
@[simp] theorem views_rule {ρ : List Nat} (r : Rule) : (encRule r).flatMap (views1 ρ) = [] := by simp only [encRule, List.flatMap_cons, views_rex]; simp
@[simp] theorem noHR_rule (s : List Rule) : noHR (s.map encRule) = true := by induction s <;> simp [*]
@[simp] theorem noHR_rexs (s : List Rex) : noHR (s.map encRex) = true := by induction s <;> simp [*]
def szRuleF (r : Rule) (left : Int) : Int := if szN r.name.length left < 0 then -1 else if szRexF r.rex (szN r.name.length left) < 0 then -1 else szRexF r.rex (szN r.name.length left)
def szRulesLoop : List Rule → Int → Int
  | [], a => a
  | r :: l, a => if szRuleF r a < 0 then -1 else szRulesLoop l (szRuleF r a)
theorem szRulesLoop_drop {l : List Rule} {i : Nat} (h : i < l.length) (a : Int) : szRulesLoop (l.drop i) a = if szRuleF l[i] a < 0 then -1 else szRulesLoop (l.drop (i + 1)) (szRuleF l[i] a) := by
  conv => lhs; rw [List.drop_eq_getElem_cons h]
  rw [szRulesLoop]
def szRulesF (l : List Rule) (left : Int) : Int := if IntKind.i64.wrap (left - l.length) < 0 then -1 else szRulesLoop l (IntKind.i64.wrap (left - l.length))
end Go.Proofs.YtibeeohnjabhkaaGreatDoor.R

open Go Go.Proofs.YtibeeohnjabhkaaGreatDoor.T
namespace Go.Proofs.YtibeeohnjabhkaaGreatDoor.R
set_option maxHeartbeats 2000000
set_option linter.unusedSimpArgs false
set_option linter.unusedVariables false
set_option maxRecDepth 100000
/-- The rows as they are filled, one behind the other. -/
def fillR {α : Type _} (enc : α → List TV) (z : List TV) (l : List α) (i : Nat) : List (List TV) := (l.take i).map enc ++ List.replicate (l.length - i) z
section
variable {α : Type _} {enc : α → List TV} {z : List TV} {l : List α} {i : Nat}
@[simp] theorem fillR_zero : fillR enc z l 0 = List.replicate l.length z := by simp [fillR]
@[simp] theorem fillR_len (hi : i ≤ l.length) : (fillR enc z l i).length = l.length := by simp [fillR]; omega
theorem fillR_all (hi : l.length ≤ i) : fillR enc z l i = l.map enc := by
  unfold fillR; rw [List.take_of_length_le hi, show l.length - i = 0 by omega]; simp
theorem fillR_at (hi : i < l.length) : (fillR enc z l i)[i]? = some z := by
  unfold fillR
  rw [List.getElem?_append_right (by simp; omega)]
  simp [List.getElem?_replicate]; omega
theorem fillR_at' (hi : i < l.length) (h : i < (fillR enc z l i).length) : (fillR enc z l i)[i] = z := by
  have := fillR_at (enc := enc) (z := z) hi
  rw [List.getElem?_eq_getElem h] at this
  exact Option.some.inj this
theorem fillR_set (hi : i < l.length) : (fillR enc z l i).set i (enc l[i]) = fillR enc z l (i + 1) := by
  apply List.ext_getElem?
  intro j
  unfold fillR
  rw [List.getElem?_set]
  by_cases h : i = j
  · subst h
    rw [if_pos rfl, if_pos (by simp; omega), List.getElem?_append_left (by simp; omega)]
    simp [List.getElem?_take, hi]
  · rw [if_neg h]
    by_cases h' : j < i
    · rw [List.getElem?_append_left (by simp; omega), List.getElem?_append_left (by simp; omega)]
      simp [List.getElem?_take, h', show j < i + 1 by omega]
    · rw [List.getElem?_append_right (by simp; omega), List.getElem?_append_right (by simp; omega)]
      simp [List.getElem?_replicate]
      congr 1
      simp; omega
end
@[simp] theorem roL_S (s : Int × Int) : roL (encS s) = encS s := by simp [encS]
@[simp] theorem roRows_S (l : List (Int × Int)) : roRows (l.map encS) = l.map encS := by induction l <;> simp [*]
mutual
theorem roL_rex : ∀ r : Rex, roL (encRex r) = encRex r
  | .mk k s l => by simp [encRex, roRows_rex l]
theorem roRows_rex : ∀ l : List Rex, roRows (encRexL l) = encRexL l
  | [] => by simp [encRexL]
  | r :: l => by simp [encRexL, roL_rex r, roRows_rex l]
end
attribute [simp] roL_rex
@[simp] theorem roRows_rexs (l : List Rex) : roRows (l.map encRex) = l.map encRex := by rw [← encRexL_eq]; exact roRows_rex l
@[simp] theorem roL_rule (r : Rule) : roL (encRule r) = encRule r := by simp [encRule]
@[simp] theorem roRows_rules (l : List Rule) : roRows (l.map encRule) = l.map encRule := by induction l <;> simp [*]
mutual
def Sm : Rex → Prop
  | .mk _ s l => s.length ≤ 1048576 ∧ l.length ≤ 1048576 ∧ SmL l
def SmL : List Rex → Prop
  | [] => True
  | r :: l => Sm r ∧ SmL l
end
end Go.Proofs.YtibeeohnjabhkaaGreatDoor.R

open Go Go.Proofs.YtibeeohnjabhkaaGreatDoor.T
namespace Go.Proofs.YtibeeohnjabhkaaGreatDoor.R
set_option maxHeartbeats 2000000
set_option linter.unusedSimpArgs false
set_option linter.unusedVariables false
set_option maxRecDepth 100000
def wc (c : UInt8) : Bool := decide (97 ≤ c.toNat ∧ c.toNat ≤ 122)
def wordOk (l : List UInt8) : Bool := l.all wc && decide (0 < l.length ∧ l.length ≤ 6)
theorem all_drop {α : Type _} {p : α → Bool} {l : List α} {i : Nat} (h : i < l.length) : (l.drop i).all p = (p l[i] && (l.drop (i + 1)).all p) := by
  conv => lhs; rw [List.drop_eq_getElem_cons h]
  rw [List.all_cons]
theorem any_drop {α : Type _} {p : α → Bool} {l : List α} {i : Nat} (h : i < l.length) : (l.drop i).any p = (p l[i] || (l.drop (i + 1)).any p) := by
  conv => lhs; rw [List.drop_eq_getElem_cons h]
  rw [List.any_cons]
theorem drop_all {α : Type _} {l : List α} {i : Nat} (h : ¬ i < l.length) : l.drop i = [] := List.drop_eq_nil_of_le (by omega)
theorem tc_sRuleWord (w : List UInt8) (hw : w.length ≤ 1152921504606846976) : TC Tryz.prog 74 [.val (.string (bs w))] [] (.val (.bool (wordOk w))) [] := by
  refine TC.enter Tryz.func74 rfl (by simp [Tryz.ntmps74]) rfl (tw_sound (ρ := []) ?_)
  rw [Tryz.ntmps74]
  simp
  refine TWcH.loop [] (fun m s => ∃ i, i + m = w.length ∧ s.σ 0 = .val (.string (bs w)) ∧ s.σ 3 = .val (.int .i64 i) ∧ w.all wc = (w.drop i).all wc) w.length ⟨0, by simp⟩ ?_
  rintro m ⟨σ, H⟩ ⟨i, him, h0, h3, hh⟩
  simp only at h0 h3
  by_cases hi : i < w.length
  · rw [all_drop hi] at hh
    have hw := hw1 hi hw
    simp [h0, h3, getI hi, hi]
    refine gif_intro (fun c1 => ?_) (fun c1 => ?_) <;> simp [h0, h3, getI hi, hi, c1]
    · rw [wordOk, hh, show wc w[i] = false by simp [wc]; omega]; rfl
    · refine gif_intro (fun c2 => ?_) (fun c2 => ?_) <;> simp [h0, h3, getI hi, hi, c1, c2, hw]
      · rw [wordOk, hh, show wc w[i] = false by simp [wc]; omega]; rfl
      · refine ⟨m - 1, by omega, i + 1, by omega, by omega, ?_⟩
        rw [hh, show wc w[i] = true by simp [wc]; omega]; rfl
  · simp [h0, h3, hi]
    rw [drop_all hi] at hh
    refine gif_intro (fun c1 => ?_) (fun c1 => ?_) <;> simp [h0, h3, c1]
    · rw [wordOk, hh, Bool.eq_iff_iff]; simp; omega
    · rw [wordOk, hh, Bool.eq_iff_iff]; simp; omega
def kidsN (k : Int) : Int := if k = 1 ∨ k = 2 then 0 else if k = 5 ∨ k = 7 then 1 else if k = 3 ∨ k = 4 ∨ k = 6 then 2 else -1
theorem tc_sl2Kids (k : Int) : TC Tryz.prog 83 [.val (.int .i64 k)] [] (.val (.int .i64 (kidsN k))) [] := by
  refine TC.enter Tryz.func83 rfl (by simp [Tryz.ntmps83]) rfl (tw_sound (ρ := []) ?_)
  rw [Tryz.ntmps83]
  simp
  repeat' (refine gif_intro (fun c1 => ?_) (fun c1 => ?_) <;> simp [c1])
  all_goals simp [kidsN, *]
def okX (p : Option Int) (x : Int × Int) : Bool := decide (0 ≤ x.1 ∧ x.2 ≤ 255 ∧ x.1 ≤ x.2 ∧ ∀ q, p = some q → q + 1 < x.1)
def setOkP : Option Int → List (Int × Int) → Bool
  | _, [] => true
  | p, x :: l => okX p x && setOkP (some x.2) l
def prevOf (l : List (Int × Int)) (i : Nat) : Option Int := if 0 < i then (l[i - 1]?).map (·.2) else none
theorem setOkP_drop {l : List (Int × Int)} {i : Nat} (h : i < l.length) (p : Option Int) : setOkP p (l.drop i) = (okX p l[i] && setOkP (some l[i].2) (l.drop (i + 1))) := by
  conv => lhs; rw [List.drop_eq_getElem_cons h]
  rw [setOkP]
def setOk (l : List (Int × Int)) : Bool := setOkP none l
theorem prevOf_succ {l : List (Int × Int)} {i : Nat} (h : i < l.length) : prevOf l (i + 1) = some l[i].2 := by simp [prevOf, getI h]
theorem prevOf_pos {l : List (Int × Int)} {i : Nat} (h : i - 1 < l.length) (h0 : 0 < i) : prevOf l i = some l[i - 1].2 := by simp [prevOf, getI h, h0]
theorem tc_sSetOk (l : List (Int × Int)) (hl : l.length ≤ 1152921504606846976) : TC Tryz.prog 40 [.ro (l.map encS)] [] (.val (.bool (setOk l))) [] := by
  refine TC.enter Tryz.func40 rfl (by simp [Tryz.ntmps40]) rfl (tw_sound (ρ := []) ?_)
  rw [Tryz.ntmps40]
  simp
  refine TWcH.loop [] (fun m s => ∃ i, i + m = l.length ∧ s.σ 0 = .ro (l.map encS) ∧ s.σ 3 = .val (.int .i64 i) ∧ (∀ q, prevOf l i = some q → 0 ≤ q ∧ q ≤ 255) ∧ setOk l = setOkP (prevOf l i) (l.drop i)) l.length ⟨0, by simp [prevOf, setOk]⟩ ?_
  rintro m ⟨σ, H⟩ ⟨i, him, h0, h3, hp, hh⟩
  simp only at h0 h3
  by_cases hi : i < l.length
  · rw [setOkP_drop hi] at hh
    have hw := hw1 hi hl
    have bad : ¬ okX (prevOf l i) l[i] = true → setOk l = false := fun h => by rw [hh, Bool.eq_false_iff.2 h]; rfl
    have good : okX (prevOf l i) l[i] = true → ∃ m', m' < m ∧ ∃ i', i' + m' = l.length ∧ (i : Int) + 1 = (i' : Int) ∧ (∀ q, prevOf l i' = some q → 0 ≤ q ∧ q ≤ 255) ∧ setOk l = setOkP (prevOf l i') (l.drop i') := fun h => by
      refine ⟨m - 1, by omega, i + 1, by omega, by omega, ?_, by rw [hh, h, prevOf_succ hi]; rfl⟩
      rw [prevOf_succ hi]
      rintro q ⟨⟩
      simp only [okX, decide_eq_true_eq] at h
      omega
    simp only [okX, decide_eq_true_eq] at bad good
    simp [h0, h3, getI hi, hi]
    refine TWcH.regionD (ρ := []) [0, 1, 2, 3, 4, 5, 6, 7, 8, 9, 10, 11, 12, 13, 14, 15, 16, 17, 18, 19, 20, 21, 22, 23, 24, 25, 26, 27, 28, 29, 30, 31, 32, 33, 34, 35, 36, 37, 38, 39, 40, 41, 42, 43, 44, 45] 46 mixed (by kernel_rfl) ?_
    simp [h0, h3, getI hi, hi, encS]
    refine gif_intro (fun c1 => ?_) (fun c1 => ?_) <;> simp [h0, h3, getI hi, hi, encS, c1]
    · exact bad (by omega)
    refine gif_intro (fun c2 => ?_) (fun c2 => ?_) <;> simp [h0, h3, getI hi, hi, encS, c1, c2]
    · exact bad (by omega)
    refine gif_intro (fun c3 => ?_) (fun c3 => ?_) <;> simp [h0, h3, getI hi, hi, encS, c1, c2, c3]
    · exact bad (by omega)
    refine gif_intro (fun c4 => ?_) (fun c4 => ?_) <;> simp [h0, h3, getI hi, hi, encS, c1, c2, c3, c4, hw]
    · have hj : i - 1 < l.length := by omega
      have e : IntKind.i64.wrap ((i : Int) - 1) = ((i - 1 : Nat) : Int) := by rw [wrapi (by omega)]; omega
      have hq := hp _ (prevOf_pos hj c4)
      have e2 : IntKind.i64.wrap (l[i - 1].2 + 1) = l[i - 1].2 + 1 := wrapi (by omega)
      rw [prevOf_pos hj c4] at bad good
      simp [h0, h3, getI hi, getI hj, hi, hj, encS, c1, c2, c3, c4, e, e2]
      refine gif_intro (fun c5 => ?_) (fun c5 => ?_) <;> simp [h0, h3, getI hi, hi, encS, c1, c2, c3, c4, c5, hw]
      · exact bad (fun h => by have := h.2.2.2 _ rfl; omega)
      · exact good ⟨by omega, by omega, by omega, fun q hq => by cases hq; omega⟩
    · exact good ⟨by omega, by omega, by omega, fun q hq => by simp [prevOf, c4] at hq⟩
  · rw [drop_all hi] at hh
    simp [h0, h3, hi, hh, setOkP]
end Go.Proofs.YtibeeohnjabhkaaGreatDoor.R

open Go Go.Proofs.YtibeeohnjabhkaaGreatDoor.T
namespace Go.Proofs.YtibeeohnjabhkaaGreatDoor.R
set_option maxHeartbeats 2000000
set_option linter.unusedSimpArgs false
set_option linter.unusedVariables false
set_option maxRecDepth 100000
def headOk (k : Int) (s : List (Int × Int)) (l : List Rex) : Bool := decide (kidsN k = l.length) && (decide (k = 1) || decide (s.length = 0)) && setOk s
def formF : Nat → Rex → Bool
  | 0, _ => false
  | d + 1, .mk k s l => headOk k s l && l.all (formF d)
theorem SmL.get : ∀ {l : List Rex} {i : Nat} (h : SmL l) (hi : i < l.length), Sm l[i]
  | r :: l, 0, h, _ => h.1
  | r :: l, i + 1, h, hi => by
    simp only [List.getElem_cons_succ]
    exact SmL.get h.2 (by simpa using hi)
theorem tc_sl2Form : ∀ (d : Nat) (r : Rex), d ≤ 1000 → Sm r → TC Tryz.prog 85 [.agg (encRex r), .val (.int .i64 d)] [] (.val (.bool (formF d r))) []
  | 0, .mk k s l, hd, hs => by
    refine TC.enter Tryz.func85 rfl (by simp [Tryz.ntmps85]) rfl (tw_sound (ρ := [2]) ?_)
    rw [Tryz.ntmps85]
    simp [encRex]
    refine TWcH.regionD (ρ := [2]) [0, 1, 2, 3, 4, 6, 7, 8, 5, 9, 10, 11, 12, 13, 14, 15, 16, 17, 18, 19, 20, 21, 22, 23, 24, 25, 26, 27] 28 mixed (by kernel_rfl) ?_
    simp [formF]
  | d + 1, .mk k s l, hd, hs => by
    refine TC.enter Tryz.func85 rfl (by simp [Tryz.ntmps85]) rfl (tw_sound (ρ := [2]) ?_)
    rw [Tryz.ntmps85]
    simp [encRex, encRexL_eq]
    refine TWcH.regionD (ρ := [2]) [0, 1, 2, 3, 4, 6, 7, 8, 5, 9, 10, 11, 12, 13, 14, 15, 16, 17, 18, 19, 20, 21, 22, 23, 24, 25, 26, 27] 28 mixed (by kernel_rfl) ?_
    have c1 : ¬ ((d : Int) + 1 < 1) := by omega
    simp [c1]
    refine TWqH.callV (tc_sl2Kids k) callable_83 (by simp [*]) (by simp) (by simp) (by simp [*]) ?_
    simp [c1]
    have bad : headOk k s l = false → formF (d + 1) (.mk k s l) = false := fun h => by simp [formF, h]
    refine gif_intro (fun c2 => ?_) (fun c2 => ?_) <;> simp [c1, c2]
    case refine_2 => exact bad (by simp [headOk, c2])
    have fin : ∀ (Q : Prop), (k = 1 ∨ s.length = 0 → Q) → (¬ (k = 1 ∨ s.length = 0) → Q) → Q := fun Q h h' => (Classical.em _).elim h h'
    refine fin _ (fun c3 => ?_) (fun c3 => ?_)
    · have hX : headOk k s l = setOk s := by
        rw [headOk, show decide (kidsN k = l.length) = true by simp [c2], show (decide (k = 1) || decide (s.length = 0)) = true by rcases c3 with c3 | c3 <;> simp [c3]]
        rfl
      have good : setOk s = true → formF (d + 1) (.mk k s l) = l.all (formF d) := fun h => by rw [formF, hX, h]; rfl
      rcases (show (k = 1 ∨ (¬ k = 1 ∧ ¬ 0 < s.length)) by omega) with c4 | ⟨c4, c5⟩
      · subst c4
        simp [c1, c2]
        refine TWqH.callV (tc_sSetOk s (by have := hs.1; omega)) callable_40 (by simp) (by simp) (by simp) (by simp) ?_
        simp [c1, c2]
        refine gif_intro (fun c6 => ?_) (fun c6 => ?_) <;> simp [c1, c2, c6]
        · refine TWcH.loop [] (fun m s' => ∃ i, i + m = l.length ∧ s'.σ 1 = .val (.int .i64 ((d : Int) + 1)) ∧ s'.σ 2 = .rptr [.val (.int .i64 1), .ro (s.map encS), .ro (l.map encRex)] 0 ∧ s'.σ 5 = .val (.int .i64 i) ∧ l.all (formF d) = (l.drop i).all (formF d)) l.length ⟨0, by simp⟩ ?_
          rintro m ⟨σ, H⟩ ⟨i, him, h1, h2, h5, hh⟩
          simp only at h1 h2 h5
          by_cases hi : i < l.length
          · rw [all_drop hi] at hh
            have hw := hw1 hi (by have := hs.2.1; omega)
            have hd1 : IntKind.i64.wrap (d : Int) = d := wrapi (by omega)
            simp [h1, h2, h5, getI hi, hi]
            refine TWoH.callV (tc_sl2Form d l[i] (by omega) (SmL.get hs.2.2 hi)) callable_85 (by simp [hd1, h1, h2, h5]) (by simp) (by simp) (by simp) ?_
            simp [h1, h2, h5, getI hi, hi]
            refine gif_intro (fun c7 => ?_) (fun c7 => ?_) <;> simp [h1, h2, h5, getI hi, hi, c7, hw]
            · exact ⟨m - 1, by omega, i + 1, by omega, by omega, by rw [hh, c7]; rfl⟩
            · rw [good c6, hh, Bool.eq_false_iff.2 c7]; rfl
          · rw [drop_all hi] at hh
            simp [h1, h2, h5, hi, good c6, hh]
        · exact bad (by rw [hX]; simpa using c6)
      · simp [c1, c2, c4, c5]
        refine TWqH.callV (tc_sSetOk s (by have := hs.1; omega)) callable_40 (by simp) (by simp) (by simp) (by simp) ?_
        simp [c1, c2, c4, c5]
        refine gif_intro (fun c6 => ?_) (fun c6 => ?_) <;> simp [c1, c2, c4, c5, c6]
        · refine TWcH.loop [] (fun m s' => ∃ i, i + m = l.length ∧ s'.σ 1 = .val (.int .i64 ((d : Int) + 1)) ∧ s'.σ 2 = .rptr [.val (.int .i64 k), .ro (s.map encS), .ro (l.map encRex)] 0 ∧ s'.σ 5 = .val (.int .i64 i) ∧ l.all (formF d) = (l.drop i).all (formF d)) l.length ⟨0, by simp⟩ ?_
          rintro m ⟨σ, H⟩ ⟨i, him, h1, h2, h5, hh⟩
          simp only at h1 h2 h5
          by_cases hi : i < l.length
          · rw [all_drop hi] at hh
            have hw := hw1 hi (by have := hs.2.1; omega)
            have hd1 : IntKind.i64.wrap (d : Int) = d := wrapi (by omega)
            simp [h1, h2, h5, getI hi, hi]
            refine TWoH.callV (tc_sl2Form d l[i] (by omega) (SmL.get hs.2.2 hi)) callable_85 (by simp [hd1, h1, h2, h5]) (by simp) (by simp) (by simp) ?_
            simp [h1, h2, h5, getI hi, hi]
            refine gif_intro (fun c7 => ?_) (fun c7 => ?_) <;> simp [h1, h2, h5, getI hi, hi, c7, hw]
            · exact ⟨m - 1, by omega, i + 1, by omega, by omega, by rw [hh, c7]; rfl⟩
            · rw [good c6, hh, Bool.eq_false_iff.2 c7]; rfl
          · rw [drop_all hi] at hh
            simp [h1, h2, h5, hi, good c6, hh]
        · exact bad (by rw [hX]; simpa using c6)
    · rcases (show (¬ k = 1 ∧ 0 < s.length) by omega) with ⟨c4, c5⟩
      simp [c1, c2, c4, c5]
      exact bad (by simp only [headOk, c4, show ¬ s.length = 0 by omega]; simp)
end Go.Proofs.YtibeeohnjabhkaaGreatDoor.R

open Go Go.Proofs.YtibeeohnjabhkaaGreatDoor.T
namespace Go.Proofs.YtibeeohnjabhkaaGreatDoor.R
set_option maxHeartbeats 2000000
set_option linter.unusedSimpArgs false
set_option linter.unusedVariables false
set_option maxRecDepth 100000
mutual
def manyN : Rex → Nat
  | .mk _ _ l => 1 + manyL l
def manyL : List Rex → Nat
  | [] => 0
  | r :: l => manyN r + manyL l
end
theorem manyL_append : ∀ (a b : List Rex), manyL (a ++ b) = manyL a + manyL b
  | [], b => by simp [manyL]
  | r :: a, b => by simp [manyL, manyL_append a b]; omega
theorem manyL_take {l : List Rex} {i : Nat} (h : i < l.length) : manyL (l.take (i + 1)) = manyL (l.take i) + manyN l[i] := by
  rw [List.take_succ_eq_append_getElem h, manyL_append]; simp [manyL]
theorem kidsN_le (k : Int) : kidsN k ≤ 2 := by unfold kidsN; split; omega; split; omega; split <;> omega
theorem manyL_le {b : Nat} : ∀ (l : List Rex), (∀ r ∈ l, manyN r ≤ b) → manyL l ≤ l.length * b
  | [], _ => by simp [manyL]
  | r :: l, h => by
    have h1 := h r (by simp)
    have h2 := manyL_le l fun r hr => h r (by simp [hr])
    simp only [manyL, List.length_cons, Nat.add_mul]
    omega
theorem many_le : ∀ (d : Nat) (r : Rex), formF d r = true → manyN r ≤ 2 ^ d - 1
  | 0, r, h => by simp [formF] at h
  | d + 1, .mk k s l, h => by
    simp only [formF, headOk, Bool.and_eq_true, decide_eq_true_eq, List.all_eq_true] at h
    have hk := kidsN_le k
    have h1 := manyL_le (b := 2 ^ d - 1) l fun r hr => many_le d r (h.2 r hr)
    have h2 : l.length ≤ 2 := by omega
    have h3 : 1 ≤ 2 ^ d := Nat.one_le_two_pow
    have h4 : l.length * (2 ^ d - 1) ≤ 2 * (2 ^ d - 1) := Nat.mul_le_mul_right _ h2
    simp only [manyN, Nat.pow_succ]
    omega
theorem formF_kid {d : Nat} {k : Int} {s : List (Int × Int)} {l : List Rex} (h : formF (d + 1) (.mk k s l) = true) {i : Nat} (hi : i < l.length) : formF d l[i] = true := by
  simp only [formF, Bool.and_eq_true, List.all_eq_true] at h
  exact h.2 _ (List.getElem_mem hi)
theorem tc_sl2Many : ∀ (d : Nat) (r : Rex), d ≤ 8 → Sm r → formF d r = true → TC Tryz.prog 86 [.agg (encRex r), .val (.int .i64 d)] [] (.val (.int .i64 (manyN r))) []
  | 0, r, hd, hs, hf => by simp [formF] at hf
  | d + 1, .mk k s l, hd, hs, hf => by
    refine TC.enter Tryz.func86 rfl (by simp [Tryz.ntmps86]) rfl (tw_sound (ρ := [2]) ?_)
    rw [Tryz.ntmps86]
    simp [encRex, encRexL_eq]
    have hm := many_le _ _ hf
    have h2d : 2 ^ (d + 1) ≤ 2 ^ 8 := Nat.pow_le_pow_right (by omega) hd
    simp only [manyN] at hm
    refine TWcH.loop [] (fun m s' => ∃ i, i + m = l.length ∧ s'.σ 1 = .val (.int .i64 ((d : Int) + 1)) ∧ s'.σ 2 = .rptr [.val (.int .i64 k), .ro (s.map encS), .ro (l.map encRex)] 0 ∧ s'.σ 6 = .val (.int .i64 i) ∧ s'.σ 5 = .val (.int .i64 (1 + manyL (l.take i) : Nat))) l.length ⟨0, by simp [manyL]⟩ ?_
    rintro m ⟨σ, H⟩ ⟨i, him, h1, h2, h6, h5⟩
    simp only at h1 h2 h6 h5
    by_cases hi : i < l.length
    · have hw := hw1 hi (by have := hs.2.1; omega)
      have hd1 : IntKind.i64.wrap (d : Int) = d := wrapi (by omega)
      have e := manyL_take hi
      have e' : manyL (l.take (i + 1)) ≤ manyL l := by
        have := manyL_append (l.take (i + 1)) (l.drop (i + 1))
        rw [List.take_append_drop] at this
        omega
      have hw2 : IntKind.i64.wrap (1 + (manyL (l.take i) : Int) + manyN l[i]) = 1 + (manyL (l.take i) : Int) + manyN l[i] := wrapi (by omega)
      have hp : (0 : Int) < (d : Int) + 1 := by omega
      simp [h1, h2, h5, h6, getI hi, hi, hp]
      refine TWoH.callV (tc_sl2Many d l[i] (by omega) (SmL.get hs.2.2 hi) (formF_kid hf hi)) callable_86 (by simp [hd1, h1, h2, h5]) (by simp) (by simp) (by simp) ?_
      simp [h1, h2, h5, h6, getI hi, hi, hw, hw2]
      exact ⟨m - 1, by omega, i + 1, by omega, by omega, by rw [e]; simp; omega⟩
    · have e : l.take i = l := List.take_of_length_le (by omega)
      simp [h1, h2, h5, h6, hi, manyN, e]
def rexOk (r : Rex) : Bool := formF 8 r && decide (manyN r ≤ 24)
theorem tc_sRexOk (r : Rex) (hs : Sm r) : TC Tryz.prog 66 [.agg (encRex r)] [] (.val (.bool (rexOk r))) [] := by
  refine TC.enter Tryz.func66 rfl (by simp [Tryz.ntmps66]) rfl (tw_sound (ρ := [1]) ?_)
  rw [Tryz.ntmps66]
  simp
  refine TWoH.callV (tc_sl2Form 8 r (by omega) hs) callable_85 (by simp) (by simp) (by simp) (by simp) ?_
  simp
  refine gif_intro (fun c1 => ?_) (fun c1 => ?_) <;> simp [c1]
  · refine TWoH.callV (tc_sl2Many 8 r (by omega) hs c1) callable_86 (by simp) (by simp) (by simp) (by simp) ?_
    simp [c1, rexOk]
    omega
  · simp [rexOk, c1]
def hasS (l : List (Int × Int)) (b : Int) : Bool := l.any fun s => decide (s.1 ≤ b ∧ b ≤ s.2)
theorem tc_sSetHas (l : List (Int × Int)) (b : Int) (hl : l.length ≤ 1152921504606846976) : TC Tryz.prog 47 [.ro (l.map encS), .val (.int .i64 b)] [] (.val (.bool (hasS l b))) [] := by
  refine TC.enter Tryz.func47 rfl (by simp [Tryz.ntmps47]) rfl (tw_sound (ρ := []) ?_)
  rw [Tryz.ntmps47]
  simp
  refine TWcH.loop [] (fun m s => ∃ i, i + m = l.length ∧ s.σ 0 = .ro (l.map encS) ∧ s.σ 1 = .val (.int .i64 b) ∧ s.σ 5 = .val (.int .i64 i) ∧ hasS l b = hasS (l.drop i) b) l.length ⟨0, by simp⟩ ?_
  rintro m ⟨σ, H⟩ ⟨i, him, h0, h1, h5, hh⟩
  simp only at h0 h1 h5
  by_cases hi : i < l.length
  · rw [show hasS (l.drop i) b = _ from any_drop hi, show (l.drop (i + 1)).any (fun s => decide (s.1 ≤ b ∧ b ≤ s.2)) = hasS (l.drop (i + 1)) b from rfl] at hh
    have hw := hw1 hi hl
    simp [h0, h1, h5, encS, getI hi, hi]
    refine gif_intro (fun c1 => ?_) (fun c1 => ?_) <;> simp [h0, h1, h5, encS, getI hi, hi, c1, hw]
    · refine gif_intro (fun c2 => ?_) (fun c2 => ?_) <;> simp [h0, h1, h5, encS, getI hi, hi, c1, c2, hw]
      · simp [hh, c1, c2]
      · exact ⟨m - 1, by omega, i + 1, by omega, by omega, by simp [hh, c2]⟩
    · exact ⟨m - 1, by omega, i + 1, by omega, by omega, by simp [hh, c1]⟩
  · simp [h0, h1, h5, hi]
    rw [hh, drop_all hi]; rfl
end Go.Proofs.YtibeeohnjabhkaaGreatDoor.R

open Go Go.Proofs.YtibeeohnjabhkaaGreatDoor.T
namespace Go.Proofs.YtibeeohnjabhkaaGreatDoor.R
set_option maxHeartbeats 2000000
set_option linter.unusedSimpArgs false
set_option linter.unusedVariables false
set_option maxRecDepth 100000
def encB (b : Bool) : List TV := [.val (.bool b)]
@[simp] theorem len_B (b : Bool) : (encB b).length = 1 := rfl
@[simp] theorem take_B (b : Bool) : (encB b).take 1 = [.val (.bool b)] := rfl
@[simp] theorem drop_B (b : Bool) : (encB b).drop 1 = [] := rfl
section
variable {R : List Bool} {b : Bool} {x : List TV} {z : List (List TV)} {k i : Nat}
theorem sh_get (h : R.length = k) : (R.map encB ++ x :: z)[k]? = some x := by
  subst h
  rw [List.getElem?_append_right (by simp)]; simp
theorem sh_get' (h : R.length = k) (h' : k < (R.map encB ++ x :: z).length) : (R.map encB ++ x :: z)[k] = x := by
  have := sh_get (x := x) (z := z) h
  rw [List.getElem?_eq_getElem h'] at this
  exact Option.some.inj this
theorem sh_old (h : i < R.length) : (R.map encB ++ x :: z)[i]? = some (encB R[i]) := by
  rw [List.getElem?_append_left (by simpa using h)]; simp [h]
theorem sh_old' (h : i < R.length) (h' : i < (R.map encB ++ x :: z).length) : (R.map encB ++ x :: z)[i] = encB R[i] := by
  have := sh_old (x := x) (z := z) h
  rw [List.getElem?_eq_getElem h'] at this
  exact Option.some.inj this
theorem sh_set (h : R.length = k) (y : List TV) : (R.map encB ++ x :: z).set k y = R.map encB ++ y :: z := by
  subst h
  rw [List.set_append_right _ _ (by simp)]; simp
end
/-- Is the piece up to k, from a place before i that is reached, one of f? -/
def anyF (f : List UInt8 → Bool) (t : List UInt8) (R : List Bool) (k i : Nat) : Bool := (List.range i).any fun j => R.getD j false && f ((t.take k).drop j)
theorem anyF_succ {f : List UInt8 → Bool} {t : List UInt8} {R : List Bool} {k i : Nat} (h : i < R.length) : anyF f t R k (i + 1) = (anyF f t R k i || (R[i] && f ((t.take k).drop i))) := by
  simp [anyF, List.range_succ, h]
def reachL (f : List UInt8 → Bool) (t : List UInt8) : Nat → List Bool
  | 0 => [true]
  | k + 1 => reachL f t k ++ [anyF f t (reachL f t k) (k + 1) (k + 1)]
@[simp] theorem reachL_len (f : List UInt8 → Bool) (t : List UInt8) : ∀ k, (reachL f t k).length = k + 1
  | 0 => rfl
  | k + 1 => by simp [reachL, reachL_len f t k]
def starF (f : List UInt8 → Bool) (t : List UInt8) : Bool := (reachL f t t.length).getD t.length false
theorem anyF_more {f : List UInt8 → Bool} {t : List UInt8} {R : List Bool} {k i j : Nat} (h : anyF f t R k i = true) (hij : i ≤ j) : anyF f t R k j = true := by
  simp only [anyF, List.any_eq_true, List.mem_range] at h ⊢
  obtain ⟨x, hx, h⟩ := h
  exact ⟨x, by omega, h⟩
end Go.Proofs.YtibeeohnjabhkaaGreatDoor.R

open Go Go.Proofs.YtibeeohnjabhkaaGreatDoor.T
namespace Go.Proofs.YtibeeohnjabhkaaGreatDoor.R
set_option maxHeartbeats 2000000
set_option linter.unusedSimpArgs false
set_option linter.unusedVariables false
set_option maxRecDepth 100000
def catF (fa fb : List UInt8 → Bool) (t : List UInt8) (k : Nat) : Bool := (List.range' k (t.length + 1 - k)).any fun k => fa (t.take k) && fb (t.drop k)
theorem catF_next {fa fb : List UInt8 → Bool} {t : List UInt8} {k : Nat} (h : k ≤ t.length) : catF fa fb t k = ((fa (t.take k) && fb (t.drop k)) || catF fa fb t (k + 1)) := by
  unfold catF
  rw [show t.length + 1 - k = (t.length + 1 - (k + 1)) + 1 by omega, List.range'_succ, List.any_cons]
def isF : Nat → Rex → List UInt8 → Bool
  | 0, _, _ => false
  | d + 1, .mk k s l, t =>
    if k = 1 then decide (t.length = 1) && hasS s (t.headD 0).toNat else if k = 2 then decide (t = []) else match l with
      | [a] => if k = 5 then starF (isF d a) t else !isF d a t
      | [a, b] => if k = 3 then catF (isF d a) (isF d b) t 0 else if k = 4 then isF d a t || isF d b t else isF d a t && isF d b t
      | _ => false
theorem form_kids {d : Nat} {k : Int} {s : List (Int × Int)} {l : List Rex} (h : formF (d + 1) (.mk k s l) = true) :
    ((k = 1 ∨ k = 2) ∧ l = []) ∨ (∃ a, (k = 5 ∨ k = 7) ∧ l = [a] ∧ formF d a = true) ∨ (∃ a b, (k = 3 ∨ k = 4 ∨ k = 6) ∧ l = [a, b] ∧ formF d a = true ∧ formF d b = true) := by
  simp only [formF, headOk, Bool.and_eq_true, decide_eq_true_eq, List.all_eq_true] at h
  have h1 := h.1.1.1
  unfold kidsN at h1
  split at h1
  · rename_i hk
    exact .inl ⟨hk, List.length_eq_zero_iff.1 (by omega)⟩
  split at h1
  · rename_i hk
    obtain ⟨a, rfl⟩ := List.length_eq_one_iff.1 (show l.length = 1 by omega)
    exact .inr (.inl ⟨a, hk, rfl, h.2 a (by simp)⟩)
  split at h1
  · rename_i hk
    match l, h1, h.2 with
    | [a, b], _, h2 => exact .inr (.inr ⟨a, b, hk, rfl, h2 a (by simp), h2 b (by simp)⟩)
  · omega
end Go.Proofs.YtibeeohnjabhkaaGreatDoor.R

open Go Go.Proofs.YtibeeohnjabhkaaGreatDoor.T
namespace Go.Proofs.YtibeeohnjabhkaaGreatDoor.R
set_option maxHeartbeats 2000000
set_option linter.unusedSimpArgs false
set_option linter.unusedVariables false
set_option maxRecDepth 100000
def nm (l : List Rule) (j : Nat) : List UInt8 := match l[j]? with
  | some r => r.name
  | none => []
def newN (l : List Rule) (i k : Nat) : Bool := (List.range' k (i - k)).all fun j => decide (nm l j ≠ nm l i)
theorem newN_next {l : List Rule} {i k : Nat} (h : k < i) : newN l i k = (decide (nm l k ≠ nm l i) && newN l i (k + 1)) := by
  unfold newN
  rw [show i - k = (i - (k + 1)) + 1 by omega, List.range'_succ, List.all_cons]
theorem newN_end {l : List Rule} {i k : Nat} (h : ¬ k < i) : newN l i k = true := by
  unfold newN
  rw [show i - k = 0 by omega]; rfl
def ruleAt (l : List Rule) (i : Nat) : Bool := (match l[i]? with
  | some r => wordOk r.name && rexOk r.rex
  | none => false) && newN l i 0
def okFrom (l : List Rule) (i : Nat) : Bool := (List.range' i (l.length - i)).all (ruleAt l)
theorem okFrom_next {l : List Rule} {i : Nat} (h : i < l.length) : okFrom l i = (ruleAt l i && okFrom l (i + 1)) := by
  unfold okFrom
  rw [show l.length - i = (l.length - (i + 1)) + 1 by omega, List.range'_succ, List.all_cons]
theorem okFrom_end {l : List Rule} {i : Nat} (h : ¬ i < l.length) : okFrom l i = true := by
  unfold okFrom
  rw [show l.length - i = 0 by omega]; rfl
def rulesOk (l : List Rule) : Bool := decide (1 ≤ l.length ∧ l.length ≤ 5) && okFrom l 0
def RSm (l : List Rule) : Prop := l.length ≤ 1048576 ∧ ∀ r ∈ l, Sm r.rex ∧ r.name.length ≤ 1048576
theorem tc_sRulesOk (l : List Rule) (hs : RSm l) : TC Tryz.prog 61 [.ro (l.map encRule)] [] (.val (.bool (rulesOk l))) [] := by
  refine TC.enter Tryz.func61 rfl (by simp [Tryz.ntmps61]) rfl (tw_sound (ρ := []) ?_)
  rw [Tryz.ntmps61]
  simp
  refine gif_intro (fun c1 => ?_) (fun c1 => ?_) <;> simp [c1]
  · simp [rulesOk]; omega
  refine gif_intro (fun c2 => ?_) (fun c2 => ?_) <;> simp [c1, c2]
  · simp [rulesOk]; omega
  have hr : rulesOk l = okFrom l 0 := by rw [rulesOk, show decide (1 ≤ l.length ∧ l.length ≤ 5) = true by simp; omega]; rfl
  refine TWcH.loop [] (fun m s => ∃ i, i + m = l.length ∧ s.σ 0 = .ro (l.map encRule) ∧ s.σ 3 = .val (.int .i64 i) ∧ okFrom l 0 = okFrom l i) l.length ⟨0, by simp⟩ ?_
  rintro m ⟨σ, H⟩ ⟨i, him, h0, h3, hh⟩
  simp only at h0 h3
  by_cases hi : i < l.length
  · rw [okFrom_next hi] at hh
    have hw := hw1 hi (by have := hs.1; omega)
    have hsi := hs.2 _ (List.getElem_mem hi)
    have ha : ruleAt l i = (wordOk l[i].name && rexOk l[i].rex && newN l i 0) := by simp [ruleAt, getI hi]
    have hni : nm l i = l[i].name := by simp [nm, getI hi]
    simp [h0, h3, getI hi, hi, encRule]
    refine TWoH.callV (tc_sRuleWord l[i].name (by omega)) callable_74 (by simp [h0, h3, getI hi, hi]) (by simp) (by simp) (by simp) ?_
    simp [h0, h3, getI hi, hi, encRule]
    refine gif_intro (fun c3 => ?_) (fun c3 => ?_) <;> simp [h0, h3, getI hi, hi, encRule, c3]
    case refine_2 => rw [hr, hh, ha, Bool.eq_false_iff.2 c3]; rfl
    refine TWoH.callV (tc_sRexOk l[i].rex hsi.1) callable_66 (by simp [h0, h3, getI hi, hi]) (by simp) (by simp) (by simp) ?_
    simp [h0, h3, getI hi, hi, encRule]
    refine gif_intro (fun c4 => ?_) (fun c4 => ?_) <;> simp [h0, h3, getI hi, hi, encRule, c3, c4]
    case refine_2 => rw [hr, hh, ha, Bool.eq_false_iff.2 c4]; simp
    rw [c3, c4] at ha
    refine TWcH.loop [] (fun m' s => ∃ k, k + m' = i ∧ s.σ 0 = .ro (l.map encRule) ∧ s.σ 3 = .val (.int .i64 i) ∧ s.σ 4 = .val (.int .i64 k) ∧ newN l i 0 = newN l i k) i ⟨0, by simp [h0, h3]⟩ ?_
    rintro m' ⟨σ, H⟩ ⟨k, hkm, g0, g3, g4, gg⟩
    simp only at g0 g3 g4
    by_cases hk : k < i
    · have hkl : k < l.length := by omega
      have hwk := hw1 hkl (by have := hs.1; omega)
      have hnk : nm l k = l[k].name := by simp [nm, getI hkl]
      rw [newN_next hk, hnk, hni] at gg
      simp [g0, g3, g4, hk, encRule]
      refine TWcH.regionD (ρ := []) [0, 1, 2, 3, 4, 5, 6, 7, 8, 9, 10] 11 mixed (by kernel_rfl) ?_
      simp [g0, g3, g4, hk, getI hi, getI hkl, hkl, hi, encRule]
      refine gif_intro (fun c5 => ?_) (fun c5 => ?_) <;> simp [g0, g3, g4, hk, getI hi, hi, encRule, c5, hwk]
      · rw [hr, hh, ha, gg]; simp [c5]
      · exact ⟨m' - 1, by omega, k + 1, by omega, by omega, by rw [gg]; simp [c5]⟩
    · have hk' : ¬ ((k : Int) < i) := by omega
      simp [g0, g3, g4, hk, hw]
      exact ⟨m - 1, by omega, i + 1, by omega, by omega, by rw [hh, ha, gg, newN_end hk]; rfl⟩
  · simp [h0, h3, hi]
    rw [hr, hh, okFrom_end hi]
def firstF (l : List Rule) (t : List UInt8) (i : Nat) : Int := match (List.range' i (l.length - i)).find? (fun j => match l[j]? with
    | some r => isF 8 r.rex t
    | none => false) with
  | some j => j
  | none => -1
theorem firstF_next {l : List Rule} {t : List UInt8} {i : Nat} (h : i < l.length) : firstF l t i = if isF 8 l[i].rex t = true then (i : Int) else firstF l t (i + 1) := by
  unfold firstF
  rw [show l.length - i = (l.length - (i + 1)) + 1 by omega, List.range'_succ, List.find?_cons]
  simp only [getI h]
  cases isF 8 l[i].rex t <;> simp
theorem firstF_end {l : List Rule} {t : List UInt8} {i : Nat} (h : ¬ i < l.length) : firstF l t i = -1 := by
  unfold firstF
  rw [show l.length - i = 0 by omega]; rfl
def rulesFirst (l : List Rule) (t : List UInt8) : Int := if rulesOk l = true ∧ t.length ≤ 12 then firstF l t 0 else -1
theorem rulesOk_form {l : List Rule} (h : rulesOk l = true) {i : Nat} (hi : i < l.length) : formF 8 l[i].rex = true := by
  simp only [rulesOk, okFrom, Bool.and_eq_true, List.all_eq_true, List.mem_range'_1] at h
  have h1 := h.2 i (by omega)
  simp only [ruleAt, getI hi, Bool.and_eq_true, rexOk] at h1
  exact h1.1.2.1
end Go.Proofs.YtibeeohnjabhkaaGreatDoor.R

open Go Go.Proofs.YtibeeohnjabhkaaGreatDoor.T
namespace Go.Proofs.YtibeeohnjabhkaaGreatDoor.R
set_option maxHeartbeats 2000000
set_option maxRecDepth 100000
set_option linter.unusedSimpArgs false
set_option linter.unusedVariables false
theorem tc_in (n a b : Int) : TC Tryz.prog 26 [.val (.int .i64 n), .val (.int .i64 a), .val (.int .i64 b)] [] (.val (.bool (decide (a ≤ n ∧ n ≤ b)))) [] := by
  refine TC.enter Tryz.func26 rfl (by simp [Tryz.ntmps26]) rfl (tw_sound (ρ := []) ?_)
  rw [Tryz.ntmps26]
  simp
  refine gif_intro (fun c1 => ?_) (fun c1 => ?_) <;> simp [c1]
theorem tc_iSetHas (l : List (Int × Int)) (b : Int) (hl : l.length ≤ 1152921504606846976) : TC Tryz.prog 46 [.ro (l.map encS), .val (.int .i64 b)] [] (.val (.bool (hasS l b))) [] := by
  refine TC.enter Tryz.func46 rfl (by simp [Tryz.ntmps46]) rfl (tw_sound (ρ := []) ?_)
  rw [Tryz.ntmps46]
  simp
  refine TWcH.loop [] (fun m s => ∃ i, i + m = l.length ∧ s.σ 1 = .val (.int .i64 b) ∧ s.σ 7 = .ro (l.map encS) ∧ s.σ 8 = .val (.int .i64 l.length) ∧ s.σ 9 = .val (.int .i64 i) ∧ hasS l b = hasS (l.drop i) b) l.length ⟨0, by simp⟩ ?_
  rintro m ⟨σ, H⟩ ⟨i, him, h1, h7, h8, h9, hh⟩
  simp only at h1 h7 h8 h9
  by_cases hi : i < l.length
  · rw [show hasS (l.drop i) b = _ from any_drop hi, show (l.drop (i + 1)).any (fun s => decide (s.1 ≤ b ∧ b ≤ s.2)) = hasS (l.drop (i + 1)) b from rfl] at hh
    have hw := hw1 hi hl
    simp [h1, h7, h8, h9, encS, getI hi, hi]
    refine gall_intro fun a ha => ?_
    simp [h1, h7, h8, h9, encS, getI hi, hi]
    refine TWoH.callV (tc_in b l[i].1 l[i].2) callable_26 (by simp [h1]) (by simp) (by simp) (by simp) ?_
    simp [h1, h7, h8, h9, encS, getI hi, hi]
    refine gif_intro (fun c1 => ?_) (fun c1 => ?_) <;> simp [h1, h7, h8, h9, encS, getI hi, hi, c1, hw]
    · simp [hh, c1]
    · exact ⟨m - 1, by omega, i + 1, by omega, by omega, by rw [hh]; simp; omega⟩
  · simp [h1, h7, h8, h9, hi]
    rw [hh, drop_all hi]; rfl
end Go.Proofs.YtibeeohnjabhkaaGreatDoor.R

open Go Go.Proofs.YtibeeohnjabhkaaGreatDoor.T
namespace Go.Proofs.YtibeeohnjabhkaaGreatDoor.R
set_option maxHeartbeats 2000000
set_option maxRecDepth 100000
set_option linter.unusedSimpArgs false
set_option linter.unusedVariables false
theorem tc_iSetOk (l : List (Int × Int)) (hl : l.length ≤ 1152921504606846976) : TC Tryz.prog 33 [.ro (l.map encS)] [] (.val (.bool (setOk l))) [] := by
  refine TC.enter Tryz.func33 rfl (by simp [Tryz.ntmps33]) rfl (tw_sound (ρ := []) ?_)
  rw [Tryz.ntmps33]
  simp
  refine TWcH.loop [] (fun m s => ∃ i, i + m = l.length ∧ s.σ 0 = .ro (l.map encS) ∧ s.σ 5 = .ro (l.map encS) ∧ s.σ 6 = .val (.int .i64 l.length) ∧ s.σ 7 = .val (.int .i64 i) ∧ (∀ q, prevOf l i = some q → 0 ≤ q ∧ q ≤ 255) ∧ setOk l = setOkP (prevOf l i) (l.drop i)) l.length ⟨0, by simp [prevOf, setOk]⟩ ?_
  rintro m ⟨σ, H⟩ ⟨i, him, h0, h5, h6, h7, hp, hh⟩
  simp only at h0 h5 h6 h7
  by_cases hi : i < l.length
  · rw [setOkP_drop hi] at hh
    have hw := hw1 hi hl
    have bad : ¬ okX (prevOf l i) l[i] = true → setOk l = false := fun h => by rw [hh, Bool.eq_false_iff.2 h]; rfl
    have good : okX (prevOf l i) l[i] = true → ∃ m', m' < m ∧ ∃ i', i' + m' = l.length ∧ (i : Int) + 1 = (i' : Int) ∧ (∀ q, prevOf l i' = some q → 0 ≤ q ∧ q ≤ 255) ∧ setOk l = setOkP (prevOf l i') (l.drop i') := fun h => by
      refine ⟨m - 1, by omega, i + 1, by omega, by omega, ?_, by rw [hh, h, prevOf_succ hi]; rfl⟩
      rw [prevOf_succ hi]
      rintro q ⟨⟩
      simp only [okX, decide_eq_true_eq] at h
      omega
    simp only [okX, decide_eq_true_eq] at bad good
    simp [h0, h5, h6, h7, getI hi, hi]
    refine gall_intro fun a ha => ?_
    simp [h0, h5, h6, h7, getI hi, hi]
    refine TWcH.regionD (ρ := []) [0, 1, 2, 3, 4, 5, 6, 7, 8, 9, 10, 11, 12, 13, 14, 15, 16, 17, 18, 19, 20, 21, 22, 23, 24, 25, 26, 27, 28, 29, 30] 31 mixed (by kernel_rfl) ?_
    simp [h0, h5, h6, h7, getI hi, hi, encS]
    refine gif_intro (fun c1 => ?_) (fun c1 => ?_) <;> simp [h0, h5, h6, h7, getI hi, hi, encS, c1]
    · exact bad (by omega)
    refine gif_intro (fun c2 => ?_) (fun c2 => ?_) <;> simp [h0, h5, h6, h7, getI hi, hi, encS, c1, c2]
    · exact bad (by omega)
    refine gif_intro (fun c3 => ?_) (fun c3 => ?_) <;> simp [h0, h5, h6, h7, getI hi, hi, encS, c1, c2, c3]
    · exact bad (by omega)
    refine gif_intro (fun c4 => ?_) (fun c4 => ?_) <;> simp [h0, h5, h6, h7, getI hi, hi, encS, c1, c2, c3, c4, hw]
    · have hj : i - 1 < l.length := by omega
      have e : IntKind.i64.wrap ((i : Int) - 1) = ((i - 1 : Nat) : Int) := by rw [wrapi (by omega)]; omega
      have hq := hp _ (prevOf_pos hj c4)
      have e2 : IntKind.i64.wrap (l[i - 1].2 + 1) = l[i - 1].2 + 1 := wrapi (by omega)
      rw [prevOf_pos hj c4] at bad good
      simp [h0, h5, h6, h7, getI hi, getI hj, hi, hj, encS, c1, c2, c3, c4, e, e2]
      refine gif_intro (fun c5 => ?_) (fun c5 => ?_) <;> simp [h0, h5, h6, h7, getI hi, hi, encS, c1, c2, c3, c4, c5, hw]
      · exact bad (fun h => by have := h.2.2.2 _ rfl; omega)
      · exact good ⟨by omega, by omega, by omega, fun q hq => by cases hq; omega⟩
    · exact good ⟨by omega, by omega, by omega, fun q hq => by simp [prevOf, c4] at hq⟩
  · rw [drop_all hi] at hh
    simp [h0, h5, h6, h7, hi, hh, setOkP]
end Go.Proofs.YtibeeohnjabhkaaGreatDoor.R

open Go Go.Proofs.YtibeeohnjabhkaaGreatDoor.T
namespace Go.Proofs.YtibeeohnjabhkaaGreatDoor.R
def rv (f : List UInt8 → Bool) (t : List UInt8) (k : Nat) : Bool := (reachL f t k).getD k false
theorem reachL_at (f : List UInt8 → Bool) (t : List UInt8) : ∀ (n j : Nat), j ≤ n → (reachL f t n).getD j false = rv f t j
  | 0, j, h => by obtain rfl : j = 0 := by omega
                  rfl
  | n + 1, j, h => by
    by_cases hj : j = n + 1
    · subst hj; rfl
    · rw [reachL, List.getD_eq_getElem?_getD, List.getElem?_append_left (by rw [reachL_len]; omega), ← List.getD_eq_getElem?_getD]
      exact reachL_at f t n j (by omega)
theorem rv_succ (f : List UInt8 → Bool) (t : List UInt8) (k : Nat) : rv f t (k + 1) = (List.range (k + 1)).any fun j => rv f t j && f ((t.take (k + 1)).drop j) := by
  unfold rv
  rw [reachL, List.getD_eq_getElem?_getD, List.getElem?_append_right (by rw [reachL_len]; omega), reachL_len]
  simp only [Nat.sub_self, List.getElem?_cons_zero, Option.getD_some, anyF]
  rw [Bool.eq_iff_iff, List.any_eq_true, List.any_eq_true]
  constructor
  · rintro ⟨j, hj, h⟩
    have := List.mem_range.1 hj
    exact ⟨j, hj, by rw [reachL_at f t k j (by omega)] at h; exact h⟩
  · rintro ⟨j, hj, h⟩
    have := List.mem_range.1 hj
    exact ⟨j, hj, by rw [reachL_at f t k j (by omega)]; exact h⟩
def StP (f : List UInt8 → Bool) (p : List UInt8) : Prop := ∃ parts : List (List UInt8), (∀ a ∈ parts, a ≠ [] ∧ f a = true) ∧ parts.flatten = p
theorem rv_iff (f : List UInt8 → Bool) (t : List UInt8) : ∀ (k : Nat), k ≤ t.length → (rv f t k = true ↔ StP f (t.take k)) := by
  intro k
  induction k using Nat.strongRecOn with
  | _ k ih =>
    intro hk
    cases k with
    | zero => exact ⟨fun _ => ⟨[], by simp, by simp⟩, fun _ => rfl⟩
    | succ k =>
      rw [rv_succ, List.any_eq_true]
      constructor
      · rintro ⟨j, hj, h⟩
        have hj := List.mem_range.1 hj
        simp only [Bool.and_eq_true] at h
        obtain ⟨parts, h1, h2⟩ := (ih j hj (by omega)).1 h.1
        refine ⟨parts ++ [(t.take (k + 1)).drop j], fun a ha => ?_, ?_⟩
        · rcases List.mem_append.1 ha with ha | ha
          · exact h1 a ha
          · rw [List.mem_singleton] at ha
            subst ha
            refine ⟨fun e => ?_, h.2⟩
            have := congrArg List.length e
            simp at this
            omega
        · rw [List.flatten_append, h2, List.flatten_cons, List.flatten_nil, List.append_nil]
          have : t.take j = (t.take (k + 1)).take j := by rw [List.take_take]; congr 1; omega
          rw [this, List.take_append_drop]
      · rintro ⟨parts, h1, h2⟩
        rcases List.eq_nil_or_concat parts with rfl | ⟨init, a, rfl⟩
        · have := congrArg List.length h2
          simp at this
          omega
        · rw [List.concat_eq_append] at h1 h2
          have ha := h1 a (by simp)
          rw [List.flatten_append, List.flatten_cons, List.flatten_nil, List.append_nil] at h2
          have hl := congrArg List.length h2
          rw [List.length_append, List.length_take] at hl
          have hal : 0 < a.length := List.length_pos_iff.2 ha.1
          have hj : init.flatten.length < k + 1 := by omega
          refine ⟨init.flatten.length, List.mem_range.2 hj, ?_⟩
          rw [Bool.and_eq_true]
          constructor
          · refine (ih _ hj (by omega)).2 ⟨init, fun b hb => h1 b (by simp [hb]), ?_⟩
            have : t.take init.flatten.length = (t.take (k + 1)).take init.flatten.length := by rw [List.take_take]; congr 1; omega
            rw [this, ← h2, List.take_left']
            rfl
          · rw [← h2, List.drop_left' rfl]; exact ha.2
theorem starF_iff (f : List UInt8 → Bool) (t : List UInt8) : starF f t = true ↔ StP f t := by
  have := rv_iff f t t.length (Nat.le_refl _)
  rwa [List.take_length] at this
theorem starF_first (f : List UInt8 → Bool) (p : List UInt8) : starF f p = (decide (p.length = 0) || (List.range p.length).any fun x => f (p.take (x + 1)) && starF f (p.drop (x + 1))) := by
  rw [Bool.eq_iff_iff, starF_iff, Bool.or_eq_true, decide_eq_true_eq, List.any_eq_true]
  constructor
  · rintro ⟨parts, h1, h2⟩
    cases parts with
    | nil => left; rw [← h2]; rfl
    | cons a rest =>
      right
      have ha := h1 a (by simp)
      have hal : 0 < a.length := List.length_pos_iff.2 ha.1
      rw [List.flatten_cons] at h2
      have hl := congrArg List.length h2
      rw [List.length_append] at hl
      refine ⟨a.length - 1, List.mem_range.2 (by omega), ?_⟩
      rw [show a.length - 1 + 1 = a.length by omega, Bool.and_eq_true, ← h2, List.take_left' rfl, List.drop_left' rfl, starF_iff]
      exact ⟨ha.2, rest, fun b hb => h1 b (by simp [hb]), rfl⟩
  · rintro (h | ⟨x, hx, h⟩)
    · exact ⟨[], by simp, by rw [List.length_eq_zero_iff] at h; rw [h]; rfl⟩
    · have hx := List.mem_range.1 hx
      rw [Bool.and_eq_true, starF_iff] at h
      obtain ⟨h0, parts, h1, h2⟩ := h
      refine ⟨p.take (x + 1) :: parts, fun a ha => ?_, by rw [List.flatten_cons, h2, List.take_append_drop]⟩
      rcases List.mem_cons.1 ha with rfl | ha
      · refine ⟨fun e => ?_, h0⟩
        have := congrArg List.length e
        rw [List.length_take, List.length_nil] at this
        omega
      · exact h1 a ha
end Go.Proofs.YtibeeohnjabhkaaGreatDoor.R

open Go Go.Proofs.YtibeeohnjabhkaaGreatDoor.T
namespace Go.Proofs.YtibeeohnjabhkaaGreatDoor.R
set_option linter.unusedSimpArgs false
set_option linter.unusedVariables false
/-- A table of thirteen rows of thirteen answers. -/
def tabL (T : Nat → Nat → Bool) : List TV := (List.range 169).map fun x => .val (.bool (T (x / 13) (x % 13)))
@[simp] theorem len_tab (T : Nat → Nat → Bool) : (tabL T).length = 169 := by simp [tabL]
@[simp] theorem plain_tab (T : Nat → Nat → Bool) : (tabL T).all TV.plain = true := by simp [tabL]
@[simp] theorem pc_tab (T : Nat → Nat → Bool) : (tabL T).all TV.pc = true := by simp [tabL]
theorem noHL_vals : ∀ (l : List TV), (∀ t ∈ l, ∃ v, t = .val (.bool v)) → noHL l = true
  | [], _ => by simp
  | t :: l, h => by
    obtain ⟨v, rfl⟩ := h t (by simp)
    simp [noHL_vals l fun t ht => h t (by simp [ht])]
theorem vals_tab {T : Nat → Nat → Bool} : ∀ t ∈ tabL T, ∃ v, t = .val (.bool v) := by
  intro t ht; simp only [tabL, List.mem_map] at ht; obtain ⟨x, _, rfl⟩ := ht; exact ⟨_, rfl⟩
@[simp] theorem noH_tab (T : Nat → Nat → Bool) : noHL (tabL T) = true := noHL_vals _ vals_tab
theorem closeL_vals {H : Nat → Option TV} : ∀ (l : List TV), (∀ t ∈ l, ∃ v, t = .val (.bool v)) → closeL H l = some (l, H)
  | [], _ => by simp
  | t :: l, h => by
    obtain ⟨v, rfl⟩ := h t (by simp)
    simp [closeL_vals l fun t ht => h t (by simp [ht])]
@[simp] theorem closeL_tab {H : Nat → Option TV} (T : Nat → Nat → Bool) : closeL H (tabL T) = some (tabL T, H) := closeL_vals _ vals_tab
theorem opnL_vals {k : Nat} : ∀ (l : List TV), (∀ t ∈ l, ∃ v, t = .val (.bool v)) → opnL k l = (l, [])
  | [], _ => by simp
  | t :: l, h => by
    obtain ⟨v, rfl⟩ := h t (by simp)
    simp [opnL_vals l fun t ht => h t (by simp [ht])]
@[simp] theorem opnL_tab {k : Nat} (T : Nat → Nat → Bool) : opnL k (tabL T) = (tabL T, []) := opnL_vals _ vals_tab
@[simp] theorem take_tab (T : Nat → Nat → Bool) : (tabL T).take 169 = tabL T := List.take_of_length_le (by simp)
@[simp] theorem drop_tab (T : Nat → Nat → Bool) : (tabL T).drop 169 = [] := List.drop_eq_nil_of_le (by simp)
theorem get_tab {T : Nat → Nat → Bool} {i j : Nat} (hi : i < 13) (hj : j < 13) : (tabL T)[i * 13 + j]? = some (.val (.bool (T i j))) := by
  have h1 : (i * 13 + j) / 13 = i := by omega
  have h2 : (i * 13 + j) % 13 = j := by omega
  simp [tabL, List.getElem?_range (show i * 13 + j < 169 by omega), h1, h2]
theorem cut_tab {T : Nat → Nat → Bool} {i j : Nat} (hi : i < 13) (hj : j < 13) : ((tabL T).drop (i * 13 + j)).take 1 = [.val (.bool (T i j))] := by
  have h := get_tab (T := T) hi hj
  have hl : i * 13 + j < (tabL T).length := by simp; omega
  rw [List.drop_eq_getElem_cons hl]
  rw [List.getElem?_eq_getElem hl] at h
  rw [List.take_succ_cons, List.take_zero, Option.some.inj h]
def updT (T : Nat → Nat → Bool) (i j : Nat) (b : Bool) : Nat → Nat → Bool := fun x y => if x = i ∧ y = j then b else T x y
theorem set_tab {T : Nat → Nat → Bool} {i j : Nat} (hi : i < 13) (hj : j < 13) (b : Bool) : (tabL T).take (i * 13 + j) ++ .val (.bool b) :: (tabL T).drop (i * 13 + j + 1) = tabL (updT T i j b) := by
  apply List.ext_getElem?
  intro x
  by_cases hx : x < 169
  · have ex : (tabL (updT T i j b))[x]? = some (.val (.bool (updT T i j b (x / 13) (x % 13)))) := by
      simp [tabL, List.getElem?_range hx]
    have et : (tabL T)[x]? = some (.val (.bool (T (x / 13) (x % 13)))) := by
      simp [tabL, List.getElem?_range hx]
    rw [ex]
    rcases Nat.lt_trichotomy x (i * 13 + j) with h | h | h
    · rw [List.getElem?_append_left (by simp; omega), List.getElem?_take_of_lt h, et]
      have : ¬ (x / 13 = i ∧ x % 13 = j) := by omega
      simp [updT, this]
    · subst h
      rw [List.getElem?_append_right (by simp; omega)]
      have h1 : (i * 13 + j) / 13 = i := by omega
      have h2 : (i * 13 + j) % 13 = j := by omega
      have h3 : i * 13 + j - ((tabL T).take (i * 13 + j)).length = 0 := by simp; omega
      rw [h3]; simp [updT, h1, h2]
    · rw [List.getElem?_append_right (by simp; omega)]
      have h3 : x - ((tabL T).take (i * 13 + j)).length = (x - (i * 13 + j + 1)) + 1 := by simp; omega
      rw [h3, List.getElem?_cons_succ, List.getElem?_drop, show i * 13 + j + 1 + (x - (i * 13 + j + 1)) = x by omega, et]
      have : ¬ (x / 13 = i ∧ x % 13 = j) := by omega
      simp [updT, this]
  · rw [List.getElem?_eq_none (by simp; omega), List.getElem?_eq_none (by simp; omega)]
theorem zero_tab : List.replicate 169 (TV.val (.bool false)) = tabL fun _ _ => false := by
  apply List.ext_getElem?
  intro x
  by_cases hx : x < 169
  · rw [List.getElem?_replicate, if_pos hx]
    simp only [tabL, List.getElem?_map, List.getElem?_range hx]
    rfl
  · rw [List.getElem?_eq_none (by rw [List.length_replicate]; omega), List.getElem?_eq_none (by simp; omega)]
theorem zero_tab2 : List.replicate 338 (TV.val (.bool false)) = tabL (fun _ _ => false) ++ tabL fun _ _ => false := by
  rw [← zero_tab, List.replicate_append_replicate]
theorem tab_congr {T T' : Nat → Nat → Bool} (h : ∀ i j, i < 13 → j < 13 → T i j = T' i j) : tabL T = tabL T' := by
  unfold tabL
  apply List.map_congr_left
  intro x hx
  rw [h _ _ (by have := List.mem_range.1 hx; omega) (by omega)]
@[simp] theorem pc_tab2 (A B : Nat → Nat → Bool) : (tabL A ++ tabL B).all TV.pc = true := by rw [List.all_append, pc_tab, pc_tab]; rfl
@[simp] theorem plain_tab2 (A B : Nat → Nat → Bool) : (tabL A ++ tabL B).all TV.plain = true := by rw [List.all_append, plain_tab, plain_tab]; rfl
theorem two_fst (A B : Nat → Nat → Bool) : (tabL A ++ tabL B).take 169 = tabL A := by rw [List.take_append_of_le_length (by simp), take_tab]
theorem two_snd (A B : Nat → Nat → Bool) : ((tabL A ++ tabL B).drop 169).take 169 = tabL B := by
  rw [List.drop_append_of_le_length (by simp), List.drop_eq_nil_of_le (by simp), List.nil_append, take_tab]
theorem two_set0 (A B X : Nat → Nat → Bool) : tabL X ++ (tabL A ++ tabL B).drop 169 = tabL X ++ tabL B := by
  rw [List.drop_append_of_le_length (by simp), List.drop_eq_nil_of_le (by simp), List.nil_append]
theorem two_set1 (A B X : Nat → Nat → Bool) : (tabL A ++ tabL B).take 169 ++ (tabL X ++ (tabL A ++ tabL B).drop 338) = tabL A ++ tabL X := by
  rw [two_fst, List.drop_eq_nil_of_le (by simp), List.append_nil]
/-- Plain law: the first piece of any number of such. -/
def piece (t : List UInt8) (i j : Nat) : List UInt8 := (t.take j).drop i
def tabF (f : List UInt8 → Bool) (t : List UInt8) (i j : Nat) : Bool := decide (i ≤ j ∧ j ≤ t.length) && f (piece t i j)
end Go.Proofs.YtibeeohnjabhkaaGreatDoor.R

open Go Go.Proofs.YtibeeohnjabhkaaGreatDoor.T
namespace Go.Proofs.YtibeeohnjabhkaaGreatDoor.R
set_option maxHeartbeats 4000000
set_option maxRecDepth 100000
set_option linter.unusedSimpArgs false
set_option linter.unusedVariables false
theorem ne_some {H : Nat → Option TV} {i j : Nat} (h : (H i).isSome = true) (h' : H j = none) : ¬ i = j := fun e => by rw [e, h'] at h; cases h
def tabS (G : List UInt8 → Bool) (t : List UInt8) (q i0 : Nat) (x y : Nat) : Bool := decide (x ≤ y ∧ y ≤ t.length ∧ (y - x < q ∨ (y - x = q ∧ x < i0))) && G (piece t x y)
def noT : Nat → Nat → Bool := fun _ _ => false
theorem tabS_zero {G : List UInt8 → Bool} {t : List UInt8} : tabL (fun _ _ => false) = tabL (tabS G t 0 0) := tab_congr fun i j _ _ => by simp [tabS]
theorem tabS_next {G : List UInt8 → Bool} {t : List UInt8} {q i : Nat} (h : t.length < i + q) : tabL (tabS G t q i) = tabL (tabS G t (q + 1) 0) := tab_congr fun x y _ _ => by
  unfold tabS
  congr 1
  rw [decide_eq_decide]; omega
theorem tabS_all {G : List UInt8 → Bool} {t : List UInt8} {q : Nat} (h : t.length < q) : tabL (tabS G t q 0) = tabL (tabF G t) := tab_congr fun x y _ _ => by
  unfold tabS tabF
  congr 1
  rw [decide_eq_decide]; omega
theorem tabS_set {G : List UInt8 → Bool} {t : List UInt8} {q i : Nat} (h : i + q ≤ t.length) : updT (tabS G t q i) i (i + q) (G (piece t i (i + q))) = tabS G t q (i + 1) := by
  funext x y
  unfold updT
  by_cases e : x = i ∧ y = i + q
  · obtain ⟨rfl, rfl⟩ := e
    rw [if_pos ⟨rfl, rfl⟩, tabS, show decide _ = true from decide_eq_true (by omega)]; rfl
  · rw [if_neg e]
    unfold tabS
    congr 1
    rw [decide_eq_decide]; omega
theorem tabF_at {f : List UInt8 → Bool} {t : List UInt8} {i j : Nat} (h : i ≤ j) (h' : j ≤ t.length) : tabF f t i j = f (piece t i j) := by simp [tabF, h, h']
theorem tabS_at {G : List UInt8 → Bool} {t : List UInt8} {q i x y : Nat} (h : x ≤ y) (h' : y ≤ t.length) (h2 : y - x < q) : tabS G t q i x y = G (piece t x y) := by simp [tabS, h, h', h2]
def catP (fa fb : List UInt8 → Bool) (t : List UInt8) (i q o : Nat) : Bool := (List.range o).any fun x => fa (piece t i (i + x)) && fb (piece t (i + x) (i + q))
theorem catP_succ {fa fb : List UInt8 → Bool} {t : List UInt8} {i q o : Nat} : catP fa fb t i q (o + 1) = (catP fa fb t i q o || (fa (piece t i (i + o)) && fb (piece t (i + o) (i + q)))) := by
  simp [catP, List.range_succ]
theorem piece_take {t : List UInt8} {i q x : Nat} (h : x ≤ q) : (piece t i (i + q)).take x = piece t i (i + x) := by
  simp only [piece, List.drop_take, List.take_take]
  congr 1; omega
theorem piece_drop {t : List UInt8} {i q x : Nat} : (piece t i (i + q)).drop x = piece t (i + x) (i + q) := by
  simp only [piece, List.drop_drop]
theorem catP_all {fa fb : List UInt8 → Bool} {t : List UInt8} {i q : Nat} (h : i + q ≤ t.length) : catP fa fb t i q (q + 1) = catF fa fb (piece t i (i + q)) 0 := by
  have hl : (piece t i (i + q)).length = q := by simp [piece]; omega
  unfold catP catF
  rw [hl, Nat.sub_zero, ← List.range_eq_range']
  rw [Bool.eq_iff_iff, List.any_eq_true, List.any_eq_true]
  constructor
  · rintro ⟨x, hx, h1⟩
    have := List.mem_range.1 hx
    exact ⟨x, hx, by rw [piece_take (by omega), piece_drop]; exact h1⟩
  · rintro ⟨x, hx, h1⟩
    have := List.mem_range.1 hx
    exact ⟨x, hx, by rw [piece_take (by omega), piece_drop] at h1; exact h1⟩
def starP (f : List UInt8 → Bool) (t : List UInt8) (i q o : Nat) : Bool := decide (q = 0) || (List.range o).any fun x => f (piece t i (i + 1 + x)) && starF f (piece t (i + 1 + x) (i + q))
theorem starP_succ {f : List UInt8 → Bool} {t : List UInt8} {i q o : Nat} : starP f t i q (o + 1) = (starP f t i q o || (f (piece t i (i + 1 + o)) && starF f (piece t (i + 1 + o) (i + q)))) := by
  simp [starP, List.range_succ, Bool.or_assoc]
theorem starP_all {f : List UInt8 → Bool} {t : List UInt8} {i q : Nat} (h : i + q ≤ t.length) : starP f t i q q = starF f (piece t i (i + q)) := by
  have hl : (piece t i (i + q)).length = q := by simp [piece]; omega
  rw [starF_first, hl]
  unfold starP
  congr 1
  rw [Bool.eq_iff_iff, List.any_eq_true, List.any_eq_true]
  constructor
  · rintro ⟨x, hx, h1⟩
    have := List.mem_range.1 hx
    exact ⟨x, hx, by rw [piece_take (by omega), piece_drop, show i + (x + 1) = i + 1 + x by omega]; exact h1⟩
  · rintro ⟨x, hx, h1⟩
    have := List.mem_range.1 hx
    exact ⟨x, hx, by rw [piece_take (by omega), piece_drop, show i + (x + 1) = i + 1 + x by omega] at h1; exact h1⟩
end Go.Proofs.YtibeeohnjabhkaaGreatDoor.R

open Go Go.Proofs.YtibeeohnjabhkaaGreatDoor.T
namespace Go.Proofs.YtibeeohnjabhkaaGreatDoor.R
set_option maxHeartbeats 4000000
set_option maxRecDepth 100000
set_option linter.unusedSimpArgs false
set_option linter.unusedVariables false
theorem row0 {T : Nat → Nat → Bool} {j : Nat} (hj : j < 13) : ((tabL T).take 13)[j]? = some (.val (.bool (T 0 j))) := by
  rw [List.getElem?_take_of_lt hj]
  have := get_tab (T := T) (i := 0) (by omega) hj
  rwa [Nat.zero_mul, Nat.zero_add] at this
theorem row0' {T : Nat → Nat → Bool} {j : Nat} (hj : j < 13) : (tabL T)[j]? = some (.val (.bool (T 0 j))) := by
  have := get_tab (T := T) (i := 0) (by omega) hj
  rwa [Nat.zero_mul, Nat.zero_add] at this
def matchIs (r : Rex) (t : List UInt8) : Bool := rexOk r && decide (t.length ≤ 12) && isF 8 r t
end Go.Proofs.YtibeeohnjabhkaaGreatDoor.R

open Go Go.Proofs.YtibeeohnjabhkaaGreatDoor.T
namespace Go.Proofs.YtibeeohnjabhkaaGreatDoor.R
set_option maxHeartbeats 4000000
set_option maxRecDepth 100000
set_option linter.unusedSimpArgs false
set_option linter.unusedVariables false
/-- The longest piece from a place on, of at most k - 1 bytes. -/
def longF (G : List UInt8 → Bool) (t : List UInt8) (p : Nat) : Nat → Int
  | 0 => -1
  | k + 1 => if G (piece t p (p + k)) = true then (k : Int) else longF G t p k
def matchLong (r : Rex) (t : List UInt8) (p : Nat) : Int := longF (isF 8 r) t p (t.length - p + 1)
theorem longF_le {G : List UInt8 → Bool} {t : List UInt8} {p : Nat} : ∀ k : Nat, longF G t p k < k ∧ -1 ≤ longF G t p k
  | 0 => by simp [longF]
  | k + 1 => by
    unfold longF
    have := longF_le (G := G) (t := t) (p := p) k
    split <;> omega
theorem rexOk_form {r : Rex} (h : rexOk r = true) : formF 8 r = true := by simp only [rexOk, Bool.and_eq_true] at h; exact h.1
end Go.Proofs.YtibeeohnjabhkaaGreatDoor.R

open Go Go.Proofs.YtibeeohnjabhkaaGreatDoor.T
namespace Go.Proofs.YtibeeohnjabhkaaGreatDoor.R
set_option maxHeartbeats 4000000
set_option maxRecDepth 100000
set_option linter.unusedSimpArgs false
set_option linter.unusedVariables false
def bestGo (t : List UInt8) (p : Nat) : List Rule → Nat → Int → Nat → Int × Nat
  | [], _, b, m => (b, m)
  | r :: l, i, b, m => if (m : Int) < matchLong r.rex t p then bestGo t p l (i + 1) i (matchLong r.rex t p).toNat else bestGo t p l (i + 1) b m
def bestF (l : List Rule) (t : List UInt8) (p : Nat) : Int × Nat := bestGo t p l 0 (-1) 0
theorem bestGo_drop {t : List UInt8} {p : Nat} {l : List Rule} {i : Nat} (hi : i < l.length) (b : Int) (m : Nat) : bestGo t p (l.drop i) i b m = if (m : Int) < matchLong l[i].rex t p then bestGo t p (l.drop (i + 1)) (i + 1) i (matchLong l[i].rex t p).toNat else bestGo t p (l.drop (i + 1)) (i + 1) b m := by
  conv => lhs; rw [List.drop_eq_getElem_cons hi]
  rw [bestGo]
theorem matchLong_le {r : Rex} {t : List UInt8} {p : Nat} (hp : p ≤ t.length) : matchLong r t p ≤ ((t.length - p : Nat) : Int) := by
  have := (longF_le (G := isF 8 r) (t := t) (p := p) (t.length - p + 1)).1
  unfold matchLong; omega
theorem bestGo_ok {t : List UInt8} {p : Nat} (hp : p ≤ t.length) : ∀ (l : List Rule) (i : Nat) (b : Int) (m : Nat), (0 ≤ b → 0 < m) → p + m ≤ t.length → (0 ≤ (bestGo t p l i b m).1 → 0 < (bestGo t p l i b m).2) ∧ p + (bestGo t p l i b m).2 ≤ t.length
  | [], i, b, m, h, h' => ⟨h, h'⟩
  | r :: l, i, b, m, h, h' => by
    unfold bestGo
    have := matchLong_le (r := r.rex) hp
    split
    · exact bestGo_ok hp l _ _ _ (fun _ => by omega) (by omega)
    · exact bestGo_ok hp l _ _ _ h h'
theorem bestF_ok {l : List Rule} {t : List UInt8} {p : Nat} (hp : p ≤ t.length) : (0 ≤ (bestF l t p).1 → 0 < (bestF l t p).2) ∧ p + (bestF l t p).2 ≤ t.length := bestGo_ok hp l 0 (-1) 0 (by omega) (by omega)
theorem rulesOk_rex {l : List Rule} (h : rulesOk l = true) {i : Nat} (hi : i < l.length) : rexOk l[i].rex = true := by
  simp only [rulesOk, okFrom, Bool.and_eq_true, List.all_eq_true, List.mem_range'_1] at h
  have h1 := h.2 i (by omega)
  simp only [ruleAt, getI hi, Bool.and_eq_true] at h1
  exact h1.1.2
attribute [local simp] bsV bsRows chunk fillT partsT appV makeV rowsOf cellsOf placeOf
abbrev Tok := Int × Int × Int
def encTok (x : Tok) : List TV := [.val (.int .i64 x.1), .val (.int .i64 x.2.1), .val (.int .i64 x.2.2)]
@[simp] theorem len_tok (r : Tok) : (encTok r).length = 3 := by simp [encTok]
@[simp] theorem take_tok (r : Tok) : (encTok r).take 3 = encTok r := by simp [encTok]
@[simp] theorem plain_tok (r : Tok) : (encTok r).all TV.plain = true := by simp [encTok]
@[simp] theorem pc_tok (r : Tok) : (encTok r).all TV.pc = true := by simp [encTok]
@[simp] theorem noH_tok (r : Tok) : noHL (encTok r) = true := by simp [encTok]
@[simp] theorem argTL_tok {H : Nat → Option TV} {ρ : List Nat} (r : Tok) : argTL H ρ (encTok r) = some (encTok r) := by simp [encTok]
@[simp] theorem views_tok {ρ : List Nat} (r : Tok) : (encTok r).flatMap (views1 ρ) = [] := by simp [encTok]
@[simp] theorem opnL_tok {k : Nat} (r : Tok) : opnL k (encTok r) = (encTok r, []) := by simp [encTok]
@[simp] theorem closeL_tok {H : Nat → Option TV} (r : Tok) : closeL H (encTok r) = some (encTok r, H) := by simp [encTok]
@[simp] theorem noHR_tok (s : List Tok) : noHR (s.map encTok) = true := by induction s <;> simp [encTok, *]
@[simp] theorem roL_tok (s : Tok) : roL (encTok s) = encTok s := by simp [encTok]
@[simp] theorem roRows_tok (l : List Tok) : roRows (l.map encTok) = l.map encTok := by induction l <;> simp [*]
@[simp] theorem noRoR_tok (l : List Tok) : noRoR (l.map encTok) = true := by induction l <;> simp [encTok, *]
theorem rl_tok (l : List Tok) : ∀ r ∈ l.map encTok, r.length = szOf Tryz.prog 36 := by
  intro r hr
  obtain ⟨x, _, rfl⟩ := List.mem_map.1 hr
  simp
def toksF (l : List Rule) (t : List UInt8) (p : Nat) : List Tok × Nat :=
  if h : p < t.length ∧ 0 ≤ (bestF l t p).1 ∧ 0 < (bestF l t p).2 then
    (((bestF l t p).1, (p : Int), ((p + (bestF l t p).2 : Nat) : Int)) :: (toksF l t (p + (bestF l t p).2)).1, (toksF l t (p + (bestF l t p).2)).2)
  else ([], p)
termination_by t.length - p
theorem toksF_end {l : List Rule} {t : List UInt8} {p : Nat} (h : ¬ (p < t.length ∧ 0 ≤ (bestF l t p).1 ∧ 0 < (bestF l t p).2)) : toksF l t p = ([], p) := by
  rw [toksF, dif_neg h]
theorem toksF_next {l : List Rule} {t : List UInt8} {p : Nat} (h : p < t.length) (h1 : 0 ≤ (bestF l t p).1) (h2 : 0 < (bestF l t p).2) : toksF l t p =
    (((bestF l t p).1, (p : Int), ((p + (bestF l t p).2 : Nat) : Int)) :: (toksF l t (p + (bestF l t p).2)).1, (toksF l t (p + (bestF l t p).2)).2) := by
  rw [toksF, dif_pos ⟨h, h1, h2⟩]
def lexMeans (l : List Rule) (t : List UInt8) : List Tok × Nat := if rulesOk l = true ∧ t.length ≤ 12 then toksF l t 0 else ([], 0)
theorem tc_copiedTok (l : List Tok) (hl : l.length ≤ 1048576) : TC Tryz.prog 19 [.ro (l.map encTok)] [] (.own 36 (l.map encTok)) [] := by
  refine TC.enter Tryz.func19 rfl (by simp [Tryz.ntmps19]) rfl (TWc.postT (tw_sound (ρ := []) ?_))
  rw [Tryz.ntmps19]
  simp
  refine gif_intro (fun c1 => ?_) (fun c1 => ?_) <;> simp [c1]
  · refine Turn.nil 2 36 (by simp) fun id hid => ?_
    simp [List.eq_nil_of_length_eq_zero (show l.length = 0 by simpa using c1)]
  have k1 : (24 : Int) * l.length ≤ 281474976710656 := by omega
  have k2 : (l.length : Int) ≤ 9223372036854775807 := by omega
  simp [k1, k2]
  refine gall_intro fun id hid => ?_
  simp
  refine TWoH.copy id (List.replicate l.length [.val (.int .i64 0), .val (.int .i64 0), .val (.int .i64 0)]) (l.map encTok) Tryz.underlying30 (by simp) ?_ ?_ ?_ (rl_tok l) ?_ ?_
  all_goals simp
  exact Turn.same (by simp)
end Go.Proofs.YtibeeohnjabhkaaGreatDoor.R

open Go Go.Proofs.YtibeeohnjabhkaaGreatDoor.T
namespace Go.Proofs.YtibeeohnjabhkaaGreatDoor.R
set_option maxHeartbeats 4000000
set_option maxRecDepth 100000
set_option linter.unusedSimpArgs false
set_option linter.unusedVariables false
attribute [local simp] bsV bsRows chunk fillT partsT appV makeV rowsOf cellsOf placeOf
/-- One list as far as i, another from there on. -/
def mix {α : Type _} (A B : List α) (i : Nat) : List α := A.take i ++ B.drop i
section
variable {α : Type _} {A B : List α} {i : Nat}
@[simp] theorem mix_zero : mix A B 0 = B := by simp [mix]
@[simp] theorem mix_len (h : A.length = B.length) (hi : i ≤ B.length) : (mix A B i).length = B.length := by simp [mix]; omega
theorem mix_all (h : A.length = B.length) (hi : B.length ≤ i) : mix A B i = A := by
  unfold mix; rw [List.take_of_length_le (by omega), List.drop_eq_nil_of_le hi, List.append_nil]
theorem mix_at (h : A.length = B.length) (hi : i < B.length) : (mix A B i)[i]? = some B[i] := by
  unfold mix
  rw [List.getElem?_append_right (by simp; omega)]
  simp [List.getElem?_drop, Nat.min_eq_left (show i ≤ A.length by omega)]
theorem mix_at' (h : A.length = B.length) (hi : i < B.length) (hh : i < (mix A B i).length) : (mix A B i)[i] = B[i] := by
  have := mix_at h hi
  rw [List.getElem?_eq_getElem hh] at this
  exact Option.some.inj this
theorem mix_set (h : A.length = B.length) (hi : i < B.length) {x : α} (hx : A[i]? = some x) : (mix A B i).set i x = mix A B (i + 1) := by
  apply List.ext_getElem?
  intro j
  unfold mix
  rw [List.getElem?_set]
  by_cases e : i = j
  · subst e
    rw [if_pos rfl, if_pos (by simp; omega), List.getElem?_append_left (by simp; omega)]
    simp [List.getElem?_take, hx]
  · rw [if_neg e]
    by_cases h' : j < i
    · rw [List.getElem?_append_left (by simp; omega), List.getElem?_append_left (by simp; omega)]
      simp [List.getElem?_take, h', show j < i + 1 by omega]
    · rw [List.getElem?_append_right (by simp; omega), List.getElem?_append_right (by simp; omega)]
      simp [List.getElem?_drop]
      congr 1; omega
end
def mkTok (k : Int) (i : Nat) : Tok := (k + 3 * i, k + 3 * i + 1, k + 3 * i + 2)
def mkToks (k : Int) (n : Nat) : List Tok := (List.range n).map (mkTok k)
@[simp] theorem mkToks_len (k : Int) (n : Nat) : (mkToks k n).length = n := by simp [mkToks]
theorem mkToks_at {k : Int} {n i : Nat} (h : i < n) : (mkToks k n)[i]? = some (mkTok k i) := by simp [mkToks, h]
end Go.Proofs.YtibeeohnjabhkaaGreatDoor.R

open Go Go.Proofs.YtibeeohnjabhkaaGreatDoor.T
namespace Go.Proofs.YtibeeohnjabhkaaGreatDoor.R
set_option maxHeartbeats 4000000
set_option maxRecDepth 100000
set_option linter.unusedSimpArgs false
set_option linter.unusedVariables false
attribute [local simp] bsV bsRows chunk fillT partsT appV makeV rowsOf cellsOf placeOf
mutual
def oRex : Rex → List TV
  | .mk k s l => [.val (.int .i64 k), .own 66 (s.map encS), .own 106 (oRexL l)]
def oRexL : List Rex → List (List TV)
  | [] => []
  | r :: l => oRex r :: oRexL l
end
theorem oRexL_eq : ∀ l : List Rex, oRexL l = l.map oRex
  | [] => rfl
  | r :: l => by simp [oRexL, oRexL_eq l]
@[simp] theorem len_orex (r : Rex) : (oRex r).length = 3 := by cases r; simp [oRex]
@[simp] theorem noRoR_S (l : List (Int × Int)) : noRoR (l.map encS) = true := by induction l <;> simp [encS, *]
mutual
theorem noH_orex : ∀ r : Rex, noHL (oRex r) = true
  | .mk k s l => by simp [oRex, noHR_orex l]
theorem noHR_orex : ∀ l : List Rex, noHR (oRexL l) = true
  | [] => by simp [oRexL]
  | r :: l => by simp [oRexL, noH_orex r, noHR_orex l]
end
mutual
theorem noRo_orex : ∀ r : Rex, noRoL (oRex r) = true
  | .mk k s l => by simp [oRex, noRoR_orex l]
theorem noRoR_orex : ∀ l : List Rex, noRoR (oRexL l) = true
  | [] => by simp [oRexL]
  | r :: l => by simp [oRexL, noRo_orex r, noRoR_orex l]
end
mutual
theorem roL_orex : ∀ r : Rex, roL (oRex r) = encRex r
  | .mk k s l => by simp [oRex, encRex, roRows_orex l]
theorem roRows_orex : ∀ l : List Rex, roRows (oRexL l) = encRexL l
  | [] => by simp [oRexL, encRexL]
  | r :: l => by simp [oRexL, encRexL, roL_orex r, roRows_orex l]
end
attribute [simp] noH_orex noHR_orex noRo_orex noRoR_orex roL_orex roRows_orex
@[simp] theorem noHR_orexs (l : List Rex) : noHR (l.map oRex) = true := by rw [← oRexL_eq]; simp
@[simp] theorem noRoR_orexs (l : List Rex) : noRoR (l.map oRex) = true := by rw [← oRexL_eq]; simp
@[simp] theorem roRows_orexs (l : List Rex) : roRows (l.map oRex) = l.map encRex := by rw [← oRexL_eq, ← encRexL_eq]; simp
def oRule (r : Rule) : List TV := .val (.string (bs r.name)) :: oRex r.rex
@[simp] theorem len_orule (r : Rule) : (oRule r).length = 4 := by simp [oRule]
@[simp] theorem roL_orule (r : Rule) : roL (oRule r) = encRule r := by simp [oRule, encRule]
@[simp] theorem noH_orule (r : Rule) : noHL (oRule r) = true := by simp [oRule]
@[simp] theorem noRo_orule (r : Rule) : noRoL (oRule r) = true := by simp [oRule]
@[simp] theorem noHR_orules (l : List Rule) : noHR (l.map oRule) = true := by induction l <;> simp [*]
@[simp] theorem noRoR_orules (l : List Rule) : noRoR (l.map oRule) = true := by induction l <;> simp [*]
@[simp] theorem roRows_orules (l : List Rule) : roRows (l.map oRule) = l.map encRule := by induction l <;> simp [*]
end Go.Proofs.YtibeeohnjabhkaaGreatDoor.R

open Go Go.Proofs.YtibeeohnjabhkaaGreatDoor.T
namespace Go.Proofs.YtibeeohnjabhkaaGreatDoor.R
set_option maxHeartbeats 4000000
set_option maxRecDepth 100000
set_option linter.unusedSimpArgs false
set_option linter.unusedVariables false
attribute [local simp] bsV bsRows chunk fillT partsT appV makeV rowsOf cellsOf placeOf
@[simp] theorem noRo_S (r : Int × Int) : noRoL (encS r) = true := by simp [encS]
theorem fresh_ne {H : Nat → Option TV} {i k j : Nat} (hk : ∀ j, k ≤ j → H j = none) (hi : (H i).isSome = true) (hj : k ≤ j) : ¬ i = j := fun e => by rw [e, hk j hj] at hi; cases hi
def encI (x : Int) : List TV := [.val (.int .i64 x)]

def encP (s : List (Int × Int)) : List TV := [.ro (s.map encS)]
def encR (r : List Int) : List TV := [.ro (r.map encI)]
@[simp] theorem len_encI (r : Int) : (encI r).length = 1 := by simp [encI]
@[simp] theorem take_encI (r : Int) : (encI r).take 1 = encI r := by simp [encI]
@[simp] theorem plain_encI (r : Int) : (encI r).all TV.plain = true := by simp [encI]
@[simp] theorem pc_encI (r : Int) : (encI r).all TV.pc = true := by simp [encI, TV.pc, TV.cell, Value.oneCell']
@[simp] theorem noH_encI (r : Int) : noHL (encI r) = true := by simp [encI]
@[simp] theorem argTL_encI {H : Nat → Option TV} {ρ : List Nat} (r : Int) : argTL H ρ (encI r) = some (encI r) := by simp [encI]
@[simp] theorem views_encI {ρ : List Nat} (r : Int) : (encI r).flatMap (views1 ρ) = [] := by simp [encI]
@[simp] theorem opnL_encI {k : Nat} (r : Int) : opnL k (encI r) = (encI r, []) := by simp [encI]
@[simp] theorem closeL_encI {H : Nat → Option TV} (r : Int) : closeL H (encI r) = some (encI r, H) := by simp [encI]
@[simp] theorem roL_encI (r : Int) : roL (encI r) = encI r := by simp [encI]
@[simp] theorem noHR_encI (l : List Int) : noHR (l.map encI) = true := by induction l <;> simp [*]
@[simp] theorem roRows_encI (l : List Int) : roRows (l.map encI) = l.map encI := by induction l <;> simp [*]
@[simp] theorem noRo_encI (r : Int) : noRoL (encI r) = true := by simp [encI]
@[simp] theorem noRoR_encI (l : List Int) : noRoR (l.map encI) = true := by induction l <;> simp [*]
theorem rl_encI (l : List Int) : ∀ r ∈ l.map encI, r.length = 1 := by
  intro r hr
  obtain ⟨x, _, rfl⟩ := List.mem_map.1 hr
  simp
@[simp] theorem len_encB (r : Bool) : (encB r).length = 1 := by simp [encB]
@[simp] theorem take_encB (r : Bool) : (encB r).take 1 = encB r := by simp [encB]
@[simp] theorem plain_encB (r : Bool) : (encB r).all TV.plain = true := by simp [encB]
@[simp] theorem pc_encB (r : Bool) : (encB r).all TV.pc = true := by simp [encB, TV.pc, TV.cell, Value.oneCell']
@[simp] theorem noH_encB (r : Bool) : noHL (encB r) = true := by simp [encB]
@[simp] theorem argTL_encB {H : Nat → Option TV} {ρ : List Nat} (r : Bool) : argTL H ρ (encB r) = some (encB r) := by simp [encB]
@[simp] theorem views_encB {ρ : List Nat} (r : Bool) : (encB r).flatMap (views1 ρ) = [] := by simp [encB]
@[simp] theorem opnL_encB {k : Nat} (r : Bool) : opnL k (encB r) = (encB r, []) := by simp [encB]
@[simp] theorem closeL_encB {H : Nat → Option TV} (r : Bool) : closeL H (encB r) = some (encB r, H) := by simp [encB]
@[simp] theorem roL_encB (r : Bool) : roL (encB r) = encB r := by simp [encB]
@[simp] theorem noHR_encB (l : List Bool) : noHR (l.map encB) = true := by induction l <;> simp [*]
@[simp] theorem roRows_encB (l : List Bool) : roRows (l.map encB) = l.map encB := by induction l <;> simp [*]
@[simp] theorem noRo_encB (r : Bool) : noRoL (encB r) = true := by simp [encB]
@[simp] theorem noRoR_encB (l : List Bool) : noRoR (l.map encB) = true := by induction l <;> simp [*]
theorem rl_encB (l : List Bool) : ∀ r ∈ l.map encB, r.length = 1 := by
  intro r hr
  obtain ⟨x, _, rfl⟩ := List.mem_map.1 hr
  simp
@[simp] theorem len_encP (r : List (Int × Int)) : (encP r).length = 1 := by simp [encP]
@[simp] theorem take_encP (r : List (Int × Int)) : (encP r).take 1 = encP r := by simp [encP]
@[simp] theorem plain_encP (r : List (Int × Int)) : (encP r).all TV.plain = true := by simp [encP]
@[simp] theorem pc_encP (r : List (Int × Int)) : (encP r).all TV.pc = true := by simp [encP, TV.pc, TV.cell, Value.oneCell']
@[simp] theorem noH_encP (r : List (Int × Int)) : noHL (encP r) = true := by simp [encP]
@[simp] theorem argTL_encP {H : Nat → Option TV} {ρ : List Nat} (r : List (Int × Int)) : argTL H ρ (encP r) = some (encP r) := by simp [encP]
@[simp] theorem views_encP {ρ : List Nat} (r : List (Int × Int)) : (encP r).flatMap (views1 ρ) = [] := by simp [encP]
@[simp] theorem opnL_encP {k : Nat} (r : List (Int × Int)) : opnL k (encP r) = (encP r, []) := by simp [encP]
@[simp] theorem closeL_encP {H : Nat → Option TV} (r : List (Int × Int)) : closeL H (encP r) = some (encP r, H) := by simp [encP]
@[simp] theorem roL_encP (r : List (Int × Int)) : roL (encP r) = encP r := by simp [encP]
@[simp] theorem noHR_encP (l : List (List (Int × Int))) : noHR (l.map encP) = true := by induction l <;> simp [*]
@[simp] theorem roRows_encP (l : List (List (Int × Int))) : roRows (l.map encP) = l.map encP := by induction l <;> simp [*]
theorem rl_encP (l : List (List (Int × Int))) : ∀ r ∈ l.map encP, r.length = 1 := by
  intro r hr
  obtain ⟨x, _, rfl⟩ := List.mem_map.1 hr
  simp
@[simp] theorem len_encR (r : List Int) : (encR r).length = 1 := by simp [encR]
@[simp] theorem take_encR (r : List Int) : (encR r).take 1 = encR r := by simp [encR]
@[simp] theorem plain_encR (r : List Int) : (encR r).all TV.plain = true := by simp [encR]
@[simp] theorem pc_encR (r : List Int) : (encR r).all TV.pc = true := by simp [encR, TV.pc, TV.cell, Value.oneCell']
@[simp] theorem noH_encR (r : List Int) : noHL (encR r) = true := by simp [encR]
@[simp] theorem argTL_encR {H : Nat → Option TV} {ρ : List Nat} (r : List Int) : argTL H ρ (encR r) = some (encR r) := by simp [encR]
@[simp] theorem views_encR {ρ : List Nat} (r : List Int) : (encR r).flatMap (views1 ρ) = [] := by simp [encR]
@[simp] theorem opnL_encR {k : Nat} (r : List Int) : opnL k (encR r) = (encR r, []) := by simp [encR]
@[simp] theorem closeL_encR {H : Nat → Option TV} (r : List Int) : closeL H (encR r) = some (encR r, H) := by simp [encR]
@[simp] theorem roL_encR (r : List Int) : roL (encR r) = encR r := by simp [encR]
@[simp] theorem noHR_encR (l : List (List Int)) : noHR (l.map encR) = true := by induction l <;> simp [*]
@[simp] theorem roRows_encR (l : List (List Int)) : roRows (l.map encR) = l.map encR := by induction l <;> simp [*]
theorem rl_encR (l : List (List Int)) : ∀ r ∈ l.map encR, r.length = 1 := by
  intro r hr
  obtain ⟨x, _, rfl⟩ := List.mem_map.1 hr
  simp
def oP (s : List (Int × Int)) : List TV := [.own 66 (s.map encS)]
def oR (r : List Int) : List TV := [.own 3 (r.map encI)]
@[simp] theorem len_oP (r : List (Int × Int)) : (oP r).length = 1 := by simp [oP]
@[simp] theorem noH_oP (r : List (Int × Int)) : noHL (oP r) = true := by simp [oP]
@[simp] theorem noRo_oP (r : List (Int × Int)) : noRoL (oP r) = true := by simp [oP]
@[simp] theorem roL_oP (r : List (Int × Int)) : roL (oP r) = encP r := by simp [oP, encP]
@[simp] theorem noHR_oP (l : List (List (Int × Int))) : noHR (l.map oP) = true := by induction l <;> simp [*]
@[simp] theorem noRoR_oP (l : List (List (Int × Int))) : noRoR (l.map oP) = true := by induction l <;> simp [*]
@[simp] theorem roRows_oP (l : List (List (Int × Int))) : roRows (l.map oP) = l.map encP := by induction l <;> simp [*]
@[simp] theorem len_oR (r : List Int) : (oR r).length = 1 := by simp [oR]
@[simp] theorem noH_oR (r : List Int) : noHL (oR r) = true := by simp [oR]
@[simp] theorem noRo_oR (r : List Int) : noRoL (oR r) = true := by simp [oR]
@[simp] theorem roL_oR (r : List Int) : roL (oR r) = encR r := by simp [oR, encR]
@[simp] theorem noHR_oR (l : List (List Int)) : noHR (l.map oR) = true := by induction l <;> simp [*]
@[simp] theorem noRoR_oR (l : List (List Int)) : noRoR (l.map oR) = true := by induction l <;> simp [*]
@[simp] theorem roRows_oR (l : List (List Int)) : roRows (l.map oR) = l.map encR := by induction l <;> simp [*]
structure Dfa where
  parts : List (List (Int × Int))
  rows : List (List Int)
  acc : List Int
def encDfa (d : Dfa) : List TV := [.ro (d.parts.map encP), .ro (d.rows.map encR), .ro (d.acc.map encI)]
def oDfa (d : Dfa) : List TV := [.own 63 (d.parts.map oP), .own 25 (d.rows.map oR), .own 3 (d.acc.map encI)]
@[simp] theorem len_encDfa (r : Dfa) : (encDfa r).length = 3 := by simp [encDfa]
@[simp] theorem take_encDfa (r : Dfa) : (encDfa r).take 3 = encDfa r := by simp [encDfa]
@[simp] theorem plain_encDfa (r : Dfa) : (encDfa r).all TV.plain = true := by simp [encDfa]
@[simp] theorem pc_encDfa (r : Dfa) : (encDfa r).all TV.pc = true := by simp [encDfa, TV.pc, TV.cell, Value.oneCell']
@[simp] theorem noH_encDfa (r : Dfa) : noHL (encDfa r) = true := by simp [encDfa]
@[simp] theorem argTL_encDfa {H : Nat → Option TV} {ρ : List Nat} (r : Dfa) : argTL H ρ (encDfa r) = some (encDfa r) := by simp [encDfa]
@[simp] theorem views_encDfa {ρ : List Nat} (r : Dfa) : (encDfa r).flatMap (views1 ρ) = [] := by simp [encDfa]
@[simp] theorem opnL_encDfa {k : Nat} (r : Dfa) : opnL k (encDfa r) = (encDfa r, []) := by simp [encDfa]
@[simp] theorem closeL_encDfa {H : Nat → Option TV} (r : Dfa) : closeL H (encDfa r) = some (encDfa r, H) := by simp [encDfa]
@[simp] theorem roL_encDfa (r : Dfa) : roL (encDfa r) = encDfa r := by simp [encDfa]
@[simp] theorem noHR_encDfa (l : List Dfa) : noHR (l.map encDfa) = true := by induction l <;> simp [*]
@[simp] theorem roRows_encDfa (l : List Dfa) : roRows (l.map encDfa) = l.map encDfa := by induction l <;> simp [*]
theorem rl_encDfa (l : List Dfa) : ∀ r ∈ l.map encDfa, r.length = 3 := by
  intro r hr
  obtain ⟨x, _, rfl⟩ := List.mem_map.1 hr
  simp
@[simp] theorem len_oDfa (r : Dfa) : (oDfa r).length = 3 := by simp [oDfa]
@[simp] theorem noH_oDfa (r : Dfa) : noHL (oDfa r) = true := by simp [oDfa]
@[simp] theorem noRo_oDfa (r : Dfa) : noRoL (oDfa r) = true := by simp [oDfa]
@[simp] theorem roL_oDfa (r : Dfa) : roL (oDfa r) = encDfa r := by simp [oDfa, encDfa]
@[simp] theorem noHR_oDfa (l : List Dfa) : noHR (l.map oDfa) = true := by induction l <;> simp [*]
@[simp] theorem noRoR_oDfa (l : List Dfa) : noRoR (l.map oDfa) = true := by induction l <;> simp [*]
@[simp] theorem roRows_oDfa (l : List Dfa) : roRows (l.map oDfa) = l.map encDfa := by induction l <;> simp [*]
/-- The sizes one behind the other. -/
def szLoopN : List Nat → Int → Int
  | [], a => a
  | n :: ns, a => if szN n a < 0 then -1 else szLoopN ns (szN n a)
def szSSF (ns : List Nat) (left : Int) : Int := if IntKind.i64.wrap (left - ns.length) < 0 then -1 else szLoopN ns (IntKind.i64.wrap (left - ns.length))
theorem szLoopN_drop {ns : List Nat} {i : Nat} (h : i < ns.length) (a : Int) : szLoopN (ns.drop i) a = if szN ns[i] a < 0 then -1 else szLoopN (ns.drop (i + 1)) (szN ns[i] a) := by
  conv => lhs; rw [List.drop_eq_getElem_cons h]
  rw [szLoopN]
def szDfaF (d : Dfa) (left : Int) : Int :=
  let a := szSSF (d.parts.map List.length) left
  if a < 0 then -1 else
  let b := szSSF (d.rows.map List.length) a
  if b < 0 then -1 else
  let c := szN d.acc.length b
  if c < 0 then -1 else c
/-- A machine is small. -/
structure DSm (d : Dfa) : Prop where
  parts : d.parts.length ≤ 1048576
  rows : d.rows.length ≤ 1048576
  acc : d.acc.length ≤ 1048576
  part : ∀ x ∈ d.parts, x.length ≤ 1048576
  row : ∀ x ∈ d.rows, x.length ≤ 1048576
end Go.Proofs.YtibeeohnjabhkaaGreatDoor.R

open Go Go.Proofs.YtibeeohnjabhkaaGreatDoor.T
namespace Go.Proofs.YtibeeohnjabhkaaGreatDoor.R
set_option maxHeartbeats 4000000
set_option maxRecDepth 100000
set_option linter.unusedSimpArgs false
set_option linter.unusedVariables false
attribute [local simp] bsV bsRows chunk fillT partsT appV makeV rowsOf cellsOf placeOf
def encU (c : UInt8) : List TV := [.val (.int .u8 c.toNat)]
@[simp] theorem len_encU (r : UInt8) : (encU r).length = 1 := by simp [encU]
@[simp] theorem take_encU (r : UInt8) : (encU r).take 1 = encU r := by simp [encU]
@[simp] theorem plain_encU (r : UInt8) : (encU r).all TV.plain = true := by simp [encU]
@[simp] theorem pc_encU (r : UInt8) : (encU r).all TV.pc = true := by simp [encU, TV.pc, TV.cell, Value.oneCell']
@[simp] theorem noH_encU (r : UInt8) : noHL (encU r) = true := by simp [encU]
@[simp] theorem argTL_encU {H : Nat → Option TV} {ρ : List Nat} (r : UInt8) : argTL H ρ (encU r) = some (encU r) := by simp [encU]
@[simp] theorem views_encU {ρ : List Nat} (r : UInt8) : (encU r).flatMap (views1 ρ) = [] := by simp [encU]
@[simp] theorem opnL_encU {k : Nat} (r : UInt8) : opnL k (encU r) = (encU r, []) := by simp [encU]
@[simp] theorem closeL_encU {H : Nat → Option TV} (r : UInt8) : closeL H (encU r) = some (encU r, H) := by simp [encU]
@[simp] theorem roL_encU (r : UInt8) : roL (encU r) = encU r := by simp [encU]
@[simp] theorem noHR_encU (l : List UInt8) : noHR (l.map encU) = true := by induction l <;> simp [*]
@[simp] theorem roRows_encU (l : List UInt8) : roRows (l.map encU) = l.map encU := by induction l <;> simp [*]
@[simp] theorem noRo_encU (r : UInt8) : noRoL (encU r) = true := by simp [encU]
@[simp] theorem noRoR_encU (l : List UInt8) : noRoR (l.map encU) = true := by induction l <;> simp [*]
theorem rl_encU (l : List UInt8) : ∀ r ∈ l.map encU, r.length = 1 := by
  intro r hr
  obtain ⟨x, _, rfl⟩ := List.mem_map.1 hr
  simp

/-- A reader of a code. -/
def rdr (b : List UInt8) (p : Nat) : TV := .box 82 [.ro (b.map encU), .val (.int .i64 p)]
theorem xor_low {x y : Int} (hx : 0 ≤ x ∧ x ≤ 9223372036854775807) (hy : 0 ≤ y ∧ y ≤ 9223372036854775807) : 0 ≤ IntKind.i64.wrap (((x % 2 ^ IntKind.i64.bits).toNat ^^^ (y % 2 ^ IntKind.i64.bits).toNat : Nat) : Int) := by
  have hb : IntKind.i64.bits = 64 := rfl
  rw [hb]
  have h1 : (x % 2 ^ 64).toNat < 2 ^ 63 := by omega
  have h2 : (y % 2 ^ 64).toNat < 2 ^ 63 := by omega
  have := Nat.xor_lt_two_pow h1 h2
  rw [wrapi (by omega)]
  omega
theorem tmod_ok {x n : Int} (hx : 0 ≤ x) (hn : 1 ≤ n) : 0 ≤ x.tmod n ∧ x.tmod n < n ∧ x.tmod n ≤ x := by
  refine ⟨Int.tmod_nonneg _ hx, Int.tmod_lt_of_pos _ (by omega), ?_⟩
  rw [Int.tmod_eq_emod_of_nonneg hx, Int.emod_def]
  have := Int.mul_nonneg (a := n) (b := x / n) (by omega) (Int.ediv_nonneg hx (by omega))
  omega
theorem tcr_pick (b : List UInt8) (p : Nat) (n : Int) (hb : b.length ≤ 2000) (hp : p ≤ 1000000000) : TCR Tryz.prog 30 [.pd 0 0 0 0, .val (.int .i64 n)] [rdr b p] (fun r o => ∃ k : Int, r = .val (.int .i64 k) ∧ 0 ≤ k ∧ (1 ≤ n → k < n) ∧ o = [rdr b (p + 1)]) := by
  refine TCR.enter Tryz.func30 rfl (by simp [Tryz.ntmps30]) rfl (tw_sound (ρ := []) ?_)
  rw [Tryz.ntmps30]
  have hw : IntKind.i64.wrap ((p : Int) + 1) = (p + 1 : Nat) := by rw [wrapi (by omega)]; simp
  simp [rdr, hw]
  by_cases c1 : n < 1
  · simp [c1]
    exact ⟨_, _, ⟨rfl, rfl⟩, by simp, by simp, 0, by simp; omega⟩
  simp [c1]
  by_cases c2 : b = []
  · subst c2
    simp
    exact ⟨_, _, ⟨rfl, rfl⟩, by simp, by simp, 0, by simp; omega⟩
  have c2' : ¬ b.length = 0 := by simpa using c2
  have hw2 : IntKind.i64.wrap (p : Int) = p := wrapi (by omega)
  simp [c2, c2', hw2]
  by_cases c3 : p < b.length
  · obtain ⟨c, hc⟩ : ∃ c, ∀ h, b[p]'h = c := ⟨b[p], fun _ => rfl⟩
    have h1 : ¬ n = 0 := by omega
    have hcl := c.toNat_lt
    obtain ⟨h2, h3, h4⟩ := tmod_ok (x := c.toNat) (n := n) (by omega) (by omega)
    have hw3 : IntKind.i64.wrap ((c.toNat : Int).tmod n) = (c.toNat : Int).tmod n := wrapi (by omega)
    simp [c3, encU, hc, h1, hw3]
    exact ⟨_, _, ⟨rfl, rfl⟩, by simp, by simp, _, by simp; rfl, by omega, fun _ => by omega, by simp⟩
  simp [c3]
  have L0 : (1 : Int) ≤ b.length := by omega
  have L1 : ¬ (b.length : Int) = 0 := by omega
  have w7 : IntKind.i64.wrap ((p : Int) * 7) = p * 7 := wrapi (by omega)
  have w73 : IntKind.i64.wrap ((p : Int) * 7 + 3) = p * 7 + 3 := wrapi (by omega)
  obtain ⟨a1, a2, a3⟩ := tmod_ok (x := (p : Int)) (n := b.length) (by omega) L0
  obtain ⟨d1, d2, d3⟩ := tmod_ok (x := (p : Int) * 7 + 3) (n := b.length) (by omega) L0
  have e1 : 0 ≤ (p : Int).tdiv b.length := Int.tdiv_nonneg (by omega) (by omega)
  have e2 : (p : Int).tdiv b.length ≤ p := Int.tdiv_le_self _ (by omega)
  have wa : IntKind.i64.wrap ((p : Int).tmod b.length) = (p : Int).tmod b.length := wrapi (by omega)
  have wd : IntKind.i64.wrap (((p : Int) * 7 + 3).tmod b.length) = ((p : Int) * 7 + 3).tmod b.length := wrapi (by omega)
  have we : IntKind.i64.wrap ((p : Int).tdiv b.length) = (p : Int).tdiv b.length := wrapi (by omega)
  refine TWcH.regionD (ρ := []) [0, 1, 2, 3, 4, 5, 6, 7, 8, 9, 10, 11, 12, 13, 14, 15, 16, 17, 18, 19, 20, 21, 22, 23, 24, 25, 26, 27, 28, 29, 30, 31, 32, 33, 34, 35, 36, 37, 38, 39, 40, 41, 42, 43, 44, 45] 46 mixed (by kernel_rfl) ?_
  have n0 : ¬ n = 0 := by omega
  obtain ⟨q1, hq1⟩ : ∃ q, (p : Int).tmod b.length = q := ⟨_, rfl⟩
  obtain ⟨q2, hq2⟩ : ∃ q, ((p : Int) * 7 + 3).tmod b.length = q := ⟨_, rfl⟩
  obtain ⟨q3, hq3⟩ : ∃ q, (p : Int).tdiv b.length = q := ⟨_, rfl⟩
  rw [hq1] at a1 a2 a3 wa
  rw [hq2] at d1 d2 d3 wd
  rw [hq3] at e1 e2 we
  have f1 : q1.toNat < b.length := by omega
  have f2 : q2.toNat < b.length := by omega
  obtain ⟨x1, hx1⟩ : ∃ c, ∀ h, b[q1.toNat]'h = c := ⟨b[q1.toNat], fun _ => rfl⟩
  obtain ⟨x2, hx2⟩ : ∃ c, ∀ h, b[q2.toNat]'h = c := ⟨b[q2.toNat], fun _ => rfl⟩
  have g1 := x1.toNat_lt
  have g2 := x2.toNat_lt
  have w1 : IntKind.i64.wrap ((x1.toNat : Int) * 131) = x1.toNat * 131 := wrapi (by omega)
  have w2 : IntKind.i64.wrap ((x2.toNat : Int) * 1117) = x2.toNat * 1117 := wrapi (by omega)
  have w3 : IntKind.i64.wrap ((x1.toNat : Int) * 131 + x2.toNat * 1117) = x1.toNat * 131 + x2.toNat * 1117 := wrapi (by omega)
  have w4 : IntKind.i64.wrap ((p : Int) * 29) = p * 29 := wrapi (by omega)
  have w5 : IntKind.i64.wrap ((x1.toNat : Int) * 131 + x2.toNat * 1117 + p * 29) = x1.toNat * 131 + x2.toNat * 1117 + p * 29 := wrapi (by omega)
  have w6 : IntKind.i64.wrap (q3 * 53) = q3 * 53 := wrapi (by omega)
  have w8 : IntKind.i64.wrap ((x1.toNat : Int) * 131 + x2.toNat * 1117 + p * 29 + q3 * 53) = x1.toNat * 131 + x2.toNat * 1117 + p * 29 + q3 * 53 := wrapi (by omega)
  simp [c2, c2', hw2, L1, w7, w73, wa, wd, we, hq1, hq2, hq3, a1, a2, d1, d2, f1, f2, hx1, hx2, encU, w1, w2, w3, w4, w5, w6, w8, n0]
  obtain ⟨X, hX, hX0⟩ : ∃ X : Int, (x1.toNat : Int) * 131 + x2.toNat * 1117 + p * 29 + q3 * 53 = X ∧ (0 ≤ X ∧ X ≤ 9223372036854775807) := ⟨_, rfl, by omega⟩
  rw [hX]
  have t1 : 0 ≤ X.tdiv 64 := Int.tdiv_nonneg (by omega) (by omega)
  have t2 : X.tdiv 64 ≤ X := Int.tdiv_le_self _ (by omega)
  have t3 : IntKind.i64.wrap (X.tdiv 64) = X.tdiv 64 := wrapi (by omega)
  rw [t3]
  have t4 := xor_low hX0 (y := X.tdiv 64) (by omega)
  generalize IntKind.i64.wrap (((X % 2 ^ IntKind.i64.bits).toNat ^^^ (X.tdiv 64 % 2 ^ IntKind.i64.bits).toNat : Nat) : Int) = Y at t4
  obtain ⟨u1, u2, u3⟩ := tmod_ok (x := Y) (n := n) t4 (by omega)
  exact ⟨_, _, ⟨rfl, rfl⟩, by simp, by simp, _, by simp; rfl, by omega, fun _ => by omega, by simp⟩
end Go.Proofs.YtibeeohnjabhkaaGreatDoor.R

open Go Go.Proofs.YtibeeohnjabhkaaGreatDoor.T
namespace Go.Proofs.YtibeeohnjabhkaaGreatDoor.R
theorem rdByte (n : Nat) : RdT Tryz.prog n 5 encU (fun _ => True) := by
  refine (RdT.int (k := .u8) n Tryz.underlying5).iso (fun x => UInt8.ofNat x.toNat) fun x hx => ⟨?_, trivial⟩
  have e1 : IntKind.u8.signed = false := rfl
  have e2 : IntKind.u8.bits = 8 := rfl
  simp [Lit.wf, IntKind.min, IntKind.max, e1, e2] at hx
  simp only [encU]
  have : ((UInt8.ofNat x.toNat).toNat : Int) = x := by
    rw [UInt8.toNat_ofNat']
    omega
  rw [this]
theorem rdBytes (n : Nat) : RdT Tryz.prog n 22 (fun l : List UInt8 => [.ro (l.map encU)]) (fun _ => True) := by
  exact ((RdT.slice (b := 1) (rdByte n) Tryz.underlying22 (by kernel_rfl)).le (Nat.le_succ n)).imp fun x hx => trivial
end Go.Proofs.YtibeeohnjabhkaaGreatDoor.R


open Go Go.Proofs.YtibeeohnjabhkaaGreatDoor.T
namespace Go.Proofs.YtibeeohnjabhkaaGreatDoor.R
set_option maxHeartbeats 4000000
set_option maxRecDepth 100000
set_option linter.unusedSimpArgs false
set_option linter.unusedVariables false
attribute [local simp] bsV bsRows chunk fillT partsT appV makeV rowsOf cellsOf placeOf
def encT (c : List UInt8) : List TV := [.val (.string (bs c))]
@[simp] theorem len_encT (r : (List UInt8)) : (encT r).length = 1 := by simp [encT]
@[simp] theorem take_encT (r : (List UInt8)) : (encT r).take 1 = encT r := by simp [encT]
@[simp] theorem plain_encT (r : (List UInt8)) : (encT r).all TV.plain = true := by simp [encT]
@[simp] theorem pc_encT (r : (List UInt8)) : (encT r).all TV.pc = true := by simp [encT, TV.pc, TV.cell, Value.oneCell']
@[simp] theorem noH_encT (r : (List UInt8)) : noHL (encT r) = true := by simp [encT]
@[simp] theorem argTL_encT {H : Nat → Option TV} {ρ : List Nat} (r : (List UInt8)) : argTL H ρ (encT r) = some (encT r) := by simp [encT]
@[simp] theorem views_encT {ρ : List Nat} (r : (List UInt8)) : (encT r).flatMap (views1 ρ) = [] := by simp [encT]
@[simp] theorem opnL_encT {k : Nat} (r : (List UInt8)) : opnL k (encT r) = (encT r, []) := by simp [encT]
@[simp] theorem closeL_encT {H : Nat → Option TV} (r : (List UInt8)) : closeL H (encT r) = some (encT r, H) := by simp [encT]
@[simp] theorem roL_encT (r : (List UInt8)) : roL (encT r) = encT r := by simp [encT]
@[simp] theorem noHR_encT (l : List ((List UInt8))) : noHR (l.map encT) = true := by induction l <;> simp [*]
@[simp] theorem roRows_encT (l : List ((List UInt8))) : roRows (l.map encT) = l.map encT := by induction l <;> simp [*]
@[simp] theorem noRo_encT (r : (List UInt8)) : noRoL (encT r) = true := by simp [encT]
@[simp] theorem noRoR_encT (l : List ((List UInt8))) : noRoR (l.map encT) = true := by induction l <;> simp [*]
theorem rl_encT (l : List ((List UInt8))) : ∀ r ∈ l.map encT, r.length = 1 := by
  intro r hr
  obtain ⟨x, _, rfl⟩ := List.mem_map.1 hr
  simp

@[simp] theorem rdr_noHL (b : List UInt8) (p : Nat) : noHL [rdr b p] = true := by simp [rdr]
@[simp] theorem rdr_noH (b : List UInt8) (p : Nat) : noH (rdr b p) = true := by simp [rdr]
@[simp] theorem setObjs_rdr {H : Nat → Option TV} {i : Nat} (b : List UInt8) (p : Nat) : setObjs H [i] [rdr b p] = upd H i (rdr b p) := rfl
@[simp] theorem rdr_obj (b : List UInt8) (p : Nat) : isObj (rdr b p) = true := rfl
@[simp] theorem rdr_objA (b : List UInt8) (p : Nat) : isObjA (rdr b p) = true := rfl
theorem tcr_of (b : List UInt8) (p : Nat) (l : List (List UInt8)) (hb : b.length ≤ 2000) (hp : p ≤ 1000000000) (h1 : 1 ≤ l.length) (h2 : l.length ≤ 1000) : TCR Tryz.prog 45 [.pd 0 0 0 0, .ro (l.map encT)] [rdr b p] (fun r o => ∃ x ∈ l, r = .val (.string (bs x)) ∧ o = [rdr b (p + 1)]) := by
  refine TCR.enter Tryz.func45 rfl (by simp [Tryz.ntmps45]) rfl (tw_sound (ρ := []) ?_)
  rw [Tryz.ntmps45]
  simp
  refine TWoH.lendR [0] (tcr_pick b p l.length hb hp) callable_30 (by simp [List.findIdx?_cons]) (by simp) (by simp) (by simp) ?_
  rintro r o ⟨k, rfl, k0, k1, rfl⟩
  refine ⟨by simp [rdr], by simp, .inl (by simp [List.findIdx?_cons]), fun q hq => ?_⟩
  have k2 := k1 (by omega)
  have k3 : k.toNat < l.length := by omega
  simp [k0, k2, k3, setObjs, rdr, encT]
  exact ⟨_, _, ⟨rfl, rfl⟩, by simp, by simp, l[k.toNat], List.getElem_mem k3, by simp, by simp⟩
theorem tcr_num (b : List UInt8) (p : Nat) (l : List Int) (hb : b.length ≤ 2000) (hp : p ≤ 1000000000) (h1 : 1 ≤ l.length) (h2 : l.length ≤ 1000) : TCR Tryz.prog 32 [.pd 0 0 0 0, .ro (l.map encI)] [rdr b p] (fun r o => ∃ x ∈ l, r = .val (.int .i64 x) ∧ o = [rdr b (p + 1)]) := by
  refine TCR.enter Tryz.func32 rfl (by simp [Tryz.ntmps32]) rfl (tw_sound (ρ := []) ?_)
  rw [Tryz.ntmps32]
  simp
  refine TWoH.lendR [0] (tcr_pick b p l.length hb hp) callable_30 (by simp [List.findIdx?_cons]) (by simp) (by simp) (by simp) ?_
  rintro r o ⟨k, rfl, k0, k1, rfl⟩
  refine ⟨by simp [rdr], by simp, .inl (by simp [List.findIdx?_cons]), fun q hq => ?_⟩
  have k2 := k1 (by omega)
  have k3 : k.toNat < l.length := by omega
  simp [k0, k2, k3, setObjs, rdr, encI]
  exact ⟨_, _, ⟨rfl, rfl⟩, by simp, by simp, l[k.toNat], List.getElem_mem k3, by simp, by simp⟩
end Go.Proofs.YtibeeohnjabhkaaGreatDoor.R

open Go Go.Proofs.YtibeeohnjabhkaaGreatDoor.T
namespace Go.Proofs.YtibeeohnjabhkaaGreatDoor.R
set_option maxHeartbeats 4000000
set_option maxRecDepth 100000
set_option linter.unusedSimpArgs false
set_option linter.unusedVariables false
attribute [local simp] bsV bsRows chunk fillT partsT appV makeV rowsOf cellsOf placeOf frzT frz1
def WB : List UInt8 := [97, 98, 99, 120, 48, 255, 0]
theorem tcr_l3Word (b : List UInt8) (p most : Nat) (hb : b.length ≤ 2000) (hp : p ≤ 900000000) (hm : most ≤ 100) : TCR Tryz.prog 29 [.pd 0 0 0 0, .val (.int .i64 most)] [rdr b p] (fun r o => ∃ (w : List UInt8) (p' : Nat), r = .val (.string (bs w)) ∧ w.length ≤ most ∧ (∀ c ∈ w, c ∈ WB) ∧ p' ≤ p + 1 + most ∧ o = [rdr b p']) := by
  refine TCR.enter Tryz.func29 rfl (by simp [Tryz.ntmps29]) rfl (tw_sound (ρ := []) ?_)
  rw [Tryz.ntmps29]
  have hw : IntKind.i64.wrap ((most : Int) + 1) = most + 1 := wrapi (by omega)
  simp [hw]
  refine TWoH.lendR [0] (tcr_pick b p (most + 1) hb (by omega)) callable_30 (by simp [List.findIdx?_cons, hw]) (by simp) (by simp) (by simp) ?_
  rintro r o ⟨k, rfl, k0, k1, rfl⟩
  refine ⟨by simp [rdr], by simp, .inl (by simp [List.findIdx?_cons]), fun q hq => ?_⟩
  have k2 := k1 (by omega)
  simp
  refine TWcH.loop [] (fun m st => ∃ (w : List UInt8) (i p' : Nat), i = m ∧ w.length + i ≤ most ∧ (∀ c ∈ w, c ∈ WB) ∧ p' + i ≤ p + 1 + most ∧ st.σ 0 = .pd 0 0 0 0 ∧ st.H 0 = some (rdr b p') ∧ st.σ 5 = .val (.string (bs w)) ∧ st.σ 6 = .val (.int .i64 i)) k.toNat ⟨[], k.toNat, p + 1, rfl, by simp; omega, by simp, by omega, by simp [Int.toNat_of_nonneg k0]⟩ ?_
  rintro m ⟨σ, H⟩ ⟨w, i, p', rfl, hwl, hwb, hpl, h0, hH, h5, h6⟩
  simp only at h0 hH h5 h6
  by_cases hi : 0 < i
  · have hw1 : IntKind.i64.wrap ((i : Int) - 1) = ((i - 1 : Nat) : Int) := by rw [wrapi (by omega)]; omega
    have kx : ¬ (9223372036854775807 : Int) < w.length + 1 := by omega
    simp [h0, hH, h5, h6, hi]
    refine gall_intro fun id hid => ?_
    have n0 : ¬ id = 0 := fun e => by rw [e, hH] at hid; cases hid
    have n0' : ¬ 0 = id := fun e => n0 e.symm
    simp [h0, hH, h5, h6, hi, n0, n0']
    refine TWoH.turn (Turn.freeze id (t := .own 9 ([[97], [98], [97], [98], [99], [120], [48], [97], [98], [97], [98], [255], [0]].map encT)) (by simp [n0, n0', encT]) ?_)
    refine TWoH.lendR [0] (tcr_of b p' [[97], [98], [97], [98], [99], [120], [48], [97], [98], [97], [98], [255], [0]] hb (by omega) (by simp) (by simp)) callable_45 (by simp [h0, encT, n0, n0', List.findIdx?_cons]) (by simp [hH, n0, n0', del]) (by simp) (by simp) ?_
    rintro r o ⟨x, hx, rfl, rfl⟩
    have hxl : x.length = 1 := by simp at hx; rcases hx with h | h | h | h | h | h | h | h | h | h | h | h | h <;> subst h <;> rfl
    have hxb : ∀ c ∈ x, c ∈ WB := by simp at hx; rcases hx with h | h | h | h | h | h | h | h | h | h | h | h | h <;> subst h <;> simp [WB]
    refine ⟨by simp [rdr], by simp, .inl (by simp [h0, n0, n0', List.findIdx?_cons]), fun q hq => ?_⟩
    simp [h0, h5, h6, n0, n0', hxl, kx]
    exact ⟨i - 1, by omega, w ++ x, by simp [hxl]; omega, fun c hc => (List.mem_append.1 hc).elim (hwb c) (hxb c), p' + 1, by omega, rfl, rfl, hw1⟩
  · obtain rfl : i = 0 := by omega
    simp [h0, hH, h5, h6]
    exact ⟨_, _, ⟨rfl, rfl⟩, by simp, by simp [hH], w, by simp, by omega, hwb, p', by omega, by simp [hH]⟩
end Go.Proofs.YtibeeohnjabhkaaGreatDoor.R
