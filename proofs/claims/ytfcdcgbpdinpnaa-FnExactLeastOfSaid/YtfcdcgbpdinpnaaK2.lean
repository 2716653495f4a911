/- Part 2: what the walk of the code stands on. Conditions: none but those that each theorem states. -/
import Derived.Test.YtfcdcgbpdinpnaaK1
open Go Go.Proofs.Ytfcdcgbpdinpnaa.T
namespace Go.Proofs.Ytfcdcgbpdinpnaa.R
inductive Rex where
  | mk (kind : Int) (set : List (Int × Int)) (kids : List Rex)
  deriving Inhabited
def encS (s : Int × Int) : List TV := [.val (.int .i64 s.1), .val (.int .i64 s.2)]
mutual
def encRex : Rex → List TV
  | .mk k s l => [.val (.int .i64 k), .ro (s.map encS), .ro (encRexL l)]
def encRexL : List Rex → List (List TV)
  | [] => []
  | r :: l => encRex r :: encRexL l
end
@[simp] theorem len_S (r : Int × Int) : (encS r).length = 2 := by simp [encS]
@[simp] theorem take_S (r : Int × Int) : (encS r).take 2 = encS r := by simp [encS]
@[simp] theorem plain_S (r : Int × Int) : (encS r).all TV.plain = true := by simp [encS]
@[simp] theorem pc_S (r : Int × Int) : (encS r).all TV.pc = true := by simp [encS]
@[simp] theorem noH_S (r : Int × Int) : noHL (encS r) = true := by simp [encS]
@[simp] theorem argTL_S {H : Nat → Option TV} {ρ : List Nat} (r : Int × Int) : argTL H ρ (encS r) = some (encS r) := by simp [encS]
@[simp] theorem views_S {ρ : List Nat} (r : Int × Int) : (encS r).flatMap (views1 ρ) = [] := by simp [encS]
theorem opnL_of {k : Nat} : ∀ (l : List TV), noHL l = true → (∀ t ∈ l, (match t with | .own _ _ | .box _ _ | .agg _ | .tup _ | .mp _ _ => false | _ => true) = true) → opnL k l = (l, [])
  | [], _, _ => by simp
  | t :: l, hn, h => by
    have h1 := h t (by simp)
    have h2 := opnL_of (k := k) l (by simp at hn; exact hn.2) fun t ht => h t (by simp [ht])
    cases t <;> simp at h1 <;> simp [h2]
@[simp] theorem opnL_S {k : Nat} (r : Int × Int) : opnL k (encS r) = (encS r, []) := by simp [encS]
@[simp] theorem len_rex (r : Rex) : (encRex r).length = 3 := by cases r; simp [encRex]
@[simp] theorem take_rex (r : Rex) : (encRex r).take 3 = encRex r := by cases r; simp [encRex]
@[simp] theorem plain_rex (r : Rex) : (encRex r).all TV.plain = true := by cases r; simp [encRex]
@[simp] theorem pc_rex (r : Rex) : (encRex r).all TV.pc = true := by cases r; simp [encRex, TV.pc, TV.cell, Value.oneCell']
@[simp] theorem noHR_set (s : List (Int × Int)) : noHR (s.map encS) = true := by induction s <;> simp [encS, *]
mutual
theorem noH_rex : ∀ r : Rex, noHL (encRex r) = true
  | .mk k s l => by simp [encRex, noHR_rex l]
theorem noHR_rex : ∀ l : List Rex, noHR (encRexL l) = true
  | [] => by simp [encRexL]
  | r :: l => by simp [encRexL, noH_rex r, noHR_rex l]
end
attribute [simp] noH_rex noHR_rex
@[simp] theorem opnL_rex {k : Nat} (r : Rex) : opnL k (encRex r) = (encRex r, []) := by cases r; simp [encRex]
@[simp] theorem closeL_S {H : Nat → Option TV} (r : Int × Int) : closeL H (encS r) = some (encS r, H) := by simp [encS]
@[simp] theorem closeL_rex {H : Nat → Option TV} (r : Rex) : closeL H (encRex r) = some (encRex r, H) := by cases r; simp [encRex]
@[simp] theorem argTL_rex {H : Nat → Option TV} {ρ : List Nat} (r : Rex) : argTL H ρ (encRex r) = some (encRex r) := by
  obtain ⟨k, s, l⟩ := r
  have h1 := noHR_set s
  have h2 := noHR_rex l
  simp [encRex, h1, h2]
@[simp] theorem views_rex {ρ : List Nat} (r : Rex) : (encRex r).flatMap (views1 ρ) = [] := by cases r; simp [encRex]
theorem encRexL_eq : ∀ l : List Rex, encRexL l = l.map encRex
  | [] => rfl
  | r :: l => by simp [encRexL, encRexL_eq l]
end Go.Proofs.Ytfcdcgbpdinpnaa.R

open Go Go.Proofs.Ytfcdcgbpdinpnaa.T
namespace Go.Proofs.Ytfcdcgbpdinpnaa.R
set_option maxHeartbeats 2000000
set_option linter.unusedSimpArgs false
set_option linter.unusedVariables false
set_option maxRecDepth 100000

theorem hw1 {i n : Nat} (h : i < n) (hn : n ≤ 1152921504606846976) : IntKind.i64.wrap ((i : Int) + 1) = (i : Int) + 1 := wrapi (by omega)
mutual
def Small : Rex → Prop
  | .mk _ s l => s.length ≤ 1152921504606846976 ∧ l.length ≤ 1152921504606846976 ∧ SmallL l
def SmallL : List Rex → Prop
  | [] => True
  | r :: l => Small r ∧ SmallL l
end
theorem SmallL.get : ∀ {l : List Rex} {i : Nat} (h : SmallL l) (hi : i < l.length), Small l[i]
  | r :: l, 0, h, _ => h.1
  | r :: l, i + 1, h, hi => by
    simp only [List.getElem_cons_succ]
    exact SmallL.get h.2 (by simpa using hi)
def szN (n : Nat) (left : Int) : Int := if IntKind.i64.wrap (left - n) < 0 then -1 else IntKind.i64.wrap (left - n)
mutual
def szRexF : Rex → Int → Int
  | .mk _ s l, left => if szN s.length left < 0 then -1 else if (if IntKind.i64.wrap (szN s.length left - l.length) < 0 then -1 else szLoopF l (IntKind.i64.wrap (szN s.length left - l.length))) < 0 then -1 else (if IntKind.i64.wrap (szN s.length left - l.length) < 0 then -1 else szLoopF l (IntKind.i64.wrap (szN s.length left - l.length)))
def szLoopF : List Rex → Int → Int
  | [], a => a
  | r :: l, a => if szRexF r a < 0 then -1 else szLoopF l (szRexF r a)
end
def szRexSF (l : List Rex) (left : Int) : Int := if IntKind.i64.wrap (left - l.length) < 0 then -1 else szLoopF l (IntKind.i64.wrap (left - l.length))
theorem szRexF_eq (k : Int) (s : List (Int × Int)) (l : List Rex) (left : Int) : szRexF (.mk k s l) left = if szN s.length left < 0 then -1 else if szRexSF l (szN s.length left) < 0 then -1 else szRexSF l (szN s.length left) := by
  simp only [szRexF, szRexSF]; rfl
theorem szLoopF_drop {l : List Rex} {i : Nat} (h : i < l.length) (a : Int) : szLoopF (l.drop i) a = if szRexF l[i] a < 0 then -1 else szLoopF (l.drop (i + 1)) (szRexF l[i] a) := by
  conv => lhs; rw [List.drop_eq_getElem_cons h]
  rw [szLoopF]
theorem tc_szSpanS (l : List (Int × Int)) (left : Int) : TC Try.prog 35 [.ro (l.map encS), .val (.int .i64 left)] [] (.val (.int .i64 (szN l.length left))) [] := by
  refine TC.enter Try.func35 rfl (by simp [Try.ntmps35]) rfl (tw_sound (ρ := []) ?_)
  rw [Try.ntmps35]
  simp
  refine gif_intro (fun c1 => ?_) (fun c1 => ?_) <;> simp [szN, c1]
structure Rule where
  name : List UInt8
  rex : Rex
def encRule (r : Rule) : List TV := .val (.string (bs r.name)) :: encRex r.rex
@[simp] theorem len_rule (r : Rule) : (encRule r).length = 4 := by simp [encRule]
@[simp] theorem take_rule (r : Rule) : (encRule r).take 4 = encRule r := by simp [encRule]
@[simp] theorem plain_rule (r : Rule) : (encRule r).all TV.plain = true := by simp [encRule]
@[simp] theorem pc_rule (r : Rule) : (encRule r).all TV.pc = true := by simp only [encRule, List.all_cons, pc_rex]; simp
@[simp] theorem noH_rule (r : Rule) : noHL (encRule r) = true := by simp [encRule]
@[simp] theorem opnL_rule {k : Nat} (r : Rule) : opnL k (encRule r) = (encRule r, []) := by simp [encRule]
@[simp] theorem closeL_rule {H : Nat → Option TV} (r : Rule) : closeL H (encRule r) = some (encRule r, H) := by simp [encRule]
@[simp] theorem argTL_rule {H : Nat → Option TV} {ρ : List Nat} (r : Rule) : argTL H ρ (encRule r) = some (encRule r) := by simp [encRule]
@[simp] theorem views_rule {ρ : List Nat} (r : Rule) : (encRule r).flatMap (views1 ρ) = [] := by simp only [encRule, List.flatMap_cons, views_rex]; simp
@[simp] theorem noHR_rule (s : List Rule) : noHR (s.map encRule) = true := by induction s <;> simp [*]
@[simp] theorem noHR_rexs (s : List Rex) : noHR (s.map encRex) = true := by induction s <;> simp [*]
def szRuleF (r : Rule) (left : Int) : Int := if szN r.name.length left < 0 then -1 else if szRexF r.rex (szN r.name.length left) < 0 then -1 else szRexF r.rex (szN r.name.length left)
def szRulesLoop : List Rule → Int → Int
  | [], a => a
  | r :: l, a => if szRuleF r a < 0 then -1 else szRulesLoop l (szRuleF r a)
theorem szRulesLoop_drop {l : List Rule} {i : Nat} (h : i < l.length) (a : Int) : szRulesLoop (l.drop i) a = if szRuleF l[i] a < 0 then -1 else szRulesLoop (l.drop (i + 1)) (szRuleF l[i] a) := by
  conv => lhs; rw [List.drop_eq_getElem_cons h]
  rw [szRulesLoop]
def szRulesF (l : List Rule) (left : Int) : Int := if IntKind.i64.wrap (left - l.length) < 0 then -1 else szRulesLoop l (IntKind.i64.wrap (left - l.length))
end Go.Proofs.Ytfcdcgbpdinpnaa.R

open Go Go.Proofs.Ytfcdcgbpdinpnaa.T
namespace Go.Proofs.Ytfcdcgbpdinpnaa.R
set_option maxHeartbeats 2000000
set_option linter.unusedSimpArgs false
set_option linter.unusedVariables false
set_option maxRecDepth 100000
theorem tc_toSpan (s : Int × Int) : TC Try.prog 62 [.agg (encS s)] [] (.agg (encS s)) [] := by
  refine TC.enter Try.func62 rfl (by simp [Try.ntmps62]) rfl (tw_sound (ρ := [1]) ?_)
  rw [Try.ntmps62]
  simp [encS]
  refine gall_intro fun a ha => ?_
  simp
  refine gall_intro fun b hb => ?_
  simp at hb
  simp [hb, Ne.symm hb]
/-- The rows as they are filled, one behind the other. -/
def fillR {α : Type _} (enc : α → List TV) (z : List TV) (l : List α) (i : Nat) : List (List TV) := (l.take i).map enc ++ List.replicate (l.length - i) z
section
variable {α : Type _} {enc : α → List TV} {z : List TV} {l : List α} {i : Nat}
@[simp] theorem fillR_zero : fillR enc z l 0 = List.replicate l.length z := by simp [fillR]
@[simp] theorem fillR_len (hi : i ≤ l.length) : (fillR enc z l i).length = l.length := by simp [fillR]; omega
theorem fillR_all (hi : l.length ≤ i) : fillR enc z l i = l.map enc := by
  unfold fillR; rw [List.take_of_length_le hi, show l.length - i = 0 by omega]; simp
theorem fillR_at (hi : i < l.length) : (fillR enc z l i)[i]? = some z := by
  unfold fillR
  rw [List.getElem?_append_right (by simp; omega)]
  simp [List.getElem?_replicate]; omega
theorem fillR_at' (hi : i < l.length) (h : i < (fillR enc z l i).length) : (fillR enc z l i)[i] = z := by
  have := fillR_at (enc := enc) (z := z) hi
  rw [List.getElem?_eq_getElem h] at this
  exact Option.some.inj this
theorem fillR_set (hi : i < l.length) : (fillR enc z l i).set i (enc l[i]) = fillR enc z l (i + 1) := by
  apply List.ext_getElem?
  intro j
  unfold fillR
  rw [List.getElem?_set]
  by_cases h : i = j
  · subst h
    rw [if_pos rfl, if_pos (by simp; omega), List.getElem?_append_left (by simp; omega)]
    simp [List.getElem?_take, hi]
  · rw [if_neg h]
    by_cases h' : j < i
    · rw [List.getElem?_append_left (by simp; omega), List.getElem?_append_left (by simp; omega)]
      simp [List.getElem?_take, h', show j < i + 1 by omega]
    · rw [List.getElem?_append_right (by simp; omega), List.getElem?_append_right (by simp; omega)]
      simp [List.getElem?_replicate]
      congr 1
      simp; omega
end
theorem tc_toSpanS (l : List (Int × Int)) (hl : l.length ≤ 1048576) : TC Try.prog 43 [.ro (l.map encS)] [] (.own 42 (l.map encS)) [] := by
  refine TC.enter Try.func43 rfl (by simp [Try.ntmps43]) rfl (tw_sound (ρ := []) ?_)
  rw [Try.ntmps43]
  simp [makeV]
  rw [gif_pos (by omega)]
  refine gall_intro fun id hid => ?_
  simp
  refine TWcH.loop [] (fun m s => ∃ i, i + m = l.length ∧ s.σ 0 = .ro (l.map encS) ∧ s.σ 3 = .hd id ∧ s.σ 4 = .val (.int .i64 i) ∧ s.H id = some (.own 42 (fillR encS [.val (.int .i64 0), .val (.int .i64 0)] l i))) l.length ⟨0, by simp⟩ ?_
  rintro m ⟨σ, H⟩ ⟨i, him, h0, h3, h4, hH⟩
  simp only at h0 h3 h4 hH
  by_cases hi : i < l.length
  · have hw := hw1 hi (by omega)
    simp [h0, h3, h4, getI hi, hi]
    refine TWoH.callV (tc_toSpan l[i]) callable_62 (by simp [*]) (by simp) (by simp) (by simp [*]) ?_
    simp [h0, h3, h4, hH, hi, fillR_at hi, fillR_at' hi, fillR_len (Nat.le_of_lt hi), fillR_set hi, hw]
    exact ⟨m - 1, by omega, i + 1, by omega, by omega, rfl⟩
  · simp [h0, h3, h4, hH, hi, fillR_all (Nat.le_of_not_lt hi)]
@[simp] theorem roL_S (s : Int × Int) : roL (encS s) = encS s := by simp [encS]
@[simp] theorem roRows_S (l : List (Int × Int)) : roRows (l.map encS) = l.map encS := by induction l <;> simp [*]
mutual
theorem roL_rex : ∀ r : Rex, roL (encRex r) = encRex r
  | .mk k s l => by simp [encRex, roRows_rex l]
theorem roRows_rex : ∀ l : List Rex, roRows (encRexL l) = encRexL l
  | [] => by simp [encRexL]
  | r :: l => by simp [encRexL, roL_rex r, roRows_rex l]
end
attribute [simp] roL_rex
@[simp] theorem roRows_rexs (l : List Rex) : roRows (l.map encRex) = l.map encRex := by rw [← encRexL_eq]; exact roRows_rex l
@[simp] theorem roL_rule (r : Rule) : roL (encRule r) = encRule r := by simp [encRule]
@[simp] theorem roRows_rules (l : List Rule) : roRows (l.map encRule) = l.map encRule := by induction l <;> simp [*]
theorem tc_toSpanS' (l : List (Int × Int)) (hl : l.length ≤ 1048576) : TC Try.prog 43 [.ro (l.map encS)] [] (.ro (l.map encS)) [] := by
  have := (tc_toSpanS l hl).frz
  simpa using this
mutual
def Sm : Rex → Prop
  | .mk _ s l => s.length ≤ 1048576 ∧ l.length ≤ 1048576 ∧ SmL l
def SmL : List Rex → Prop
  | [] => True
  | r :: l => Sm r ∧ SmL l
end
end Go.Proofs.Ytfcdcgbpdinpnaa.R

open Go Go.Proofs.Ytfcdcgbpdinpnaa.T
namespace Go.Proofs.Ytfcdcgbpdinpnaa.R
set_option maxHeartbeats 2000000
set_option linter.unusedSimpArgs false
set_option linter.unusedVariables false
set_option maxRecDepth 100000
def wc (c : UInt8) : Bool := decide (97 ≤ c.toNat ∧ c.toNat ≤ 122)
def wordOk (l : List UInt8) : Bool := l.all wc && decide (0 < l.length ∧ l.length ≤ 6)
theorem all_drop {α : Type _} {p : α → Bool} {l : List α} {i : Nat} (h : i < l.length) : (l.drop i).all p = (p l[i] && (l.drop (i + 1)).all p) := by
  conv => lhs; rw [List.drop_eq_getElem_cons h]
  rw [List.all_cons]
theorem any_drop {α : Type _} {p : α → Bool} {l : List α} {i : Nat} (h : i < l.length) : (l.drop i).any p = (p l[i] || (l.drop (i + 1)).any p) := by
  conv => lhs; rw [List.drop_eq_getElem_cons h]
  rw [List.any_cons]
theorem drop_all {α : Type _} {l : List α} {i : Nat} (h : ¬ i < l.length) : l.drop i = [] := List.drop_eq_nil_of_le (by omega)
def kidsN (k : Int) : Int := if k = 1 ∨ k = 2 then 0 else if k = 5 ∨ k = 7 then 1 else if k = 3 ∨ k = 4 ∨ k = 6 then 2 else -1
def okX (p : Option Int) (x : Int × Int) : Bool := decide (0 ≤ x.1 ∧ x.2 ≤ 255 ∧ x.1 ≤ x.2 ∧ ∀ q, p = some q → q + 1 < x.1)
def setOkP : Option Int → List (Int × Int) → Bool
  | _, [] => true
  | p, x :: l => okX p x && setOkP (some x.2) l
def prevOf (l : List (Int × Int)) (i : Nat) : Option Int := if 0 < i then (l[i - 1]?).map (·.2) else none
theorem setOkP_drop {l : List (Int × Int)} {i : Nat} (h : i < l.length) (p : Option Int) : setOkP p (l.drop i) = (okX p l[i] && setOkP (some l[i].2) (l.drop (i + 1))) := by
  conv => lhs; rw [List.drop_eq_getElem_cons h]
  rw [setOkP]
def setOk (l : List (Int × Int)) : Bool := setOkP none l
theorem prevOf_succ {l : List (Int × Int)} {i : Nat} (h : i < l.length) : prevOf l (i + 1) = some l[i].2 := by simp [prevOf, getI h]
theorem prevOf_pos {l : List (Int × Int)} {i : Nat} (h : i - 1 < l.length) (h0 : 0 < i) : prevOf l i = some l[i - 1].2 := by simp [prevOf, getI h, h0]
theorem tc_sSetOk (l : List (Int × Int)) (hl : l.length ≤ 1152921504606846976) : TC Try.prog 55 [.ro (l.map encS)] [] (.val (.bool (setOk l))) [] := by
  refine TC.enter Try.func55 rfl (by simp [Try.ntmps55]) rfl (tw_sound (ρ := []) ?_)
  rw [Try.ntmps55]
  simp
  refine TWcH.loop [] (fun m s => ∃ i, i + m = l.length ∧ s.σ 0 = .ro (l.map encS) ∧ s.σ 3 = .val (.int .i64 i) ∧ (∀ q, prevOf l i = some q → 0 ≤ q ∧ q ≤ 255) ∧ setOk l = setOkP (prevOf l i) (l.drop i)) l.length ⟨0, by simp [prevOf, setOk]⟩ ?_
  rintro m ⟨σ, H⟩ ⟨i, him, h0, h3, hp, hh⟩
  simp only at h0 h3
  by_cases hi : i < l.length
  · rw [setOkP_drop hi] at hh
    have hw := hw1 hi hl
    have bad : ¬ okX (prevOf l i) l[i] = true → setOk l = false := fun h => by rw [hh, Bool.eq_false_iff.2 h]; rfl
    have good : okX (prevOf l i) l[i] = true → ∃ m', m' < m ∧ ∃ i', i' + m' = l.length ∧ (i : Int) + 1 = (i' : Int) ∧ (∀ q, prevOf l i' = some q → 0 ≤ q ∧ q ≤ 255) ∧ setOk l = setOkP (prevOf l i') (l.drop i') := fun h => by
      refine ⟨m - 1, by omega, i + 1, by omega, by omega, ?_, by rw [hh, h, prevOf_succ hi]; rfl⟩
      rw [prevOf_succ hi]
      rintro q ⟨⟩
      simp only [okX, decide_eq_true_eq] at h
      omega
    simp only [okX, decide_eq_true_eq] at bad good
    simp [h0, h3, getI hi, hi]
    refine TWcH.regionD (ρ := []) [0, 1, 2, 3, 4, 5, 6, 7, 8, 9, 10, 11, 12, 13, 14, 15, 16, 17, 18, 19, 20, 21, 22, 23, 24, 25, 26, 27, 28, 29, 30, 31, 32, 33, 34, 35, 36, 37, 38, 39, 40, 41, 42, 43, 44, 45] 46 mixed (by kernel_rfl) ?_
    simp [h0, h3, getI hi, hi, encS]
    refine gif_intro (fun c1 => ?_) (fun c1 => ?_) <;> simp [h0, h3, getI hi, hi, encS, c1]
    · exact bad (by omega)
    refine gif_intro (fun c2 => ?_) (fun c2 => ?_) <;> simp [h0, h3, getI hi, hi, encS, c1, c2]
    · exact bad (by omega)
    refine gif_intro (fun c3 => ?_) (fun c3 => ?_) <;> simp [h0, h3, getI hi, hi, encS, c1, c2, c3]
    · exact bad (by omega)
    refine gif_intro (fun c4 => ?_) (fun c4 => ?_) <;> simp [h0, h3, getI hi, hi, encS, c1, c2, c3, c4, hw]
    · have hj : i - 1 < l.length := by omega
      have e : IntKind.i64.wrap ((i : Int) - 1) = ((i - 1 : Nat) : Int) := by rw [wrapi (by omega)]; omega
      have hq := hp _ (prevOf_pos hj c4)
      have e2 : IntKind.i64.wrap (l[i - 1].2 + 1) = l[i - 1].2 + 1 := wrapi (by omega)
      rw [prevOf_pos hj c4] at bad good
      simp [h0, h3, getI hi, getI hj, hi, hj, encS, c1, c2, c3, c4, e, e2]
      refine gif_intro (fun c5 => ?_) (fun c5 => ?_) <;> simp [h0, h3, getI hi, hi, encS, c1, c2, c3, c4, c5, hw]
      · exact bad (fun h => by have := h.2.2.2 _ rfl; omega)
      · exact good ⟨by omega, by omega, by omega, fun q hq => by cases hq; omega⟩
    · exact good ⟨by omega, by omega, by omega, fun q hq => by simp [prevOf, c4] at hq⟩
  · rw [drop_all hi] at hh
    simp [h0, h3, hi, hh, setOkP]
end Go.Proofs.Ytfcdcgbpdinpnaa.R

open Go Go.Proofs.Ytfcdcgbpdinpnaa.T
namespace Go.Proofs.Ytfcdcgbpdinpnaa.R
set_option maxHeartbeats 2000000
set_option linter.unusedSimpArgs false
set_option linter.unusedVariables false
set_option maxRecDepth 100000
def headOk (k : Int) (s : List (Int × Int)) (l : List Rex) : Bool := decide (kidsN k = l.length) && (decide (k = 1) || decide (s.length = 0)) && setOk s
def formF : Nat → Rex → Bool
  | 0, _ => false
  | d + 1, .mk k s l => headOk k s l && l.all (formF d)
theorem SmL.get : ∀ {l : List Rex} {i : Nat} (h : SmL l) (hi : i < l.length), Sm l[i]
  | r :: l, 0, h, _ => h.1
  | r :: l, i + 1, h, hi => by
    simp only [List.getElem_cons_succ]
    exact SmL.get h.2 (by simpa using hi)
end Go.Proofs.Ytfcdcgbpdinpnaa.R

open Go Go.Proofs.Ytfcdcgbpdinpnaa.T
namespace Go.Proofs.Ytfcdcgbpdinpnaa.R
set_option maxHeartbeats 2000000
set_option linter.unusedSimpArgs false
set_option linter.unusedVariables false
set_option maxRecDepth 100000
mutual
def manyN : Rex → Nat
  | .mk _ _ l => 1 + manyL l
def manyL : List Rex → Nat
  | [] => 0
  | r :: l => manyN r + manyL l
end
theorem manyL_append : ∀ (a b : List Rex), manyL (a ++ b) = manyL a + manyL b
  | [], b => by simp [manyL]
  | r :: a, b => by simp [manyL, manyL_append a b]; omega
theorem manyL_take {l : List Rex} {i : Nat} (h : i < l.length) : manyL (l.take (i + 1)) = manyL (l.take i) + manyN l[i] := by
  rw [List.take_succ_eq_append_getElem h, manyL_append]; simp [manyL]
theorem kidsN_le (k : Int) : kidsN k ≤ 2 := by unfold kidsN; split; omega; split; omega; split <;> omega
theorem manyL_le {b : Nat} : ∀ (l : List Rex), (∀ r ∈ l, manyN r ≤ b) → manyL l ≤ l.length * b
  | [], _ => by simp [manyL]
  | r :: l, h => by
    have h1 := h r (by simp)
    have h2 := manyL_le l fun r hr => h r (by simp [hr])
    simp only [manyL, List.length_cons, Nat.add_mul]
    omega
theorem many_le : ∀ (d : Nat) (r : Rex), formF d r = true → manyN r ≤ 2 ^ d - 1
  | 0, r, h => by simp [formF] at h
  | d + 1, .mk k s l, h => by
    simp only [formF, headOk, Bool.and_eq_true, decide_eq_true_eq, List.all_eq_true] at h
    have hk := kidsN_le k
    have h1 := manyL_le (b := 2 ^ d - 1) l fun r hr => many_le d r (h.2 r hr)
    have h2 : l.length ≤ 2 := by omega
    have h3 : 1 ≤ 2 ^ d := Nat.one_le_two_pow
    have h4 : l.length * (2 ^ d - 1) ≤ 2 * (2 ^ d - 1) := Nat.mul_le_mul_right _ h2
    simp only [manyN, Nat.pow_succ]
    omega
theorem formF_kid {d : Nat} {k : Int} {s : List (Int × Int)} {l : List Rex} (h : formF (d + 1) (.mk k s l) = true) {i : Nat} (hi : i < l.length) : formF d l[i] = true := by
  simp only [formF, Bool.and_eq_true, List.all_eq_true] at h
  exact h.2 _ (List.getElem_mem hi)
def rexOk (r : Rex) : Bool := formF 8 r && decide (manyN r ≤ 24)
def hasS (l : List (Int × Int)) (b : Int) : Bool := l.any fun s => decide (s.1 ≤ b ∧ b ≤ s.2)
theorem tc_sSetHas (l : List (Int × Int)) (b : Int) (hl : l.length ≤ 1152921504606846976) : TC Try.prog 60 [.ro (l.map encS), .val (.int .i64 b)] [] (.val (.bool (hasS l b))) [] := by
  refine TC.enter Try.func60 rfl (by simp [Try.ntmps60]) rfl (tw_sound (ρ := []) ?_)
  rw [Try.ntmps60]
  simp
  refine TWcH.loop [] (fun m s => ∃ i, i + m = l.length ∧ s.σ 0 = .ro (l.map encS) ∧ s.σ 1 = .val (.int .i64 b) ∧ s.σ 5 = .val (.int .i64 i) ∧ hasS l b = hasS (l.drop i) b) l.length ⟨0, by simp⟩ ?_
  rintro m ⟨σ, H⟩ ⟨i, him, h0, h1, h5, hh⟩
  simp only at h0 h1 h5
  by_cases hi : i < l.length
  · rw [show hasS (l.drop i) b = _ from any_drop hi, show (l.drop (i + 1)).any (fun s => decide (s.1 ≤ b ∧ b ≤ s.2)) = hasS (l.drop (i + 1)) b from rfl] at hh
    have hw := hw1 hi hl
    simp [h0, h1, h5, encS, getI hi, hi]
    refine gif_intro (fun c1 => ?_) (fun c1 => ?_) <;> simp [h0, h1, h5, encS, getI hi, hi, c1, hw]
    · refine gif_intro (fun c2 => ?_) (fun c2 => ?_) <;> simp [h0, h1, h5, encS, getI hi, hi, c1, c2, hw]
      · simp [hh, c1, c2]
      · exact ⟨m - 1, by omega, i + 1, by omega, by omega, by simp [hh, c2]⟩
    · exact ⟨m - 1, by omega, i + 1, by omega, by omega, by simp [hh, c1]⟩
  · simp [h0, h1, h5, hi]
    rw [hh, drop_all hi]; rfl
end Go.Proofs.Ytfcdcgbpdinpnaa.R

open Go Go.Proofs.Ytfcdcgbpdinpnaa.T
namespace Go.Proofs.Ytfcdcgbpdinpnaa.R
set_option maxHeartbeats 2000000
set_option linter.unusedSimpArgs false
set_option linter.unusedVariables false
set_option maxRecDepth 100000
def encB (b : Bool) : List TV := [.val (.bool b)]
@[simp] theorem len_B (b : Bool) : (encB b).length = 1 := rfl
@[simp] theorem take_B (b : Bool) : (encB b).take 1 = [.val (.bool b)] := rfl
@[simp] theorem drop_B (b : Bool) : (encB b).drop 1 = [] := rfl
section
variable {R : List Bool} {b : Bool} {x : List TV} {z : List (List TV)} {k i : Nat}
theorem sh_get (h : R.length = k) : (R.map encB ++ x :: z)[k]? = some x := by
  subst h
  rw [List.getElem?_append_right (by simp)]; simp
theorem sh_get' (h : R.length = k) (h' : k < (R.map encB ++ x :: z).length) : (R.map encB ++ x :: z)[k] = x := by
  have := sh_get (x := x) (z := z) h
  rw [List.getElem?_eq_getElem h'] at this
  exact Option.some.inj this
theorem sh_old (h : i < R.length) : (R.map encB ++ x :: z)[i]? = some (encB R[i]) := by
  rw [List.getElem?_append_left (by simpa using h)]; simp [h]
theorem sh_old' (h : i < R.length) (h' : i < (R.map encB ++ x :: z).length) : (R.map encB ++ x :: z)[i] = encB R[i] := by
  have := sh_old (x := x) (z := z) h
  rw [List.getElem?_eq_getElem h'] at this
  exact Option.some.inj this
theorem sh_set (h : R.length = k) (y : List TV) : (R.map encB ++ x :: z).set k y = R.map encB ++ y :: z := by
  subst h
  rw [List.set_append_right _ _ (by simp)]; simp
end
/-- Is the piece up to k, from a place before i that is reached, one of f? -/
def anyF (f : List UInt8 → Bool) (t : List UInt8) (R : List Bool) (k i : Nat) : Bool := (List.range i).any fun j => R.getD j false && f ((t.take k).drop j)
theorem anyF_succ {f : List UInt8 → Bool} {t : List UInt8} {R : List Bool} {k i : Nat} (h : i < R.length) : anyF f t R k (i + 1) = (anyF f t R k i || (R[i] && f ((t.take k).drop i))) := by
  simp [anyF, List.range_succ, h]
def reachL (f : List UInt8 → Bool) (t : List UInt8) : Nat → List Bool
  | 0 => [true]
  | k + 1 => reachL f t k ++ [anyF f t (reachL f t k) (k + 1) (k + 1)]
@[simp] theorem reachL_len (f : List UInt8 → Bool) (t : List UInt8) : ∀ k, (reachL f t k).length = k + 1
  | 0 => rfl
  | k + 1 => by simp [reachL, reachL_len f t k]
def starF (f : List UInt8 → Bool) (t : List UInt8) : Bool := (reachL f t t.length).getD t.length false
theorem anyF_more {f : List UInt8 → Bool} {t : List UInt8} {R : List Bool} {k i j : Nat} (h : anyF f t R k i = true) (hij : i ≤ j) : anyF f t R k j = true := by
  simp only [anyF, List.any_eq_true, List.mem_range] at h ⊢
  obtain ⟨x, hx, h⟩ := h
  exact ⟨x, by omega, h⟩
end Go.Proofs.Ytfcdcgbpdinpnaa.R

open Go Go.Proofs.Ytfcdcgbpdinpnaa.T
namespace Go.Proofs.Ytfcdcgbpdinpnaa.R
set_option maxHeartbeats 2000000
set_option linter.unusedSimpArgs false
set_option linter.unusedVariables false
set_option maxRecDepth 100000
def catF (fa fb : List UInt8 → Bool) (t : List UInt8) (k : Nat) : Bool := (List.range' k (t.length + 1 - k)).any fun k => fa (t.take k) && fb (t.drop k)
theorem catF_next {fa fb : List UInt8 → Bool} {t : List UInt8} {k : Nat} (h : k ≤ t.length) : catF fa fb t k = ((fa (t.take k) && fb (t.drop k)) || catF fa fb t (k + 1)) := by
  unfold catF
  rw [show t.length + 1 - k = (t.length + 1 - (k + 1)) + 1 by omega, List.range'_succ, List.any_cons]
def isF : Nat → Rex → List UInt8 → Bool
  | 0, _, _ => false
  | d + 1, .mk k s l, t =>
    if k = 1 then decide (t.length = 1) && hasS s (t.headD 0).toNat else if k = 2 then decide (t = []) else match l with
      | [a] => if k = 5 then starF (isF d a) t else !isF d a t
      | [a, b] => if k = 3 then catF (isF d a) (isF d b) t 0 else if k = 4 then isF d a t || isF d b t else isF d a t && isF d b t
      | _ => false
theorem form_kids {d : Nat} {k : Int} {s : List (Int × Int)} {l : List Rex} (h : formF (d + 1) (.mk k s l) = true) :
    ((k = 1 ∨ k = 2) ∧ l = []) ∨ (∃ a, (k = 5 ∨ k = 7) ∧ l = [a] ∧ formF d a = true) ∨ (∃ a b, (k = 3 ∨ k = 4 ∨ k = 6) ∧ l = [a, b] ∧ formF d a = true ∧ formF d b = true) := by
  simp only [formF, headOk, Bool.and_eq_true, decide_eq_true_eq, List.all_eq_true] at h
  have h1 := h.1.1.1
  unfold kidsN at h1
  split at h1
  · rename_i hk
    exact .inl ⟨hk, List.length_eq_zero_iff.1 (by omega)⟩
  split at h1
  · rename_i hk
    obtain ⟨a, rfl⟩ := List.length_eq_one_iff.1 (show l.length = 1 by omega)
    exact .inr (.inl ⟨a, hk, rfl, h.2 a (by simp)⟩)
  split at h1
  · rename_i hk
    match l, h1, h.2 with
    | [a, b], _, h2 => exact .inr (.inr ⟨a, b, hk, rfl, h2 a (by simp), h2 b (by simp)⟩)
  · omega
end Go.Proofs.Ytfcdcgbpdinpnaa.R

open Go Go.Proofs.Ytfcdcgbpdinpnaa.T
namespace Go.Proofs.Ytfcdcgbpdinpnaa.R
set_option maxHeartbeats 2000000
set_option linter.unusedSimpArgs false
set_option linter.unusedVariables false
set_option maxRecDepth 100000
def nm (l : List Rule) (j : Nat) : List UInt8 := match l[j]? with
  | some r => r.name
  | none => []
def newN (l : List Rule) (i k : Nat) : Bool := (List.range' k (i - k)).all fun j => decide (nm l j ≠ nm l i)
theorem newN_next {l : List Rule} {i k : Nat} (h : k < i) : newN l i k = (decide (nm l k ≠ nm l i) && newN l i (k + 1)) := by
  unfold newN
  rw [show i - k = (i - (k + 1)) + 1 by omega, List.range'_succ, List.all_cons]
theorem newN_end {l : List Rule} {i k : Nat} (h : ¬ k < i) : newN l i k = true := by
  unfold newN
  rw [show i - k = 0 by omega]; rfl
def ruleAt (l : List Rule) (i : Nat) : Bool := (match l[i]? with
  | some r => wordOk r.name && rexOk r.rex
  | none => false) && newN l i 0
def okFrom (l : List Rule) (i : Nat) : Bool := (List.range' i (l.length - i)).all (ruleAt l)
theorem okFrom_next {l : List Rule} {i : Nat} (h : i < l.length) : okFrom l i = (ruleAt l i && okFrom l (i + 1)) := by
  unfold okFrom
  rw [show l.length - i = (l.length - (i + 1)) + 1 by omega, List.range'_succ, List.all_cons]
theorem okFrom_end {l : List Rule} {i : Nat} (h : ¬ i < l.length) : okFrom l i = true := by
  unfold okFrom
  rw [show l.length - i = 0 by omega]; rfl
def rulesOk (l : List Rule) : Bool := decide (1 ≤ l.length ∧ l.length ≤ 5) && okFrom l 0
def RSm (l : List Rule) : Prop := l.length ≤ 1048576 ∧ ∀ r ∈ l, Sm r.rex ∧ r.name.length ≤ 1048576
def firstF (l : List Rule) (t : List UInt8) (i : Nat) : Int := match (List.range' i (l.length - i)).find? (fun j => match l[j]? with
    | some r => isF 8 r.rex t
    | none => false) with
  | some j => j
  | none => -1
theorem firstF_next {l : List Rule} {t : List UInt8} {i : Nat} (h : i < l.length) : firstF l t i = if isF 8 l[i].rex t = true then (i : Int) else firstF l t (i + 1) := by
  unfold firstF
  rw [show l.length - i = (l.length - (i + 1)) + 1 by omega, List.range'_succ, List.find?_cons]
  simp only [getI h]
  cases isF 8 l[i].rex t <;> simp
theorem firstF_end {l : List Rule} {t : List UInt8} {i : Nat} (h : ¬ i < l.length) : firstF l t i = -1 := by
  unfold firstF
  rw [show l.length - i = 0 by omega]; rfl
def rulesFirst (l : List Rule) (t : List UInt8) : Int := if rulesOk l = true ∧ t.length ≤ 12 then firstF l t 0 else -1
theorem rulesOk_form {l : List Rule} (h : rulesOk l = true) {i : Nat} (hi : i < l.length) : formF 8 l[i].rex = true := by
  simp only [rulesOk, okFrom, Bool.and_eq_true, List.all_eq_true, List.mem_range'_1] at h
  have h1 := h.2 i (by omega)
  simp only [ruleAt, getI hi, Bool.and_eq_true, rexOk] at h1
  exact h1.1.2.1
end Go.Proofs.Ytfcdcgbpdinpnaa.R

open Go Go.Proofs.Ytfcdcgbpdinpnaa.T
namespace Go.Proofs.Ytfcdcgbpdinpnaa.R
set_option maxHeartbeats 2000000
set_option maxRecDepth 100000
set_option linter.unusedSimpArgs false
set_option linter.unusedVariables false
theorem tc_eqSpan (a : Int × Int) : TC Try.prog 69 [.agg (encS a), .agg (encS a)] [] (.val (.bool true)) [] := by
  refine TC.enter Try.func69 rfl (by simp [Try.ntmps69]) rfl (tw_sound (ρ := [2, 3]) ?_)
  rw [Try.ntmps69]
  simp [encS]
theorem tc_eqSpanS (l : List (Int × Int)) (hl : l.length ≤ 1152921504606846976) : TC Try.prog 52 [.ro (l.map encS), .ro (l.map encS)] [] (.val (.bool true)) [] := by
  refine TC.enter Try.func52 rfl (by simp [Try.ntmps52]) rfl (tw_sound (ρ := []) ?_)
  rw [Try.ntmps52]
  simp
  refine TWcH.loop [] (fun m s => ∃ i, i + m = l.length ∧ s.σ 0 = .ro (l.map encS) ∧ s.σ 1 = .ro (l.map encS) ∧ s.σ 5 = .val (.int .i64 i)) l.length ⟨0, by simp⟩ ?_
  rintro m ⟨σ, H⟩ ⟨i, him, h0, h1, h5⟩
  simp only at h0 h1 h5
  by_cases hi : i < l.length
  · have hw := hw1 hi hl
    simp [h0, h1, h5, getI hi, hi]
    refine TWcH.regionD (ρ := []) [0, 1, 2, 3, 4, 5, 6, 7, 8, 9] 10 mixed (by kernel_rfl) ?_
    simp [h0, h1, h5, getI hi, hi]
    refine TWqH.callV (tc_eqSpan l[i]) callable_69 (by simp [h0, h1, h5]) (by simp) (by simp) (by simp) ?_
    simp [h0, h1, h5, hw]
    exact ⟨m - 1, by omega, i + 1, by omega, by omega⟩
  · simp [h0, h1, h5, hi]
theorem tc_in (n a b : Int) : TC Try.prog 46 [.val (.int .i64 n), .val (.int .i64 a), .val (.int .i64 b)] [] (.val (.bool (decide (a ≤ n ∧ n ≤ b)))) [] := by
  refine TC.enter Try.func46 rfl (by simp [Try.ntmps46]) rfl (tw_sound (ρ := []) ?_)
  rw [Try.ntmps46]
  simp
  refine gif_intro (fun c1 => ?_) (fun c1 => ?_) <;> simp [c1]
theorem tc_iSetHas (l : List (Int × Int)) (b : Int) (hl : l.length ≤ 1152921504606846976) : TC Try.prog 63 [.ro (l.map encS), .val (.int .i64 b)] [] (.val (.bool (hasS l b))) [] := by
  refine TC.enter Try.func63 rfl (by simp [Try.ntmps63]) rfl (tw_sound (ρ := []) ?_)
  rw [Try.ntmps63]
  simp
  refine TWcH.loop [] (fun m s => ∃ i, i + m = l.length ∧ s.σ 1 = .val (.int .i64 b) ∧ s.σ 7 = .ro (l.map encS) ∧ s.σ 8 = .val (.int .i64 l.length) ∧ s.σ 9 = .val (.int .i64 i) ∧ hasS l b = hasS (l.drop i) b) l.length ⟨0, by simp⟩ ?_
  rintro m ⟨σ, H⟩ ⟨i, him, h1, h7, h8, h9, hh⟩
  simp only at h1 h7 h8 h9
  by_cases hi : i < l.length
  · rw [show hasS (l.drop i) b = _ from any_drop hi, show (l.drop (i + 1)).any (fun s => decide (s.1 ≤ b ∧ b ≤ s.2)) = hasS (l.drop (i + 1)) b from rfl] at hh
    have hw := hw1 hi hl
    simp [h1, h7, h8, h9, encS, getI hi, hi]
    refine gall_intro fun a ha => ?_
    simp [h1, h7, h8, h9, encS, getI hi, hi]
    refine TWoH.callV (tc_in b l[i].1 l[i].2) callable_46 (by simp [h1]) (by simp) (by simp) (by simp) ?_
    simp [h1, h7, h8, h9, encS, getI hi, hi]
    refine gif_intro (fun c1 => ?_) (fun c1 => ?_) <;> simp [h1, h7, h8, h9, encS, getI hi, hi, c1, hw]
    · simp [hh, c1]
    · exact ⟨m - 1, by omega, i + 1, by omega, by omega, by rw [hh]; simp; omega⟩
  · simp [h1, h7, h8, h9, hi]
    rw [hh, drop_all hi]; rfl
end Go.Proofs.Ytfcdcgbpdinpnaa.R

open Go Go.Proofs.Ytfcdcgbpdinpnaa.T
namespace Go.Proofs.Ytfcdcgbpdinpnaa.R
set_option maxHeartbeats 2000000
set_option maxRecDepth 100000
set_option linter.unusedSimpArgs false
set_option linter.unusedVariables false
theorem tc_iSetOk (l : List (Int × Int)) (hl : l.length ≤ 1152921504606846976) : TC Try.prog 44 [.ro (l.map encS)] [] (.val (.bool (setOk l))) [] := by
  refine TC.enter Try.func44 rfl (by simp [Try.ntmps44]) rfl (tw_sound (ρ := []) ?_)
  rw [Try.ntmps44]
  simp
  refine TWcH.loop [] (fun m s => ∃ i, i + m = l.length ∧ s.σ 0 = .ro (l.map encS) ∧ s.σ 5 = .ro (l.map encS) ∧ s.σ 6 = .val (.int .i64 l.length) ∧ s.σ 7 = .val (.int .i64 i) ∧ (∀ q, prevOf l i = some q → 0 ≤ q ∧ q ≤ 255) ∧ setOk l = setOkP (prevOf l i) (l.drop i)) l.length ⟨0, by simp [prevOf, setOk]⟩ ?_
  rintro m ⟨σ, H⟩ ⟨i, him, h0, h5, h6, h7, hp, hh⟩
  simp only at h0 h5 h6 h7
  by_cases hi : i < l.length
  · rw [setOkP_drop hi] at hh
    have hw := hw1 hi hl
    have bad : ¬ okX (prevOf l i) l[i] = true → setOk l = false := fun h => by rw [hh, Bool.eq_false_iff.2 h]; rfl
    have good : okX (prevOf l i) l[i] = true → ∃ m', m' < m ∧ ∃ i', i' + m' = l.length ∧ (i : Int) + 1 = (i' : Int) ∧ (∀ q, prevOf l i' = some q → 0 ≤ q ∧ q ≤ 255) ∧ setOk l = setOkP (prevOf l i') (l.drop i') := fun h => by
      refine ⟨m - 1, by omega, i + 1, by omega, by omega, ?_, by rw [hh, h, prevOf_succ hi]; rfl⟩
      rw [prevOf_succ hi]
      rintro q ⟨⟩
      simp only [okX, decide_eq_true_eq] at h
      omega
    simp only [okX, decide_eq_true_eq] at bad good
    simp [h0, h5, h6, h7, getI hi, hi]
    refine gall_intro fun a ha => ?_
    simp [h0, h5, h6, h7, getI hi, hi]
    refine TWcH.regionD (ρ := []) [0, 1, 2, 3, 4, 5, 6, 7, 8, 9, 10, 11, 12, 13, 14, 15, 16, 17, 18, 19, 20, 21, 22, 23, 24, 25, 26, 27, 28, 29, 30] 31 mixed (by kernel_rfl) ?_
    simp [h0, h5, h6, h7, getI hi, hi, encS]
    refine gif_intro (fun c1 => ?_) (fun c1 => ?_) <;> simp [h0, h5, h6, h7, getI hi, hi, encS, c1]
    · exact bad (by omega)
    refine gif_intro (fun c2 => ?_) (fun c2 => ?_) <;> simp [h0, h5, h6, h7, getI hi, hi, encS, c1, c2]
    · exact bad (by omega)
    refine gif_intro (fun c3 => ?_) (fun c3 => ?_) <;> simp [h0, h5, h6, h7, getI hi, hi, encS, c1, c2, c3]
    · exact bad (by omega)
    refine gif_intro (fun c4 => ?_) (fun c4 => ?_) <;> simp [h0, h5, h6, h7, getI hi, hi, encS, c1, c2, c3, c4, hw]
    · have hj : i - 1 < l.length := by omega
      have e : IntKind.i64.wrap ((i : Int) - 1) = ((i - 1 : Nat) : Int) := by rw [wrapi (by omega)]; omega
      have hq := hp _ (prevOf_pos hj c4)
      have e2 : IntKind.i64.wrap (l[i - 1].2 + 1) = l[i - 1].2 + 1 := wrapi (by omega)
      rw [prevOf_pos hj c4] at bad good
      simp [h0, h5, h6, h7, getI hi, getI hj, hi, hj, encS, c1, c2, c3, c4, e, e2]
      refine gif_intro (fun c5 => ?_) (fun c5 => ?_) <;> simp [h0, h5, h6, h7, getI hi, hi, encS, c1, c2, c3, c4, c5, hw]
      · exact bad (fun h => by have := h.2.2.2 _ rfl; omega)
      · exact good ⟨by omega, by omega, by omega, fun q hq => by cases hq; omega⟩
    · exact good ⟨by omega, by omega, by omega, fun q hq => by simp [prevOf, c4] at hq⟩
  · rw [drop_all hi] at hh
    simp [h0, h5, h6, h7, hi, hh, setOkP]
end Go.Proofs.Ytfcdcgbpdinpnaa.R

open Go Go.Proofs.Ytfcdcgbpdinpnaa.T
namespace Go.Proofs.Ytfcdcgbpdinpnaa.R
def rv (f : List UInt8 → Bool) (t : List UInt8) (k : Nat) : Bool := (reachL f t k).getD k false
theorem reachL_at (f : List UInt8 → Bool) (t : List UInt8) : ∀ (n j : Nat), j ≤ n → (reachL f t n).getD j false = rv f t j
  | 0, j, h => by obtain rfl : j = 0 := by omega
                  rfl
  | n + 1, j, h => by
    by_cases hj : j = n + 1
    · subst hj; rfl
    · rw [reachL, List.getD_eq_getElem?_getD, List.getElem?_append_left (by rw [reachL_len]; omega), ← List.getD_eq_getElem?_getD]
      exact reachL_at f t n j (by omega)
theorem rv_succ (f : List UInt8 → Bool) (t : List UInt8) (k : Nat) : rv f t (k + 1) = (List.range (k + 1)).any fun j => rv f t j && f ((t.take (k + 1)).drop j) := by
  unfold rv
  rw [reachL, List.getD_eq_getElem?_getD, List.getElem?_append_right (by rw [reachL_len]; omega), reachL_len]
  simp only [Nat.sub_self, List.getElem?_cons_zero, Option.getD_some, anyF]
  rw [Bool.eq_iff_iff, List.any_eq_true, List.any_eq_true]
  constructor
  · rintro ⟨j, hj, h⟩
    have := List.mem_range.1 hj
    exact ⟨j, hj, by rw [reachL_at f t k j (by omega)] at h; exact h⟩
  · rintro ⟨j, hj, h⟩
    have := List.mem_range.1 hj
    exact ⟨j, hj, by rw [reachL_at f t k j (by omega)]; exact h⟩
def StP (f : List UInt8 → Bool) (p : List UInt8) : Prop := ∃ parts : List (List UInt8), (∀ a ∈ parts, a ≠ [] ∧ f a = true) ∧ parts.flatten = p
theorem rv_iff (f : List UInt8 → Bool) (t : List UInt8) : ∀ (k : Nat), k ≤ t.length → (rv f t k = true ↔ StP f (t.take k)) := by
  intro k
  induction k using Nat.strongRecOn with
  | _ k ih =>
    intro hk
    cases k with
    | zero => exact ⟨fun _ => ⟨[], by simp, by simp⟩, fun _ => rfl⟩
    | succ k =>
      rw [rv_succ, List.any_eq_true]
      constructor
      · rintro ⟨j, hj, h⟩
        have hj := List.mem_range.1 hj
        simp only [Bool.and_eq_true] at h
        obtain ⟨parts, h1, h2⟩ := (ih j hj (by omega)).1 h.1
        refine ⟨parts ++ [(t.take (k + 1)).drop j], fun a ha => ?_, ?_⟩
        · rcases List.mem_append.1 ha with ha | ha
          · exact h1 a ha
          · rw [List.mem_singleton] at ha
            subst ha
            refine ⟨fun e => ?_, h.2⟩
            have := congrArg List.length e
            simp at this
            omega
        · rw [List.flatten_append, h2, List.flatten_cons, List.flatten_nil, List.append_nil]
          have : t.take j = (t.take (k + 1)).take j := by rw [List.take_take]; congr 1; omega
          rw [this, List.take_append_drop]
      · rintro ⟨parts, h1, h2⟩
        rcases List.eq_nil_or_concat parts with rfl | ⟨init, a, rfl⟩
        · have := congrArg List.length h2
          simp at this
          omega
        · rw [List.concat_eq_append] at h1 h2
          have ha := h1 a (by simp)
          rw [List.flatten_append, List.flatten_cons, List.flatten_nil, List.append_nil] at h2
          have hl := congrArg List.length h2
          rw [List.length_append, List.length_take] at hl
          have hal : 0 < a.length := List.length_pos_iff.2 ha.1
          have hj : init.flatten.length < k + 1 := by omega
          refine ⟨init.flatten.length, List.mem_range.2 hj, ?_⟩
          rw [Bool.and_eq_true]
          constructor
          · refine (ih _ hj (by omega)).2 ⟨init, fun b hb => h1 b (by simp [hb]), ?_⟩
            have : t.take init.flatten.length = (t.take (k + 1)).take init.flatten.length := by rw [List.take_take]; congr 1; omega
            rw [this, ← h2, List.take_left']
            rfl
          · rw [← h2, List.drop_left' rfl]; exact ha.2
theorem starF_iff (f : List UInt8 → Bool) (t : List UInt8) : starF f t = true ↔ StP f t := by
  have := rv_iff f t t.length (Nat.le_refl _)
  rwa [List.take_length] at this
theorem starF_first (f : List UInt8 → Bool) (p : List UInt8) : starF f p = (decide (p.length = 0) || (List.range p.length).any fun x => f (p.take (x + 1)) && starF f (p.drop (x + 1))) := by
  rw [Bool.eq_iff_iff, starF_iff, Bool.or_eq_true, decide_eq_true_eq, List.any_eq_true]
  constructor
  · rintro ⟨parts, h1, h2⟩
    cases parts with
    | nil => left; rw [← h2]; rfl
    | cons a rest =>
      right
      have ha := h1 a (by simp)
      have hal : 0 < a.length := List.length_pos_iff.2 ha.1
      rw [List.flatten_cons] at h2
      have hl := congrArg List.length h2
      rw [List.length_append] at hl
      refine ⟨a.length - 1, List.mem_range.2 (by omega), ?_⟩
      rw [show a.length - 1 + 1 = a.length by omega, Bool.and_eq_true, ← h2, List.take_left' rfl, List.drop_left' rfl, starF_iff]
      exact ⟨ha.2, rest, fun b hb => h1 b (by simp [hb]), rfl⟩
  · rintro (h | ⟨x, hx, h⟩)
    · exact ⟨[], by simp, by rw [List.length_eq_zero_iff] at h; rw [h]; rfl⟩
    · have hx := List.mem_range.1 hx
      rw [Bool.and_eq_true, starF_iff] at h
      obtain ⟨h0, parts, h1, h2⟩ := h
      refine ⟨p.take (x + 1) :: parts, fun a ha => ?_, by rw [List.flatten_cons, h2, List.take_append_drop]⟩
      rcases List.mem_cons.1 ha with rfl | ha
      · refine ⟨fun e => ?_, h0⟩
        have := congrArg List.length e
        rw [List.length_take, List.length_nil] at this
        omega
      · exact h1 a ha
end Go.Proofs.Ytfcdcgbpdinpnaa.R

open Go Go.Proofs.Ytfcdcgbpdinpnaa.T
namespace Go.Proofs.Ytfcdcgbpdinpnaa.R
set_option linter.unusedSimpArgs false
set_option linter.unusedVariables false
/-- A table of thirteen rows of thirteen answers. -/
def tabL (T : Nat → Nat → Bool) : List TV := (List.range 169).map fun x => .val (.bool (T (x / 13) (x % 13)))
@[simp] theorem len_tab (T : Nat → Nat → Bool) : (tabL T).length = 169 := by simp [tabL]
@[simp] theorem plain_tab (T : Nat → Nat → Bool) : (tabL T).all TV.plain = true := by simp [tabL]
@[simp] theorem pc_tab (T : Nat → Nat → Bool) : (tabL T).all TV.pc = true := by simp [tabL]
theorem noHL_vals : ∀ (l : List TV), (∀ t ∈ l, ∃ v, t = .val (.bool v)) → noHL l = true
  | [], _ => by simp
  | t :: l, h => by
    obtain ⟨v, rfl⟩ := h t (by simp)
    simp [noHL_vals l fun t ht => h t (by simp [ht])]
theorem vals_tab {T : Nat → Nat → Bool} : ∀ t ∈ tabL T, ∃ v, t = .val (.bool v) := by
  intro t ht; simp only [tabL, List.mem_map] at ht; obtain ⟨x, _, rfl⟩ := ht; exact ⟨_, rfl⟩
@[simp] theorem noH_tab (T : Nat → Nat → Bool) : noHL (tabL T) = true := noHL_vals _ vals_tab
theorem closeL_vals {H : Nat → Option TV} : ∀ (l : List TV), (∀ t ∈ l, ∃ v, t = .val (.bool v)) → closeL H l = some (l, H)
  | [], _ => by simp
  | t :: l, h => by
    obtain ⟨v, rfl⟩ := h t (by simp)
    simp [closeL_vals l fun t ht => h t (by simp [ht])]
@[simp] theorem closeL_tab {H : Nat → Option TV} (T : Nat → Nat → Bool) : closeL H (tabL T) = some (tabL T, H) := closeL_vals _ vals_tab
theorem opnL_vals {k : Nat} : ∀ (l : List TV), (∀ t ∈ l, ∃ v, t = .val (.bool v)) → opnL k l = (l, [])
  | [], _ => by simp
  | t :: l, h => by
    obtain ⟨v, rfl⟩ := h t (by simp)
    simp [opnL_vals l fun t ht => h t (by simp [ht])]
@[simp] theorem opnL_tab {k : Nat} (T : Nat → Nat → Bool) : opnL k (tabL T) = (tabL T, []) := opnL_vals _ vals_tab
@[simp] theorem take_tab (T : Nat → Nat → Bool) : (tabL T).take 169 = tabL T := List.take_of_length_le (by simp)
@[simp] theorem drop_tab (T : Nat → Nat → Bool) : (tabL T).drop 169 = [] := List.drop_eq_nil_of_le (by simp)
theorem get_tab {T : Nat → Nat → Bool} {i j : Nat} (hi : i < 13) (hj : j < 13) : (tabL T)[i * 13 + j]? = some (.val (.bool (T i j))) := by
  have h1 : (i * 13 + j) / 13 = i := by omega
  have h2 : (i * 13 + j) % 13 = j := by omega
  simp [tabL, List.getElem?_range (show i * 13 + j < 169 by omega), h1, h2]
theorem cut_tab {T : Nat → Nat → Bool} {i j : Nat} (hi : i < 13) (hj : j < 13) : ((tabL T).drop (i * 13 + j)).take 1 = [.val (.bool (T i j))] := by
  have h := get_tab (T := T) hi hj
  have hl : i * 13 + j < (tabL T).length := by simp; omega
  rw [List.drop_eq_getElem_cons hl]
  rw [List.getElem?_eq_getElem hl] at h
  rw [List.take_succ_cons, List.take_zero, Option.some.inj h]
def updT (T : Nat → Nat → Bool) (i j : Nat) (b : Bool) : Nat → Nat → Bool := fun x y => if x = i ∧ y = j then b else T x y
theorem set_tab {T : Nat → Nat → Bool} {i j : Nat} (hi : i < 13) (hj : j < 13) (b : Bool) : (tabL T).take (i * 13 + j) ++ .val (.bool b) :: (tabL T).drop (i * 13 + j + 1) = tabL (updT T i j b) := by
  apply List.ext_getElem?
  intro x
  by_cases hx : x < 169
  · have ex : (tabL (updT T i j b))[x]? = some (.val (.bool (updT T i j b (x / 13) (x % 13)))) := by
      simp [tabL, List.getElem?_range hx]
    have et : (tabL T)[x]? = some (.val (.bool (T (x / 13) (x % 13)))) := by
      simp [tabL, List.getElem?_range hx]
    rw [ex]
    rcases Nat.lt_trichotomy x (i * 13 + j) with h | h | h
    · rw [List.getElem?_append_left (by simp; omega), List.getElem?_take_of_lt h, et]
      have : ¬ (x / 13 = i ∧ x % 13 = j) := by omega
      simp [updT, this]
    · subst h
      rw [List.getElem?_append_right (by simp; omega)]
      have h1 : (i * 13 + j) / 13 = i := by omega
      have h2 : (i * 13 + j) % 13 = j := by omega
      have h3 : i * 13 + j - ((tabL T).take (i * 13 + j)).length = 0 := by simp; omega
      rw [h3]; simp [updT, h1, h2]
    · rw [List.getElem?_append_right (by simp; omega)]
      have h3 : x - ((tabL T).take (i * 13 + j)).length = (x - (i * 13 + j + 1)) + 1 := by simp; omega
      rw [h3, List.getElem?_cons_succ, List.getElem?_drop, show i * 13 + j + 1 + (x - (i * 13 + j + 1)) = x by omega, et]
      have : ¬ (x / 13 = i ∧ x % 13 = j) := by omega
      simp [updT, this]
  · rw [List.getElem?_eq_none (by simp; omega), List.getElem?_eq_none (by simp; omega)]
theorem zero_tab : List.replicate 169 (TV.val (.bool false)) = tabL fun _ _ => false := by
  apply List.ext_getElem?
  intro x
  by_cases hx : x < 169
  · rw [List.getElem?_replicate, if_pos hx]
    simp only [tabL, List.getElem?_map, List.getElem?_range hx]
    rfl
  · rw [List.getElem?_eq_none (by rw [List.length_replicate]; omega), List.getElem?_eq_none (by simp; omega)]
theorem zero_tab2 : List.replicate 338 (TV.val (.bool false)) = tabL (fun _ _ => false) ++ tabL fun _ _ => false := by
  rw [← zero_tab, List.replicate_append_replicate]
theorem tab_congr {T T' : Nat → Nat → Bool} (h : ∀ i j, i < 13 → j < 13 → T i j = T' i j) : tabL T = tabL T' := by
  unfold tabL
  apply List.map_congr_left
  intro x hx
  rw [h _ _ (by have := List.mem_range.1 hx; omega) (by omega)]
@[simp] theorem pc_tab2 (A B : Nat → Nat → Bool) : (tabL A ++ tabL B).all TV.pc = true := by rw [List.all_append, pc_tab, pc_tab]; rfl
@[simp] theorem plain_tab2 (A B : Nat → Nat → Bool) : (tabL A ++ tabL B).all TV.plain = true := by rw [List.all_append, plain_tab, plain_tab]; rfl
theorem two_fst (A B : Nat → Nat → Bool) : (tabL A ++ tabL B).take 169 = tabL A := by rw [List.take_append_of_le_length (by simp), take_tab]
theorem two_snd (A B : Nat → Nat → Bool) : ((tabL A ++ tabL B).drop 169).take 169 = tabL B := by
  rw [List.drop_append_of_le_length (by simp), List.drop_eq_nil_of_le (by simp), List.nil_append, take_tab]
theorem two_set0 (A B X : Nat → Nat → Bool) : tabL X ++ (tabL A ++ tabL B).drop 169 = tabL X ++ tabL B := by
  rw [List.drop_append_of_le_length (by simp), List.drop_eq_nil_of_le (by simp), List.nil_append]
theorem two_set1 (A B X : Nat → Nat → Bool) : (tabL A ++ tabL B).take 169 ++ (tabL X ++ (tabL A ++ tabL B).drop 338) = tabL A ++ tabL X := by
  rw [two_fst, List.drop_eq_nil_of_le (by simp), List.append_nil]
/-- Plain law: the first piece of any number of such. -/
def piece (t : List UInt8) (i j : Nat) : List UInt8 := (t.take j).drop i
def tabF (f : List UInt8 → Bool) (t : List UInt8) (i j : Nat) : Bool := decide (i ≤ j ∧ j ≤ t.length) && f (piece t i j)
end Go.Proofs.Ytfcdcgbpdinpnaa.R

open Go Go.Proofs.Ytfcdcgbpdinpnaa.T
namespace Go.Proofs.Ytfcdcgbpdinpnaa.R
set_option maxHeartbeats 4000000
set_option maxRecDepth 100000
set_option linter.unusedSimpArgs false
set_option linter.unusedVariables false
theorem ne_some {H : Nat → Option TV} {i j : Nat} (h : (H i).isSome = true) (h' : H j = none) : ¬ i = j := fun e => by rw [e, h'] at h; cases h
def tabS (G : List UInt8 → Bool) (t : List UInt8) (q i0 : Nat) (x y : Nat) : Bool := decide (x ≤ y ∧ y ≤ t.length ∧ (y - x < q ∨ (y - x = q ∧ x < i0))) && G (piece t x y)
def noT : Nat → Nat → Bool := fun _ _ => false
theorem tabS_zero {G : List UInt8 → Bool} {t : List UInt8} : tabL (fun _ _ => false) = tabL (tabS G t 0 0) := tab_congr fun i j _ _ => by simp [tabS]
theorem tabS_next {G : List UInt8 → Bool} {t : List UInt8} {q i : Nat} (h : t.length < i + q) : tabL (tabS G t q i) = tabL (tabS G t (q + 1) 0) := tab_congr fun x y _ _ => by
  unfold tabS
  congr 1
  rw [decide_eq_decide]; omega
theorem tabS_all {G : List UInt8 → Bool} {t : List UInt8} {q : Nat} (h : t.length < q) : tabL (tabS G t q 0) = tabL (tabF G t) := tab_congr fun x y _ _ => by
  unfold tabS tabF
  congr 1
  rw [decide_eq_decide]; omega
theorem tabS_set {G : List UInt8 → Bool} {t : List UInt8} {q i : Nat} (h : i + q ≤ t.length) : updT (tabS G t q i) i (i + q) (G (piece t i (i + q))) = tabS G t q (i + 1) := by
  funext x y
  unfold updT
  by_cases e : x = i ∧ y = i + q
  · obtain ⟨rfl, rfl⟩ := e
    rw [if_pos ⟨rfl, rfl⟩, tabS, show decide _ = true from decide_eq_true (by omega)]; rfl
  · rw [if_neg e]
    unfold tabS
    congr 1
    rw [decide_eq_decide]; omega
theorem tabF_at {f : List UInt8 → Bool} {t : List UInt8} {i j : Nat} (h : i ≤ j) (h' : j ≤ t.length) : tabF f t i j = f (piece t i j) := by simp [tabF, h, h']
theorem tabS_at {G : List UInt8 → Bool} {t : List UInt8} {q i x y : Nat} (h : x ≤ y) (h' : y ≤ t.length) (h2 : y - x < q) : tabS G t q i x y = G (piece t x y) := by simp [tabS, h, h', h2]
def catP (fa fb : List UInt8 → Bool) (t : List UInt8) (i q o : Nat) : Bool := (List.range o).any fun x => fa (piece t i (i + x)) && fb (piece t (i + x) (i + q))
theorem catP_succ {fa fb : List UInt8 → Bool} {t : List UInt8} {i q o : Nat} : catP fa fb t i q (o + 1) = (catP fa fb t i q o || (fa (piece t i (i + o)) && fb (piece t (i + o) (i + q)))) := by
  simp [catP, List.range_succ]
theorem piece_take {t : List UInt8} {i q x : Nat} (h : x ≤ q) : (piece t i (i + q)).take x = piece t i (i + x) := by
  simp only [piece, List.drop_take, List.take_take]
  congr 1; omega
theorem piece_drop {t : List UInt8} {i q x : Nat} : (piece t i (i + q)).drop x = piece t (i + x) (i + q) := by
  simp only [piece, List.drop_drop]
theorem catP_all {fa fb : List UInt8 → Bool} {t : List UInt8} {i q : Nat} (h : i + q ≤ t.length) : catP fa fb t i q (q + 1) = catF fa fb (piece t i (i + q)) 0 := by
  have hl : (piece t i (i + q)).length = q := by simp [piece]; omega
  unfold catP catF
  rw [hl, Nat.sub_zero, ← List.range_eq_range']
  rw [Bool.eq_iff_iff, List.any_eq_true, List.any_eq_true]
  constructor
  · rintro ⟨x, hx, h1⟩
    have := List.mem_range.1 hx
    exact ⟨x, hx, by rw [piece_take (by omega), piece_drop]; exact h1⟩
  · rintro ⟨x, hx, h1⟩
    have := List.mem_range.1 hx
    exact ⟨x, hx, by rw [piece_take (by omega), piece_drop] at h1; exact h1⟩
def starP (f : List UInt8 → Bool) (t : List UInt8) (i q o : Nat) : Bool := decide (q = 0) || (List.range o).any fun x => f (piece t i (i + 1 + x)) && starF f (piece t (i + 1 + x) (i + q))
theorem starP_succ {f : List UInt8 → Bool} {t : List UInt8} {i q o : Nat} : starP f t i q (o + 1) = (starP f t i q o || (f (piece t i (i + 1 + o)) && starF f (piece t (i + 1 + o) (i + q)))) := by
  simp [starP, List.range_succ, Bool.or_assoc]
theorem starP_all {f : List UInt8 → Bool} {t : List UInt8} {i q : Nat} (h : i + q ≤ t.length) : starP f t i q q = starF f (piece t i (i + q)) := by
  have hl : (piece t i (i + q)).length = q := by simp [piece]; omega
  rw [starF_first, hl]
  unfold starP
  congr 1
  rw [Bool.eq_iff_iff, List.any_eq_true, List.any_eq_true]
  constructor
  · rintro ⟨x, hx, h1⟩
    have := List.mem_range.1 hx
    exact ⟨x, hx, by rw [piece_take (by omega), piece_drop, show i + (x + 1) = i + 1 + x by omega]; exact h1⟩
  · rintro ⟨x, hx, h1⟩
    have := List.mem_range.1 hx
    exact ⟨x, hx, by rw [piece_take (by omega), piece_drop, show i + (x + 1) = i + 1 + x by omega] at h1; exact h1⟩
end Go.Proofs.Ytfcdcgbpdinpnaa.R

open Go Go.Proofs.Ytfcdcgbpdinpnaa.T
namespace Go.Proofs.Ytfcdcgbpdinpnaa.R
set_option maxHeartbeats 4000000
set_option maxRecDepth 100000
set_option linter.unusedSimpArgs false
set_option linter.unusedVariables false
theorem row0 {T : Nat → Nat → Bool} {j : Nat} (hj : j < 13) : ((tabL T).take 13)[j]? = some (.val (.bool (T 0 j))) := by
  rw [List.getElem?_take_of_lt hj]
  have := get_tab (T := T) (i := 0) (by omega) hj
  rwa [Nat.zero_mul, Nat.zero_add] at this
theorem row0' {T : Nat → Nat → Bool} {j : Nat} (hj : j < 13) : (tabL T)[j]? = some (.val (.bool (T 0 j))) := by
  have := get_tab (T := T) (i := 0) (by omega) hj
  rwa [Nat.zero_mul, Nat.zero_add] at this
def matchIs (r : Rex) (t : List UInt8) : Bool := rexOk r && decide (t.length ≤ 12) && isF 8 r t
end Go.Proofs.Ytfcdcgbpdinpnaa.R

open Go Go.Proofs.Ytfcdcgbpdinpnaa.T
namespace Go.Proofs.Ytfcdcgbpdinpnaa.R
set_option maxHeartbeats 4000000
set_option maxRecDepth 100000
set_option linter.unusedSimpArgs false
set_option linter.unusedVariables false
/-- The longest piece from a place on, of at most k - 1 bytes. -/
def longF (G : List UInt8 → Bool) (t : List UInt8) (p : Nat) : Nat → Int
  | 0 => -1
  | k + 1 => if G (piece t p (p + k)) = true then (k : Int) else longF G t p k
def matchLong (r : Rex) (t : List UInt8) (p : Nat) : Int := longF (isF 8 r) t p (t.length - p + 1)
theorem longF_le {G : List UInt8 → Bool} {t : List UInt8} {p : Nat} : ∀ k : Nat, longF G t p k < k ∧ -1 ≤ longF G t p k
  | 0 => by simp [longF]
  | k + 1 => by
    unfold longF
    have := longF_le (G := G) (t := t) (p := p) k
    split <;> omega
theorem rexOk_form {r : Rex} (h : rexOk r = true) : formF 8 r = true := by simp only [rexOk, Bool.and_eq_true] at h; exact h.1
end Go.Proofs.Ytfcdcgbpdinpnaa.R

open Go Go.Proofs.Ytfcdcgbpdinpnaa.T
namespace Go.Proofs.Ytfcdcgbpdinpnaa.R
set_option maxHeartbeats 4000000
set_option maxRecDepth 100000
set_option linter.unusedSimpArgs false
set_option linter.unusedVariables false
def bestGo (t : List UInt8) (p : Nat) : List Rule → Nat → Int → Nat → Int × Nat
  | [], _, b, m => (b, m)
  | r :: l, i, b, m => if (m : Int) < matchLong r.rex t p then bestGo t p l (i + 1) i (matchLong r.rex t p).toNat else bestGo t p l (i + 1) b m
def bestF (l : List Rule) (t : List UInt8) (p : Nat) : Int × Nat := bestGo t p l 0 (-1) 0
theorem bestGo_drop {t : List UInt8} {p : Nat} {l : List Rule} {i : Nat} (hi : i < l.length) (b : Int) (m : Nat) : bestGo t p (l.drop i) i b m = if (m : Int) < matchLong l[i].rex t p then bestGo t p (l.drop (i + 1)) (i + 1) i (matchLong l[i].rex t p).toNat else bestGo t p (l.drop (i + 1)) (i + 1) b m := by
  conv => lhs; rw [List.drop_eq_getElem_cons hi]
  rw [bestGo]
theorem matchLong_le {r : Rex} {t : List UInt8} {p : Nat} (hp : p ≤ t.length) : matchLong r t p ≤ ((t.length - p : Nat) : Int) := by
  have := (longF_le (G := isF 8 r) (t := t) (p := p) (t.length - p + 1)).1
  unfold matchLong; omega
theorem bestGo_ok {t : List UInt8} {p : Nat} (hp : p ≤ t.length) : ∀ (l : List Rule) (i : Nat) (b : Int) (m : Nat), (0 ≤ b → 0 < m) → p + m ≤ t.length → (0 ≤ (bestGo t p l i b m).1 → 0 < (bestGo t p l i b m).2) ∧ p + (bestGo t p l i b m).2 ≤ t.length
  | [], i, b, m, h, h' => ⟨h, h'⟩
  | r :: l, i, b, m, h, h' => by
    unfold bestGo
    have := matchLong_le (r := r.rex) hp
    split
    · exact bestGo_ok hp l _ _ _ (fun _ => by omega) (by omega)
    · exact bestGo_ok hp l _ _ _ h h'
theorem bestF_ok {l : List Rule} {t : List UInt8} {p : Nat} (hp : p ≤ t.length) : (0 ≤ (bestF l t p).1 → 0 < (bestF l t p).2) ∧ p + (bestF l t p).2 ≤ t.length := bestGo_ok hp l 0 (-1) 0 (by omega) (by omega)
theorem rulesOk_rex {l : List Rule} (h : rulesOk l = true) {i : Nat} (hi : i < l.length) : rexOk l[i].rex = true := by
  simp only [rulesOk, okFrom, Bool.and_eq_true, List.all_eq_true, List.mem_range'_1] at h
  have h1 := h.2 i (by omega)
  simp only [ruleAt, getI hi, Bool.and_eq_true] at h1
  exact h1.1.2
attribute [local simp] bsV bsRows chunk fillT partsT appV makeV rowsOf cellsOf placeOf
abbrev Tok := Int × Int × Int
def encTok (x : Tok) : List TV := [.val (.int .i64 x.1), .val (.int .i64 x.2.1), .val (.int .i64 x.2.2)]
@[simp] theorem len_tok (r : Tok) : (encTok r).length = 3 := by simp [encTok]
@[simp] theorem take_tok (r : Tok) : (encTok r).take 3 = encTok r := by simp [encTok]
@[simp] theorem plain_tok (r : Tok) : (encTok r).all TV.plain = true := by simp [encTok]
@[simp] theorem pc_tok (r : Tok) : (encTok r).all TV.pc = true := by simp [encTok]
@[simp] theorem noH_tok (r : Tok) : noHL (encTok r) = true := by simp [encTok]
@[simp] theorem argTL_tok {H : Nat → Option TV} {ρ : List Nat} (r : Tok) : argTL H ρ (encTok r) = some (encTok r) := by simp [encTok]
@[simp] theorem views_tok {ρ : List Nat} (r : Tok) : (encTok r).flatMap (views1 ρ) = [] := by simp [encTok]
@[simp] theorem opnL_tok {k : Nat} (r : Tok) : opnL k (encTok r) = (encTok r, []) := by simp [encTok]
@[simp] theorem closeL_tok {H : Nat → Option TV} (r : Tok) : closeL H (encTok r) = some (encTok r, H) := by simp [encTok]
@[simp] theorem noHR_tok (s : List Tok) : noHR (s.map encTok) = true := by induction s <;> simp [encTok, *]
@[simp] theorem roL_tok (s : Tok) : roL (encTok s) = encTok s := by simp [encTok]
@[simp] theorem roRows_tok (l : List Tok) : roRows (l.map encTok) = l.map encTok := by induction l <;> simp [*]
@[simp] theorem noRoR_tok (l : List Tok) : noRoR (l.map encTok) = true := by induction l <;> simp [encTok, *]
def toksF (l : List Rule) (t : List UInt8) (p : Nat) : List Tok × Nat :=
  if h : p < t.length ∧ 0 ≤ (bestF l t p).1 ∧ 0 < (bestF l t p).2 then
    (((bestF l t p).1, (p : Int), ((p + (bestF l t p).2 : Nat) : Int)) :: (toksF l t (p + (bestF l t p).2)).1, (toksF l t (p + (bestF l t p).2)).2)
  else ([], p)
termination_by t.length - p
theorem toksF_end {l : List Rule} {t : List UInt8} {p : Nat} (h : ¬ (p < t.length ∧ 0 ≤ (bestF l t p).1 ∧ 0 < (bestF l t p).2)) : toksF l t p = ([], p) := by
  rw [toksF, dif_neg h]
theorem toksF_next {l : List Rule} {t : List UInt8} {p : Nat} (h : p < t.length) (h1 : 0 ≤ (bestF l t p).1) (h2 : 0 < (bestF l t p).2) : toksF l t p =
    (((bestF l t p).1, (p : Int), ((p + (bestF l t p).2 : Nat) : Int)) :: (toksF l t (p + (bestF l t p).2)).1, (toksF l t (p + (bestF l t p).2)).2) := by
  rw [toksF, dif_pos ⟨h, h1, h2⟩]
def lexMeans (l : List Rule) (t : List UInt8) : List Tok × Nat := if rulesOk l = true ∧ t.length ≤ 12 then toksF l t 0 else ([], 0)
end Go.Proofs.Ytfcdcgbpdinpnaa.R

open Go Go.Proofs.Ytfcdcgbpdinpnaa.T
namespace Go.Proofs.Ytfcdcgbpdinpnaa.R
set_option maxHeartbeats 4000000
set_option maxRecDepth 100000
set_option linter.unusedSimpArgs false
set_option linter.unusedVariables false
attribute [local simp] bsV bsRows chunk fillT partsT appV makeV rowsOf cellsOf placeOf
/-- One list as far as i, another from there on. -/
def mix {α : Type _} (A B : List α) (i : Nat) : List α := A.take i ++ B.drop i
section
variable {α : Type _} {A B : List α} {i : Nat}
@[simp] theorem mix_zero : mix A B 0 = B := by simp [mix]
@[simp] theorem mix_len (h : A.length = B.length) (hi : i ≤ B.length) : (mix A B i).length = B.length := by simp [mix]; omega
theorem mix_all (h : A.length = B.length) (hi : B.length ≤ i) : mix A B i = A := by
  unfold mix; rw [List.take_of_length_le (by omega), List.drop_eq_nil_of_le hi, List.append_nil]
theorem mix_at (h : A.length = B.length) (hi : i < B.length) : (mix A B i)[i]? = some B[i] := by
  unfold mix
  rw [List.getElem?_append_right (by simp; omega)]
  simp [List.getElem?_drop, Nat.min_eq_left (show i ≤ A.length by omega)]
theorem mix_at' (h : A.length = B.length) (hi : i < B.length) (hh : i < (mix A B i).length) : (mix A B i)[i] = B[i] := by
  have := mix_at h hi
  rw [List.getElem?_eq_getElem hh] at this
  exact Option.some.inj this
theorem mix_set (h : A.length = B.length) (hi : i < B.length) {x : α} (hx : A[i]? = some x) : (mix A B i).set i x = mix A B (i + 1) := by
  apply List.ext_getElem?
  intro j
  unfold mix
  rw [List.getElem?_set]
  by_cases e : i = j
  · subst e
    rw [if_pos rfl, if_pos (by simp; omega), List.getElem?_append_left (by simp; omega)]
    simp [List.getElem?_take, hx]
  · rw [if_neg e]
    by_cases h' : j < i
    · rw [List.getElem?_append_left (by simp; omega), List.getElem?_append_left (by simp; omega)]
      simp [List.getElem?_take, h', show j < i + 1 by omega]
    · rw [List.getElem?_append_right (by simp; omega), List.getElem?_append_right (by simp; omega)]
      simp [List.getElem?_drop]
      congr 1; omega
end
def mkTok (k : Int) (i : Nat) : Tok := (k + 3 * i, k + 3 * i + 1, k + 3 * i + 2)
def mkToks (k : Int) (n : Nat) : List Tok := (List.range n).map (mkTok k)
@[simp] theorem mkToks_len (k : Int) (n : Nat) : (mkToks k n).length = n := by simp [mkToks]
theorem mkToks_at {k : Int} {n i : Nat} (h : i < n) : (mkToks k n)[i]? = some (mkTok k i) := by simp [mkToks, h]
/-- Spans are marked: how they read then does not matter. -/
theorem tcr_markSpanS (l : List (Int × Int)) (k : Int) (h0 : 0 ≤ k) (hk : k + 2 * l.length ≤ 1152921504606846976) : TCR Try.prog 53 [.hd 0, .val (.int .i64 k)] [.own 42 (l.map encS)] (fun r o => r = .val (.int .i64 (k + 2 * l.length)) ∧ ∃ l' : List (Int × Int), o = [.own 42 (l'.map encS)]) := by
  refine TCR.enter Try.func53 rfl (by simp [Try.ntmps53]) rfl (tw_sound (ρ := []) ?_)
  rw [Try.ntmps53]
  simp
  refine TWcH.loop [] (fun m s => ∃ (i : Nat) (l' : List (Int × Int)), i + m = l.length ∧ l'.length = l.length ∧ s.σ 0 = .hd 0 ∧ s.σ 1 = .val (.int .i64 (k + 2 * i)) ∧ s.σ 5 = .val (.int .i64 i) ∧ s.H 0 = some (.own 42 (l'.map encS))) l.length ⟨0, l, by simp⟩ ?_
  rintro m ⟨σ, H⟩ ⟨i, l', him, hl', g0, g1, g5, gH⟩
  simp only at g0 g1 g5 gH
  by_cases hi : i < l.length
  · have hw : IntKind.i64.wrap ((i : Int) + 1) = i + 1 := wrapi (by omega)
    have e1 : IntKind.i64.wrap (k + 2 * i + 1) = k + 2 * i + 1 := wrapi (by omega)
    have e2 : IntKind.i64.wrap (k + 2 * i + 1 + 1) = k + 2 * i + 2 := by rw [wrapi (by omega)]; omega
    have hi' : i < l'.length := by omega
    simp [g0, g1, g5, gH, hi, hi', hl', hw, e1, e2, encS]
    exact ⟨m - 1, by omega, i + 1, by omega, l'.set i (k + 2 * i, k + 2 * i + 1), by simp [hl'], by omega, by omega, by rw [List.map_set]; simp [encS]⟩
  · obtain rfl : i = l.length := by omega
    simp [g0, g1, g5, gH, hl']
    exact ⟨_, _, ⟨rfl, rfl⟩, by simp, by simp [gH], rfl, l', by simp [gH]⟩
end Go.Proofs.Ytfcdcgbpdinpnaa.R

open Go Go.Proofs.Ytfcdcgbpdinpnaa.T
namespace Go.Proofs.Ytfcdcgbpdinpnaa.R
set_option maxHeartbeats 4000000
set_option maxRecDepth 100000
set_option linter.unusedSimpArgs false
set_option linter.unusedVariables false
attribute [local simp] bsV bsRows chunk fillT partsT appV makeV rowsOf cellsOf placeOf
@[simp] theorem noRoR_S (l : List (Int × Int)) : noRoR (l.map encS) = true := by induction l <;> simp [encS, *]
end Go.Proofs.Ytfcdcgbpdinpnaa.R

open Go Go.Proofs.Ytfcdcgbpdinpnaa.T
namespace Go.Proofs.Ytfcdcgbpdinpnaa.R
set_option maxHeartbeats 4000000
set_option maxRecDepth 100000
set_option linter.unusedSimpArgs false
set_option linter.unusedVariables false
attribute [local simp] bsV bsRows chunk fillT partsT appV makeV rowsOf cellsOf placeOf
@[simp] theorem noRo_S (r : Int × Int) : noRoL (encS r) = true := by simp [encS]
theorem fresh_ne {H : Nat → Option TV} {i k j : Nat} (hk : ∀ j, k ≤ j → H j = none) (hi : (H i).isSome = true) (hj : k ≤ j) : ¬ i = j := fun e => by rw [e, hk j hj] at hi; cases hi
def encI (x : Int) : List TV := [.val (.int .i64 x)]

def encP (s : List (Int × Int)) : List TV := [.ro (s.map encS)]
def encR (r : List Int) : List TV := [.ro (r.map encI)]
@[simp] theorem len_encI (r : Int) : (encI r).length = 1 := by simp [encI]
@[simp] theorem take_encI (r : Int) : (encI r).take 1 = encI r := by simp [encI]
@[simp] theorem plain_encI (r : Int) : (encI r).all TV.plain = true := by simp [encI]
@[simp] theorem pc_encI (r : Int) : (encI r).all TV.pc = true := by simp [encI, TV.pc, TV.cell, Value.oneCell']
@[simp] theorem noH_encI (r : Int) : noHL (encI r) = true := by simp [encI]
@[simp] theorem argTL_encI {H : Nat → Option TV} {ρ : List Nat} (r : Int) : argTL H ρ (encI r) = some (encI r) := by simp [encI]
@[simp] theorem views_encI {ρ : List Nat} (r : Int) : (encI r).flatMap (views1 ρ) = [] := by simp [encI]
@[simp] theorem opnL_encI {k : Nat} (r : Int) : opnL k (encI r) = (encI r, []) := by simp [encI]
@[simp] theorem closeL_encI {H : Nat → Option TV} (r : Int) : closeL H (encI r) = some (encI r, H) := by simp [encI]
@[simp] theorem roL_encI (r : Int) : roL (encI r) = encI r := by simp [encI]
@[simp] theorem noHR_encI (l : List Int) : noHR (l.map encI) = true := by induction l <;> simp [*]
@[simp] theorem roRows_encI (l : List Int) : roRows (l.map encI) = l.map encI := by induction l <;> simp [*]
@[simp] theorem noRo_encI (r : Int) : noRoL (encI r) = true := by simp [encI]
@[simp] theorem noRoR_encI (l : List Int) : noRoR (l.map encI) = true := by induction l <;> simp [*]
theorem rl_encI (l : List Int) : ∀ r ∈ l.map encI, r.length = 1 := by
  intro r hr
  obtain ⟨x, _, rfl⟩ := List.mem_map.1 hr
  simp
@[simp] theorem len_encB (r : Bool) : (encB r).length = 1 := by simp [encB]
@[simp] theorem take_encB (r : Bool) : (encB r).take 1 = encB r := by simp [encB]
@[simp] theorem plain_encB (r : Bool) : (encB r).all TV.plain = true := by simp [encB]
@[simp] theorem pc_encB (r : Bool) : (encB r).all TV.pc = true := by simp [encB, TV.pc, TV.cell, Value.oneCell']
@[simp] theorem noH_encB (r : Bool) : noHL (encB r) = true := by simp [encB]
@[simp] theorem argTL_encB {H : Nat → Option TV} {ρ : List Nat} (r : Bool) : argTL H ρ (encB r) = some (encB r) := by simp [encB]
@[simp] theorem views_encB {ρ : List Nat} (r : Bool) : (encB r).flatMap (views1 ρ) = [] := by simp [encB]
@[simp] theorem opnL_encB {k : Nat} (r : Bool) : opnL k (encB r) = (encB r, []) := by simp [encB]
@[simp] theorem closeL_encB {H : Nat → Option TV} (r : Bool) : closeL H (encB r) = some (encB r, H) := by simp [encB]
@[simp] theorem roL_encB (r : Bool) : roL (encB r) = encB r := by simp [encB]
@[simp] theorem noHR_encB (l : List Bool) : noHR (l.map encB) = true := by induction l <;> simp [*]
@[simp] theorem roRows_encB (l : List Bool) : roRows (l.map encB) = l.map encB := by induction l <;> simp [*]
@[simp] theorem noRo_encB (r : Bool) : noRoL (encB r) = true := by simp [encB]
@[simp] theorem noRoR_encB (l : List Bool) : noRoR (l.map encB) = true := by induction l <;> simp [*]
theorem rl_encB (l : List Bool) : ∀ r ∈ l.map encB, r.length = 1 := by
  intro r hr
  obtain ⟨x, _, rfl⟩ := List.mem_map.1 hr
  simp
@[simp] theorem len_encP (r : List (Int × Int)) : (encP r).length = 1 := by simp [encP]
@[simp] theorem take_encP (r : List (Int × Int)) : (encP r).take 1 = encP r := by simp [encP]
@[simp] theorem plain_encP (r : List (Int × Int)) : (encP r).all TV.plain = true := by simp [encP]
@[simp] theorem pc_encP (r : List (Int × Int)) : (encP r).all TV.pc = true := by simp [encP, TV.pc, TV.cell, Value.oneCell']
@[simp] theorem noH_encP (r : List (Int × Int)) : noHL (encP r) = true := by simp [encP]
@[simp] theorem argTL_encP {H : Nat → Option TV} {ρ : List Nat} (r : List (Int × Int)) : argTL H ρ (encP r) = some (encP r) := by simp [encP]
@[simp] theorem views_encP {ρ : List Nat} (r : List (Int × Int)) : (encP r).flatMap (views1 ρ) = [] := by simp [encP]
@[simp] theorem opnL_encP {k : Nat} (r : List (Int × Int)) : opnL k (encP r) = (encP r, []) := by simp [encP]
@[simp] theorem closeL_encP {H : Nat → Option TV} (r : List (Int × Int)) : closeL H (encP r) = some (encP r, H) := by simp [encP]
@[simp] theorem roL_encP (r : List (Int × Int)) : roL (encP r) = encP r := by simp [encP]
@[simp] theorem noHR_encP (l : List (List (Int × Int))) : noHR (l.map encP) = true := by induction l <;> simp [*]
@[simp] theorem roRows_encP (l : List (List (Int × Int))) : roRows (l.map encP) = l.map encP := by induction l <;> simp [*]
theorem rl_encP (l : List (List (Int × Int))) : ∀ r ∈ l.map encP, r.length = 1 := by
  intro r hr
  obtain ⟨x, _, rfl⟩ := List.mem_map.1 hr
  simp
@[simp] theorem len_encR (r : List Int) : (encR r).length = 1 := by simp [encR]
@[simp] theorem take_encR (r : List Int) : (encR r).take 1 = encR r := by simp [encR]
@[simp] theorem plain_encR (r : List Int) : (encR r).all TV.plain = true := by simp [encR]
@[simp] theorem pc_encR (r : List Int) : (encR r).all TV.pc = true := by simp [encR, TV.pc, TV.cell, Value.oneCell']
@[simp] theorem noH_encR (r : List Int) : noHL (encR r) = true := by simp [encR]
@[simp] theorem argTL_encR {H : Nat → Option TV} {ρ : List Nat} (r : List Int) : argTL H ρ (encR r) = some (encR r) := by simp [encR]
@[simp] theorem views_encR {ρ : List Nat} (r : List Int) : (encR r).flatMap (views1 ρ) = [] := by simp [encR]
@[simp] theorem opnL_encR {k : Nat} (r : List Int) : opnL k (encR r) = (encR r, []) := by simp [encR]
@[simp] theorem closeL_encR {H : Nat → Option TV} (r : List Int) : closeL H (encR r) = some (encR r, H) := by simp [encR]
@[simp] theorem roL_encR (r : List Int) : roL (encR r) = encR r := by simp [encR]
@[simp] theorem noHR_encR (l : List (List Int)) : noHR (l.map encR) = true := by induction l <;> simp [*]
@[simp] theorem roRows_encR (l : List (List Int)) : roRows (l.map encR) = l.map encR := by induction l <;> simp [*]
theorem rl_encR (l : List (List Int)) : ∀ r ∈ l.map encR, r.length = 1 := by
  intro r hr
  obtain ⟨x, _, rfl⟩ := List.mem_map.1 hr
  simp
def oP (s : List (Int × Int)) : List TV := [.own 42 (s.map encS)]
def oR (r : List Int) : List TV := [.own 3 (r.map encI)]
@[simp] theorem len_oP (r : List (Int × Int)) : (oP r).length = 1 := by simp [oP]
@[simp] theorem noH_oP (r : List (Int × Int)) : noHL (oP r) = true := by simp [oP]
@[simp] theorem noRo_oP (r : List (Int × Int)) : noRoL (oP r) = true := by simp [oP]
@[simp] theorem roL_oP (r : List (Int × Int)) : roL (oP r) = encP r := by simp [oP, encP]
@[simp] theorem noHR_oP (l : List (List (Int × Int))) : noHR (l.map oP) = true := by induction l <;> simp [*]
@[simp] theorem noRoR_oP (l : List (List (Int × Int))) : noRoR (l.map oP) = true := by induction l <;> simp [*]
@[simp] theorem roRows_oP (l : List (List (Int × Int))) : roRows (l.map oP) = l.map encP := by induction l <;> simp [*]
@[simp] theorem len_oR (r : List Int) : (oR r).length = 1 := by simp [oR]
@[simp] theorem noH_oR (r : List Int) : noHL (oR r) = true := by simp [oR]
@[simp] theorem noRo_oR (r : List Int) : noRoL (oR r) = true := by simp [oR]
@[simp] theorem roL_oR (r : List Int) : roL (oR r) = encR r := by simp [oR, encR]
@[simp] theorem noHR_oR (l : List (List Int)) : noHR (l.map oR) = true := by induction l <;> simp [*]
@[simp] theorem noRoR_oR (l : List (List Int)) : noRoR (l.map oR) = true := by induction l <;> simp [*]
@[simp] theorem roRows_oR (l : List (List Int)) : roRows (l.map oR) = l.map encR := by induction l <;> simp [*]
structure Dfa where
  parts : List (List (Int × Int))
  rows : List (List Int)
  acc : List Int
def encDfa (d : Dfa) : List TV := [.ro (d.parts.map encP), .ro (d.rows.map encR), .ro (d.acc.map encI)]
def oDfa (d : Dfa) : List TV := [.own 43 (d.parts.map oP), .own 24 (d.rows.map oR), .own 3 (d.acc.map encI)]
@[simp] theorem len_encDfa (r : Dfa) : (encDfa r).length = 3 := by simp [encDfa]
@[simp] theorem take_encDfa (r : Dfa) : (encDfa r).take 3 = encDfa r := by simp [encDfa]
@[simp] theorem plain_encDfa (r : Dfa) : (encDfa r).all TV.plain = true := by simp [encDfa]
@[simp] theorem pc_encDfa (r : Dfa) : (encDfa r).all TV.pc = true := by simp [encDfa, TV.pc, TV.cell, Value.oneCell']
@[simp] theorem noH_encDfa (r : Dfa) : noHL (encDfa r) = true := by simp [encDfa]
@[simp] theorem argTL_encDfa {H : Nat → Option TV} {ρ : List Nat} (r : Dfa) : argTL H ρ (encDfa r) = some (encDfa r) := by simp [encDfa]
@[simp] theorem views_encDfa {ρ : List Nat} (r : Dfa) : (encDfa r).flatMap (views1 ρ) = [] := by simp [encDfa]
@[simp] theorem opnL_encDfa {k : Nat} (r : Dfa) : opnL k (encDfa r) = (encDfa r, []) := by simp [encDfa]
@[simp] theorem closeL_encDfa {H : Nat → Option TV} (r : Dfa) : closeL H (encDfa r) = some (encDfa r, H) := by simp [encDfa]
@[simp] theorem roL_encDfa (r : Dfa) : roL (encDfa r) = encDfa r := by simp [encDfa]
@[simp] theorem noHR_encDfa (l : List Dfa) : noHR (l.map encDfa) = true := by induction l <;> simp [*]
@[simp] theorem roRows_encDfa (l : List Dfa) : roRows (l.map encDfa) = l.map encDfa := by induction l <;> simp [*]
theorem rl_encDfa (l : List Dfa) : ∀ r ∈ l.map encDfa, r.length = 3 := by
  intro r hr
  obtain ⟨x, _, rfl⟩ := List.mem_map.1 hr
  simp
@[simp] theorem len_oDfa (r : Dfa) : (oDfa r).length = 3 := by simp [oDfa]
@[simp] theorem noH_oDfa (r : Dfa) : noHL (oDfa r) = true := by simp [oDfa]
@[simp] theorem noRo_oDfa (r : Dfa) : noRoL (oDfa r) = true := by simp [oDfa]
@[simp] theorem roL_oDfa (r : Dfa) : roL (oDfa r) = encDfa r := by simp [oDfa, encDfa]
@[simp] theorem noHR_oDfa (l : List Dfa) : noHR (l.map oDfa) = true := by induction l <;> simp [*]
@[simp] theorem noRoR_oDfa (l : List Dfa) : noRoR (l.map oDfa) = true := by induction l <;> simp [*]
@[simp] theorem roRows_oDfa (l : List Dfa) : roRows (l.map oDfa) = l.map encDfa := by induction l <;> simp [*]
/-- The sizes one behind the other. -/
def szLoopN : List Nat → Int → Int
  | [], a => a
  | n :: ns, a => if szN n a < 0 then -1 else szLoopN ns (szN n a)
def szSSF (ns : List Nat) (left : Int) : Int := if IntKind.i64.wrap (left - ns.length) < 0 then -1 else szLoopN ns (IntKind.i64.wrap (left - ns.length))
theorem szLoopN_drop {ns : List Nat} {i : Nat} (h : i < ns.length) (a : Int) : szLoopN (ns.drop i) a = if szN ns[i] a < 0 then -1 else szLoopN (ns.drop (i + 1)) (szN ns[i] a) := by
  conv => lhs; rw [List.drop_eq_getElem_cons h]
  rw [szLoopN]
def szDfaF (d : Dfa) (left : Int) : Int :=
  let a := szSSF (d.parts.map List.length) left
  if a < 0 then -1 else
  let b := szSSF (d.rows.map List.length) a
  if b < 0 then -1 else
  let c := szN d.acc.length b
  if c < 0 then -1 else c
theorem tc_szIntS (l : List Int) (left : Int) : TC Try.prog 13 [.ro (l.map encI), .val (.int .i64 left)] [] (.val (.int .i64 (szN l.length left))) [] := by
  refine TC.enter Try.func13 rfl (by simp [Try.ntmps13]) rfl (tw_sound (ρ := []) ?_)
  rw [Try.ntmps13]
  simp
  refine gif_intro (fun c1 => ?_) (fun c1 => ?_) <;> simp [szN, c1]
theorem tc_szSS51 (l : List (List (Int × Int))) (hl : l.length ≤ 1152921504606846976) (left : Int) : TC Try.prog 11 [.ro (l.map encP), .val (.int .i64 left)] [] (.val (.int .i64 (szSSF (l.map List.length) left))) [] := by
  refine TC.enter Try.func11 rfl (by simp [Try.ntmps11]) rfl (tw_sound (ρ := []) ?_)
  rw [Try.ntmps11]
  simp
  refine gif_intro (fun c1 => ?_) (fun c1 => ?_) <;> simp [szSSF, c1]
  refine TWcH.loop [] (fun m s => ∃ i a, i + m = l.length ∧ s.σ 0 = .ro (l.map encP) ∧ s.σ 1 = .val (.int .i64 a) ∧ s.σ 5 = .val (.int .i64 i) ∧ szLoopN (l.map List.length) (IntKind.i64.wrap (left - l.length)) = szLoopN ((l.map List.length).drop i) a) l.length ⟨0, IntKind.i64.wrap (left - l.length), by simp⟩ ?_
  rintro m ⟨σ, H⟩ ⟨i, a, him, h0, h1, h5, hh⟩
  simp only at h0 h1 h5
  by_cases hi : i < l.length
  · rw [szLoopN_drop (by simpa using hi)] at hh
    simp only [List.getElem_map] at hh
    have hw := hw1 hi hl
    simp [h0, h1, h5, getI hi, hi, encP]
    refine TWoH.callV (tc_szSpanS l[i] a) callable_35 (by simp [*]) (by simp) (by simp) (by simp [*]) ?_
    simp [h0, h1, h5, hi]
    refine gif_intro (fun c2 => ?_) (fun c2 => ?_) <;> simp [h0, h1, h5, hi, c2, hw]
    · simp [hh, c2]
    · exact ⟨m - 1, by omega, i + 1, by omega, by omega, by simp [hh, c2]⟩
  · simp [h0, h1, h5, hi]
    rw [if_neg c1, hh, List.drop_eq_nil_of_le (by simp; omega)]; rfl
theorem tc_szSS52 (l : List (List Int)) (hl : l.length ≤ 1152921504606846976) (left : Int) : TC Try.prog 12 [.ro (l.map encR), .val (.int .i64 left)] [] (.val (.int .i64 (szSSF (l.map List.length) left))) [] := by
  refine TC.enter Try.func12 rfl (by simp [Try.ntmps12]) rfl (tw_sound (ρ := []) ?_)
  rw [Try.ntmps12]
  simp
  refine gif_intro (fun c1 => ?_) (fun c1 => ?_) <;> simp [szSSF, c1]
  refine TWcH.loop [] (fun m s => ∃ i a, i + m = l.length ∧ s.σ 0 = .ro (l.map encR) ∧ s.σ 1 = .val (.int .i64 a) ∧ s.σ 5 = .val (.int .i64 i) ∧ szLoopN (l.map List.length) (IntKind.i64.wrap (left - l.length)) = szLoopN ((l.map List.length).drop i) a) l.length ⟨0, IntKind.i64.wrap (left - l.length), by simp⟩ ?_
  rintro m ⟨σ, H⟩ ⟨i, a, him, h0, h1, h5, hh⟩
  simp only at h0 h1 h5
  by_cases hi : i < l.length
  · rw [szLoopN_drop (by simpa using hi)] at hh
    simp only [List.getElem_map] at hh
    have hw := hw1 hi hl
    simp [h0, h1, h5, getI hi, hi, encR]
    refine TWoH.callV (tc_szIntS l[i] a) callable_13 (by simp [*]) (by simp) (by simp) (by simp [*]) ?_
    simp [h0, h1, h5, hi]
    refine gif_intro (fun c2 => ?_) (fun c2 => ?_) <;> simp [h0, h1, h5, hi, c2, hw]
    · simp [hh, c2]
    · exact ⟨m - 1, by omega, i + 1, by omega, by omega, by simp [hh, c2]⟩
  · simp [h0, h1, h5, hi]
    rw [if_neg c1, hh, List.drop_eq_nil_of_le (by simp; omega)]; rfl
theorem tc_szDfa (d : Dfa) (hp : d.parts.length ≤ 1152921504606846976) (hr : d.rows.length ≤ 1152921504606846976) (left : Int) : TC Try.prog 4 [.agg (encDfa d), .val (.int .i64 left)] [] (.val (.int .i64 (szDfaF d left))) [] := by
  refine TC.enter Try.func4 rfl (by simp [Try.ntmps4]) rfl (tw_sound (ρ := [2]) ?_)
  rw [Try.ntmps4]
  simp [encDfa]
  refine TWoH.callV (tc_szSS51 d.parts hp left) callable_11 (by simp) (by simp) (by simp) (by simp) ?_
  simp
  refine gif_intro (fun c1 => ?_) (fun c1 => ?_) <;> simp [szDfaF, c1]
  refine TWoH.callV (tc_szSS52 d.rows hr (szSSF (d.parts.map List.length) left)) callable_12 (by simp) (by simp) (by simp) (by simp) ?_
  simp
  refine gif_intro (fun c2 => ?_) (fun c2 => ?_) <;> simp [szDfaF, c1, c2]
  refine TWoH.callV (tc_szIntS d.acc (szSSF (d.rows.map List.length) (szSSF (d.parts.map List.length) left))) callable_13 (by simp) (by simp) (by simp) (by simp) ?_
  simp
  refine gif_intro (fun c3 => ?_) (fun c3 => ?_) <;> simp [szDfaF, c1, c2, c3]
theorem tc_toIntS (l : List Int) (hl : l.length ≤ 1048576) : TC Try.prog 21 [.ro (l.map encI)] [] (.own 3 (l.map encI)) [] := by
  refine TC.enter Try.func21 rfl (by simp [Try.ntmps21]) rfl (tw_sound (ρ := []) ?_)
  rw [Try.ntmps21]
  simp [makeV]
  rw [gif_pos (by omega)]
  refine gall_intro fun id hid => ?_
  simp
  refine TWcH.loop [] (fun m s => ∃ i, i + m = l.length ∧ s.σ 0 = .ro (l.map encI) ∧ s.σ 3 = .hd id ∧ s.σ 4 = .val (.int .i64 i) ∧ s.H id = some (.own 3 (fillR encI [.val (.int .i64 0)] l i))) l.length ⟨0, by simp⟩ ?_
  rintro m ⟨σ, H⟩ ⟨i, him, h0, h3, h4, hH⟩
  simp only at h0 h3 h4 hH
  by_cases hi : i < l.length
  · have hw := hw1 hi (by omega)
    have hset := fillR_set (enc := encI) (z := [.val (.int .i64 0)]) hi
    simp only [encI] at hset
    simp [h0, h3, h4, hH, getI hi, hi, encI, fillR_at hi, fillR_at' hi, fillR_len (Nat.le_of_lt hi), hw]
    exact ⟨m - 1, by omega, i + 1, by omega, by omega, hset⟩
  · simp [h0, h3, h4, hH, hi, fillR_all (Nat.le_of_not_lt hi)]
theorem tc_toSpanSS (l : List (List (Int × Int))) (hl : l.length ≤ 1048576) (hs : ∀ x ∈ l, x.length ≤ 1048576) : TC Try.prog 19 [.ro (l.map encP)] [] (.own 43 (l.map oP)) [] := by
  refine TC.enter Try.func19 rfl (by simp [Try.ntmps19]) rfl (tw_sound (ρ := []) ?_)
  rw [Try.ntmps19]
  simp [makeV]
  rw [gif_pos (by omega)]
  refine gall_intro fun id hid => ?_
  simp
  refine TWcH.loopS [] (fun m s => ∃ i, i + m = l.length ∧ s.σ 0 = .ro (l.map encP) ∧ s.σ 3 = .hd id ∧ s.σ 4 = .val (.int .i64 i) ∧ s.H id = some (.own 43 (fillR oP [.val (.slice none 0 0)] l i))) l.length ⟨0, by simp⟩ ?_
  rintro m ⟨σ, H⟩ ⟨i, him, h0, h3, h4, hH⟩
  simp only at h0 h3 h4 hH
  refine tw_sound (ρ := []) ?_
  by_cases hi : i < l.length
  · have hw := hw1 hi (by omega)
    simp [h0, h3, h4, getI hi, hi, encP]
    have hset := fillR_set (enc := oP) (z := [.val (.slice none 0 0)]) hi
    refine TWoH.call (tc_toSpanS l[i] (hs _ (List.getElem_mem hi))) callable_43 (by simp [*]) (by simp) (by simp) fun k hk => ?_
    have n1 : ¬ id = k := fun e => by have := hk k (Nat.le_refl _); rw [← e] at this; simp [hH] at this
    simp [h0, h3, h4, hH, hi, n1, fillR_at hi, fillR_at' hi, fillR_len (Nat.le_of_lt hi), hw, encP]
    refine ⟨m - 1, by omega, _, Shift.fold1x id k 43 i 0 ((fillR oP [.val (.slice none 0 0)] l i).set i [.hd k]) [.hd k] (.own 42 (l[i].map encS)) n1 (by simp) (by simp [fillR_len (Nat.le_of_lt hi), hi]) (by simp) (by simp [n1, Ne.symm n1]), i + 1, by omega, ?_⟩
    simp [h0, h3]
    rw [← hset]; simp [oP]
  · simp [h0, h3, h4, hH, hi, fillR_all (Nat.le_of_not_lt hi)]
theorem tc_toIntSS (l : List (List Int)) (hl : l.length ≤ 1048576) (hs : ∀ x ∈ l, x.length ≤ 1048576) : TC Try.prog 20 [.ro (l.map encR)] [] (.own 24 (l.map oR)) [] := by
  refine TC.enter Try.func20 rfl (by simp [Try.ntmps20]) rfl (tw_sound (ρ := []) ?_)
  rw [Try.ntmps20]
  simp [makeV]
  rw [gif_pos (by omega)]
  refine gall_intro fun id hid => ?_
  simp
  refine TWcH.loopS [] (fun m s => ∃ i, i + m = l.length ∧ s.σ 0 = .ro (l.map encR) ∧ s.σ 3 = .hd id ∧ s.σ 4 = .val (.int .i64 i) ∧ s.H id = some (.own 24 (fillR oR [.val (.slice none 0 0)] l i))) l.length ⟨0, by simp⟩ ?_
  rintro m ⟨σ, H⟩ ⟨i, him, h0, h3, h4, hH⟩
  simp only at h0 h3 h4 hH
  refine tw_sound (ρ := []) ?_
  by_cases hi : i < l.length
  · have hw := hw1 hi (by omega)
    simp [h0, h3, h4, getI hi, hi, encR]
    have hset := fillR_set (enc := oR) (z := [.val (.slice none 0 0)]) hi
    refine TWoH.call (tc_toIntS l[i] (hs _ (List.getElem_mem hi))) callable_21 (by simp [*]) (by simp) (by simp) fun k hk => ?_
    have n1 : ¬ id = k := fun e => by have := hk k (Nat.le_refl _); rw [← e] at this; simp [hH] at this
    simp [h0, h3, h4, hH, hi, n1, fillR_at hi, fillR_at' hi, fillR_len (Nat.le_of_lt hi), hw, encR]
    refine ⟨m - 1, by omega, _, Shift.fold1x id k 24 i 0 ((fillR oR [.val (.slice none 0 0)] l i).set i [.hd k]) [.hd k] (.own 3 (l[i].map encI)) n1 (by simp) (by simp [fillR_len (Nat.le_of_lt hi), hi]) (by simp) (by simp [n1, Ne.symm n1]), i + 1, by omega, ?_⟩
    simp [h0, h3]
    rw [← hset]; simp [oR]
  · simp [h0, h3, h4, hH, hi, fillR_all (Nat.le_of_not_lt hi)]
/-- A machine is small. -/
structure DSm (d : Dfa) : Prop where
  parts : d.parts.length ≤ 1048576
  rows : d.rows.length ≤ 1048576
  acc : d.acc.length ≤ 1048576
  part : ∀ x ∈ d.parts, x.length ≤ 1048576
  row : ∀ x ∈ d.rows, x.length ≤ 1048576
theorem tc_toDfaO (d : Dfa) (hs : DSm d) : TC Try.prog 6 [.agg (encDfa d)] [] (.agg (oDfa d)) [] := by
  refine TC.enter Try.func6 rfl (by simp [Try.ntmps6]) rfl (tw_sound (ρ := [1]) ?_)
  rw [Try.ntmps6]
  simp [encDfa]
  refine gall_intro fun a ha => ?_
  simp
  refine gall_intro fun b hb => ?_
  simp at hb
  have hb' : ¬ a = b := fun e => hb e.symm
  simp [hb, hb']
  refine TWoH.call (tc_toSpanSS d.parts hs.parts hs.part) callable_19 (by simp [*]) (by simp) (by simp) fun c hc => ?_
  have a1 := fresh_ne (i := a) hc (by simp [hb, hb']) (Nat.le_refl _)
  have a2 := fresh_ne (i := b) hc (by simp [hb, hb']) (Nat.le_refl _)
  have a1' : ¬ c = a := fun e => a1 e.symm
  have a2' : ¬ c = b := fun e => a2 e.symm
  simp [hb, hb', a1, a2, a1', a2']
  refine TWoH.call (tc_toIntSS d.rows hs.rows hs.row) callable_20 (by simp [*]) (by simp) (by simp) fun e he => ?_
  have b1 := fresh_ne (i := a) he (by simp [hb, hb', a1, a2, a1', a2']) (Nat.le_refl _)
  have b2 := fresh_ne (i := b) he (by simp [hb, hb', a1, a2, a1', a2']) (Nat.le_refl _)
  have b3 := fresh_ne (i := c) he (by simp [hb, hb', a1, a2, a1', a2']) (Nat.le_refl _)
  have b1' : ¬ e = a := fun x => b1 x.symm
  have b2' : ¬ e = b := fun x => b2 x.symm
  have b3' : ¬ e = c := fun x => b3 x.symm
  simp [hb, hb', a1, a2, a1', a2', b1, b2, b3, b1', b2', b3']
  refine TWoH.call (tc_toIntS d.acc hs.acc) callable_21 (by simp [*]) (by simp) (by simp) fun f hf => ?_
  have c1 := fresh_ne (i := a) hf (by simp [hb, hb', a1, a2, a1', a2', b1, b2, b3, b1', b2', b3']) (Nat.le_refl _)
  have c2 := fresh_ne (i := b) hf (by simp [hb, hb', a1, a2, a1', a2', b1, b2, b3, b1', b2', b3']) (Nat.le_refl _)
  have c3 := fresh_ne (i := c) hf (by simp [hb, hb', a1, a2, a1', a2', b1, b2, b3, b1', b2', b3']) (Nat.le_refl _)
  have c4 := fresh_ne (i := e) hf (by simp [hb, hb', a1, a2, a1', a2', b1, b2, b3, b1', b2', b3']) (Nat.le_refl _)
  have c1' : ¬ f = a := fun x => c1 x.symm
  have c2' : ¬ f = b := fun x => c2 x.symm
  have c3' : ¬ f = c := fun x => c3 x.symm
  have c4' : ¬ f = e := fun x => c4 x.symm
  simp [hb, hb', a1, a2, a1', a2', b1, b2, b3, b1', b2', b3', c1, c2, c3, c4, c1', c2', c3', c4', oDfa]
theorem tc_toDfa (d : Dfa) (hs : DSm d) : TC Try.prog 6 [.agg (encDfa d)] [] (.agg (encDfa d)) [] := by
  have := (tc_toDfaO d hs).frz
  simpa using this
end Go.Proofs.Ytfcdcgbpdinpnaa.R

open Go Go.Proofs.Ytfcdcgbpdinpnaa.T
namespace Go.Proofs.Ytfcdcgbpdinpnaa.R
set_option maxHeartbeats 4000000
set_option maxRecDepth 100000
set_option linter.unusedSimpArgs false
set_option linter.unusedVariables false
attribute [local simp] bsV bsRows chunk fillT partsT appV makeV rowsOf cellsOf placeOf
theorem tc_eq42 (l : List Int) (hl : l.length ≤ 1152921504606846976) : TC Try.prog 28 [.ro (l.map encI), .ro (l.map encI)] [] (.val (.bool true)) [] := by
  refine TC.enter Try.func28 rfl (by simp [Try.ntmps28]) rfl (tw_sound (ρ := []) ?_)
  rw [Try.ntmps28]
  simp
  refine TWcH.loop [] (fun m s => ∃ i, i + m = l.length ∧ s.σ 0 = .ro (l.map encI) ∧ s.σ 1 = .ro (l.map encI) ∧ s.σ 5 = .val (.int .i64 i)) l.length ⟨0, by simp⟩ ?_
  rintro m ⟨σ, H⟩ ⟨i, him, h0, h1, h5⟩
  simp only at h0 h1 h5
  by_cases hi : i < l.length
  · have hw := hw1 hi hl
    simp [h0, h1, h5, hi]
    refine TWcH.regionD (ρ := []) [0, 1, 2, 3, 4, 5, 6, 7, 8] 9 mixed (by kernel_rfl) ?_
    simp [h0, h1, h5, hi, getI hi, encI, hw, isBoolT]
    exact ⟨m - 1, by omega, i + 1, by omega, by omega⟩
  · simp [h0, h1, h5, hi]
theorem tc_eq61 (l : List (List (Int × Int))) (hl : l.length ≤ 1152921504606846976) (hs : ∀ x ∈ l, x.length ≤ 1152921504606846976) : TC Try.prog 26 [.ro (l.map encP), .ro (l.map encP)] [] (.val (.bool true)) [] := by
  refine TC.enter Try.func26 rfl (by simp [Try.ntmps26]) rfl (tw_sound (ρ := []) ?_)
  rw [Try.ntmps26]
  simp
  refine TWcH.loop [] (fun m s => ∃ i, i + m = l.length ∧ s.σ 0 = .ro (l.map encP) ∧ s.σ 1 = .ro (l.map encP) ∧ s.σ 5 = .val (.int .i64 i)) l.length ⟨0, by simp⟩ ?_
  rintro m ⟨σ, H⟩ ⟨i, him, h0, h1, h5⟩
  simp only at h0 h1 h5
  by_cases hi : i < l.length
  · have hw := hw1 hi hl
    simp [h0, h1, h5, hi]
    refine TWcH.regionD (ρ := []) [0, 1, 2, 3, 4, 5, 6, 7, 8, 9] 10 mixed (by kernel_rfl) ?_
    simp [h0, h1, h5, hi, getI hi, encP]
    refine TWqH.callV (tc_eqSpanS l[i] (hs _ (List.getElem_mem hi))) callable_52 (by simp) (by simp) (by simp) (by simp) ?_
    simp [h0, h1, h5, hi, hw]
    exact ⟨m - 1, by omega, i + 1, by omega, by omega⟩
  · simp [h0, h1, h5, hi]
theorem tc_eq62 (l : List (List Int)) (hl : l.length ≤ 1152921504606846976) (hs : ∀ x ∈ l, x.length ≤ 1152921504606846976) : TC Try.prog 27 [.ro (l.map encR), .ro (l.map encR)] [] (.val (.bool true)) [] := by
  refine TC.enter Try.func27 rfl (by simp [Try.ntmps27]) rfl (tw_sound (ρ := []) ?_)
  rw [Try.ntmps27]
  simp
  refine TWcH.loop [] (fun m s => ∃ i, i + m = l.length ∧ s.σ 0 = .ro (l.map encR) ∧ s.σ 1 = .ro (l.map encR) ∧ s.σ 5 = .val (.int .i64 i)) l.length ⟨0, by simp⟩ ?_
  rintro m ⟨σ, H⟩ ⟨i, him, h0, h1, h5⟩
  simp only at h0 h1 h5
  by_cases hi : i < l.length
  · have hw := hw1 hi hl
    simp [h0, h1, h5, hi]
    refine TWcH.regionD (ρ := []) [0, 1, 2, 3, 4, 5, 6, 7, 8, 9] 10 mixed (by kernel_rfl) ?_
    simp [h0, h1, h5, hi, getI hi, encR]
    refine TWqH.callV (tc_eq42 l[i] (hs _ (List.getElem_mem hi))) callable_28 (by simp) (by simp) (by simp) (by simp) ?_
    simp [h0, h1, h5, hi, hw]
    exact ⟨m - 1, by omega, i + 1, by omega, by omega⟩
  · simp [h0, h1, h5, hi]
theorem tc_eqDfa (d : Dfa) (hs : DSm d) : TC Try.prog 8 [.agg (encDfa d), .agg (encDfa d)] [] (.val (.bool true)) [] := by
  have e1 := tc_eq61 d.parts (by have := hs.parts; omega) (fun x hx => by have := hs.part x hx; omega)
  have e2 := tc_eq62 d.rows (by have := hs.rows; omega) (fun x hx => by have := hs.row x hx; omega)
  have e3 := tc_eq42 d.acc (by have := hs.acc; omega)
  refine TC.enter Try.func8 rfl (by simp [Try.ntmps8]) rfl (tw_sound (ρ := [2, 3]) ?_)
  rw [Try.ntmps8]
  simp [encDfa]
  refine TWoH.callV e1 callable_26 (by simp) (by simp) (by simp) (by simp) ?_
  simp
  refine TWoH.callV e2 callable_27 (by simp) (by simp) (by simp) (by simp) ?_
  simp
  refine TWoH.callV e3 callable_28 (by simp) (by simp) (by simp) (by simp) ?_
  simp
/-- Numbers from k on. -/
def mkInts (k : Int) (n : Nat) : List Int := (List.range n).map fun (i : Nat) => k + (i : Int)
@[simp] theorem mkInts_len (k : Int) (n : Nat) : (mkInts k n).length = n := by simp [mkInts]
theorem mkInts_at {k : Int} {n i : Nat} (h : i < n) : (mkInts k n)[i]? = some (k + i) := by simp [mkInts, h]
def mkBools (k : Int) (n : Nat) : List Bool := (List.range n).map fun (i : Nat) => decide ((k + (i : Int)) % 3 = 0)
@[simp] theorem mkBools_len (k : Int) (n : Nat) : (mkBools k n).length = n := by simp [mkBools]
theorem mkBools_at {k : Int} {n i : Nat} (h : i < n) : (mkBools k n)[i]? = some (decide ((k + (i : Int)) % 3 = 0)) := by simp [mkBools, h]
theorem tc_mark43 (l : List Int) (k : Int) (h0 : 0 ≤ k) (hk : k + l.length ≤ 1152921504606846976) : TC Try.prog 31 [.hd 0, .val (.int .i64 k)] [.own 3 (l.map encI)] (.val (.int .i64 (k + l.length))) [.own 3 ((mkInts k l.length).map encI)] := by
  refine TC.enter Try.func31 rfl (by simp [Try.ntmps31]) rfl (tw_sound (ρ := []) ?_)
  rw [Try.ntmps31]
  simp
  refine TWcH.loop [] (fun m s => ∃ i : Nat, i + m = l.length ∧ s.σ 0 = .hd 0 ∧ s.σ 1 = .val (.int .i64 (k + i)) ∧ s.σ 5 = .val (.int .i64 i) ∧ s.H 0 = some (.own 3 (mix ((mkInts k l.length).map encI) (l.map encI) i))) l.length ⟨0, by simp⟩ ?_
  rintro m ⟨σ, H⟩ ⟨i, him, g0, g1, g5, gH⟩
  simp only at g0 g1 g5 gH
  by_cases hi : i < l.length
  · have hw := hw1 hi (by omega)
    have e1 : IntKind.i64.wrap (k + i + 1) = k + i + 1 := wrapi (by omega)
    have em : (k + (i : Int)).tmod 3 = (k + (i : Int)) % 3 := Int.tmod_eq_emod_of_nonneg (by omega)
    have hat := mix_at' (A := (mkInts k l.length).map encI) (B := l.map encI) (i := i) (by simp) (by simpa using hi)
    simp only [List.getElem_map] at hat
    have hln : (mix ((mkInts k l.length).map encI) (l.map encI) i).length = l.length := by rw [mix_len (by simp) (by simp; omega)]; simp
    have hset := mix_set (A := (mkInts k l.length).map encI) (B := l.map encI) (i := i) (by simp) (by simpa using hi) (x := encI (k + (i : Int))) (by rw [List.getElem?_map, mkInts_at hi]; rfl)
    simp only [encI] at hset hat
    simp [g0, g1, g5, gH, hi, hw, e1, em, hat, hln, hset]
    exact ⟨m - 1, by omega, i + 1, by omega, by omega, by omega, by simp⟩
  · obtain rfl : i = l.length := by omega
    rw [mix_all (by simp) (by simp)] at gH
    simp [g0, g1, g5, gH]
    exact ⟨_, _, ⟨rfl, rfl⟩, rfl, by simp, by simp [gH]⟩
theorem tc_held44 (n : Nat) (k : Int) (h0 : 0 ≤ k) (hk : k + n ≤ 1152921504606846976) : TC Try.prog 34 [.ro ((mkInts k n).map encI), .val (.int .i64 k)] [] (.val (.int .i64 (k + n))) [] := by
  refine TC.enter Try.func34 rfl (by simp [Try.ntmps34]) rfl (tw_sound (ρ := []) ?_)
  rw [Try.ntmps34]
  simp
  refine TWcH.loop [] (fun m s => ∃ i : Nat, i + m = n ∧ s.σ 0 = .ro ((mkInts k n).map encI) ∧ s.σ 1 = .val (.int .i64 (k + i)) ∧ s.σ 5 = .val (.int .i64 i)) n ⟨0, by simp⟩ ?_
  rintro m ⟨σ, H⟩ ⟨i, him, g0, g1, g5⟩
  simp only at g0 g1 g5
  by_cases hi : i < n
  · have hw : IntKind.i64.wrap ((i : Int) + 1) = i + 1 := wrapi (by omega)
    have e1 : IntKind.i64.wrap (k + i + 1) = k + i + 1 := wrapi (by omega)
    have em : (k + (i : Int)).tmod 3 = (k + (i : Int)) % 3 := Int.tmod_eq_emod_of_nonneg (by omega)
    have hat : ∀ h, (mkInts k n)[i]'h = k + (i : Int) := fun h => by simp [mkInts]
    simp [g0, g1, g5, hi, hw, e1, em, hat, encI, isBoolT]
    exact ⟨m - 1, by omega, i + 1, by omega, by omega, by omega⟩
  · obtain rfl : i = n := by omega
    simp [g0, g1, g5]
def sumL {α : Type _} : List (List α) → Nat
  | [] => 0
  | x :: l => x.length + sumL l
theorem sumL_drop {α : Type _} {l : List (List α)} {i : Nat} (h : i < l.length) : sumL (l.drop i) = l[i].length + sumL (l.drop (i + 1)) := by
  conv => lhs; rw [List.drop_eq_getElem_cons h]
  rw [sumL]
theorem sumL_get {α : Type _} {l : List (List α)} {i : Nat} (h : i < l.length) : l[i].length ≤ sumL l := by
  induction l generalizing i with
  | nil => simp at h
  | cons r l ih =>
    cases i with
    | zero => simp [sumL]
    | succ i => simp only [List.getElem_cons_succ, sumL]; have := ih (i := i) (by simpa using h); omega
theorem tcr_mark83 (l : List (List (Int × Int))) (k : Int) (h0 : 0 ≤ k) (hk : k + 2 * sumL l ≤ 1152921504606846976) (hl : l.length ≤ 1048576) : TCR Try.prog 29 [.hd 0, .val (.int .i64 k)] [.own 43 (l.map oP)] (fun r o => r = .val (.int .i64 (k + 2 * sumL l)) ∧ ∃ l' : List (List (Int × Int)), o = [.own 43 (l'.map oP)]) := by
  refine TCR.enter Try.func29 rfl (by simp [Try.ntmps29]) rfl (tw_sound (ρ := []) ?_)
  rw [Try.ntmps29]
  simp
  refine TWcH.loopS [] (fun m s => ∃ (i : Nat) (l' : List (List (Int × Int))) (a : Int), i + m = l.length ∧ l'.length = l.length ∧ (∀ j, i ≤ j → l'[j]? = l[j]?) ∧ s.σ 0 = .hd 0 ∧ s.σ 1 = .val (.int .i64 a) ∧ s.σ 5 = .val (.int .i64 i) ∧ s.H 0 = some (.own 43 (l'.map oP)) ∧ k ≤ a ∧ a + 2 * sumL (l.drop i) = k + 2 * sumL l) l.length ⟨0, l, k, by simp⟩ ?_
  rintro m ⟨σ, H⟩ ⟨i, l', a, him, hl', hsame, g0, g1, g5, gH, ha0, ha1⟩
  simp only at g0 g1 g5 gH
  by_cases hi : i < l.length
  · have hw : IntKind.i64.wrap ((i : Int) + 1) = i + 1 := wrapi (by omega)
    have hi' : i < l'.length := by omega
    rw [sumL_drop hi] at ha1
    have hli := hsame i (Nat.le_refl _)
    rw [getI hi] at hli
    generalize hx : l[i] = x at hli ha1
    refine TWc.unfold1 (E1 := 42) (rows1 := x.map encS) (c1 := 0) (row := oP x) gH (by rw [List.getElem?_map, hli]; rfl) (by simp [oP]) fun k1 H' n1 d1 eH e1 e3 => ?_
    simp only at n1 eH e1 e3
    refine tw_sound (ρ := []) ?_
    have hd1 : ¬ k1 = 0 := fun e => d1 e.symm
    simp [g0, g1, g5, eH, hi, hi', hl', oP]
    refine TWoH.lendR [k1] (tcr_markSpanS x a (by omega) (by omega)) callable_53 (by simp) (by simp [e1, d1, hd1]) (by simp) (by simp) ?_
    rintro r o ⟨rfl, s', rfl⟩
    refine ⟨by simp, by simp, .inl (by simp), fun q hq => ?_⟩
    simp [g0, g1, g5, eH, e1, hi, hi', hl', oP, d1, hd1, hw]
    refine ⟨m - 1, by omega, _, Shift.fold1x 0 k1 43 i 0 ((l'.map oP).set i [.hd k1]) [.hd k1] (.own 42 (s'.map encS)) d1 (by simp [hd1, d1, eH, oP]) (by simp [hi']) (by simp) (by simp [hd1, d1]), i + 1, by omega, l'.set i s', by simp [hl'], ?_, ?_⟩
    · intro j hj
      rw [List.getElem?_set_ne (by omega)]
      exact hsame j (by omega)
    · simp [g0, g5, hw, List.map_set, oP]
      omega
  · obtain rfl : i = l.length := by omega
    refine tw_sound (ρ := []) ?_
    simp [sumL] at ha1
    simp [g0, g1, g5, gH, hl']
    exact ⟨_, _, ⟨rfl, rfl⟩, by simp, by simp [gH], by simp; omega, ⟨l', by simp [gH]⟩⟩
theorem tcr_mark84 (l : List (List Int)) (k : Int) (h0 : 0 ≤ k) (hk : k + 1 * sumL l ≤ 1152921504606846976) (hl : l.length ≤ 1048576) : TCR Try.prog 30 [.hd 0, .val (.int .i64 k)] [.own 24 (l.map oR)] (fun r o => r = .val (.int .i64 (k + 1 * sumL l)) ∧ ∃ l' : List (List Int), o = [.own 24 (l'.map oR)]) := by
  refine TCR.enter Try.func30 rfl (by simp [Try.ntmps30]) rfl (tw_sound (ρ := []) ?_)
  rw [Try.ntmps30]
  simp
  refine TWcH.loopS [] (fun m s => ∃ (i : Nat) (l' : List (List Int)) (a : Int), i + m = l.length ∧ l'.length = l.length ∧ (∀ j, i ≤ j → l'[j]? = l[j]?) ∧ s.σ 0 = .hd 0 ∧ s.σ 1 = .val (.int .i64 a) ∧ s.σ 5 = .val (.int .i64 i) ∧ s.H 0 = some (.own 24 (l'.map oR)) ∧ k ≤ a ∧ a + 1 * sumL (l.drop i) = k + 1 * sumL l) l.length ⟨0, l, k, by simp⟩ ?_
  rintro m ⟨σ, H⟩ ⟨i, l', a, him, hl', hsame, g0, g1, g5, gH, ha0, ha1⟩
  simp only at g0 g1 g5 gH
  by_cases hi : i < l.length
  · have hw : IntKind.i64.wrap ((i : Int) + 1) = i + 1 := wrapi (by omega)
    have hi' : i < l'.length := by omega
    rw [sumL_drop hi] at ha1
    have hli := hsame i (Nat.le_refl _)
    rw [getI hi] at hli
    generalize hx : l[i] = x at hli ha1
    refine TWc.unfold1 (E1 := 3) (rows1 := x.map encI) (c1 := 0) (row := oR x) gH (by rw [List.getElem?_map, hli]; rfl) (by simp [oR]) fun k1 H' n1 d1 eH e1 e3 => ?_
    simp only at n1 eH e1 e3
    refine tw_sound (ρ := []) ?_
    have hd1 : ¬ k1 = 0 := fun e => d1 e.symm
    simp [g0, g1, g5, eH, hi, hi', hl', oR]
    refine TWoH.lendR [k1] ((tc_mark43 x a (by omega) (by omega)).toR (R := fun r o => r = .val (.int .i64 (a + x.length)) ∧ ∃ s' : List Int, o = [.own 3 (s'.map encI)]) ⟨rfl, _, rfl⟩) callable_31 (by simp) (by simp [e1, d1, hd1]) (by simp) (by simp) ?_
    rintro r o ⟨rfl, s', rfl⟩
    refine ⟨by simp, by simp, .inl (by simp), fun q hq => ?_⟩
    simp [g0, g1, g5, eH, e1, hi, hi', hl', oR, d1, hd1, hw]
    refine ⟨m - 1, by omega, _, Shift.fold1x 0 k1 24 i 0 ((l'.map oR).set i [.hd k1]) [.hd k1] (.own 3 (s'.map encI)) d1 (by simp [hd1, d1, eH, oR]) (by simp [hi']) (by simp) (by simp [hd1, d1]), i + 1, by omega, l'.set i s', by simp [hl'], ?_, ?_⟩
    · intro j hj
      rw [List.getElem?_set_ne (by omega)]
      exact hsame j (by omega)
    · simp [g0, g5, hw, List.map_set, oR]
      omega
  · obtain rfl : i = l.length := by omega
    refine tw_sound (ρ := []) ?_
    simp [sumL] at ha1
    simp [g0, g1, g5, gH, hl']
    exact ⟨_, _, ⟨rfl, rfl⟩, by simp, by simp [gH], by simp; omega, ⟨l', by simp [gH]⟩⟩
def costD (d : Dfa) : Nat := 2 * sumL d.parts + sumL d.rows + d.acc.length
theorem tcr_markDfa (d : Dfa) (hs : DSm d) (k : Int) (h0 : 0 ≤ k) (hk : k + costD d ≤ 1152921504606846976) : TCR Try.prog 9 [.agg [.hd 0, .hd 1, .hd 2], .val (.int .i64 k)] (oDfa d) (fun r o => r = .val (.int .i64 (k + costD d)) ∧ ∃ d' : Dfa, o = oDfa d') := by
  unfold costD at *
  refine TCR.enter Try.func9 rfl (by simp [Try.ntmps9]) rfl (tw_sound (ρ := [2]) ?_)
  rw [Try.ntmps9]
  simp [oDfa]
  refine TWoH.lendR [0] (tcr_mark83 d.parts k (by omega) (by omega) hs.parts) callable_29 (by simp) (by simp) (by simp) (by simp) ?_
  rintro r o ⟨rfl, p', rfl⟩
  refine ⟨by simp, by simp, .inl (by simp), fun q hq => ?_⟩
  simp
  refine TWoH.lendR [1] (tcr_mark84 d.rows (k + 2 * sumL d.parts) (by omega) (by omega) hs.rows) callable_30 (by simp) (by simp) (by simp) (by simp) ?_
  rintro r o ⟨rfl, r', rfl⟩
  refine ⟨by simp, by simp, .inl (by simp), fun q hq => ?_⟩
  simp
  refine TWoH.lend [2] (tc_mark43 d.acc (k + 2 * sumL d.parts + sumL d.rows) (by omega) (by omega)) callable_31 (by simp) (by simp) (by simp) (by simp) (by simp) (by simp) (.inl (by simp)) fun q hq => ?_
  simp
  exact ⟨_, _, ⟨rfl, rfl⟩, by simp, by simp [show List.range 3 = [0, 1, 2] from rfl], by simp; omega, ⟨p', r', mkInts (k + 2 * sumL d.parts + sumL d.rows) d.acc.length⟩, by simp [show List.range 3 = [0, 1, 2] from rfl]⟩
theorem ite_neg1' {c : Prop} [Decidable c] {x : Int} (h : ¬ (if c then -1 else x) < 0) : ¬ c ∧ ¬ x < 0 := by
  split at h
  · exact absurd h (by omega)
  · exact ⟨by assumption, h⟩
theorem szN_ok' {n : Nat} {left : Int} (hn : n ≤ 1152921504606846976) (h0 : 0 ≤ left) (h1 : left ≤ 1048576) (h : ¬ szN n left < 0) : (n : Int) ≤ left ∧ szN n left = left - n := by
  have hw : IntKind.i64.wrap (left - n) = left - n := wrapi (by omega)
  unfold szN at h ⊢
  rw [hw] at h ⊢
  split at h
  · exact absurd h (by omega)
  · rename_i h2
    rw [if_neg h2]
    omega
theorem szLoopN_ok : ∀ (ns : List Nat) (left : Int), (∀ n ∈ ns, n ≤ 1152921504606846976) → 0 ≤ left → left ≤ 1048576 → ¬ szLoopN ns left < 0 → (∀ n ∈ ns, n ≤ 1048576) ∧ szLoopN ns left = left - ns.sum
  | [], left, hs, h0, h1, h => by simp [szLoopN]
  | n :: ns, left, hs, h0, h1, h => by
    rw [szLoopN] at h ⊢
    obtain ⟨c1, h⟩ := ite_neg1' h
    rw [if_neg c1]
    obtain ⟨a1, a2⟩ := szN_ok' (hs n (by simp)) h0 h1 c1
    obtain ⟨b1, b2⟩ := szLoopN_ok ns _ (fun q hq => hs q (by simp [hq])) (by omega) (by omega) h
    refine ⟨fun q hq => ?_, by rw [b2, a2]; simp only [List.sum_cons]; omega⟩
    rcases List.mem_cons.1 hq with rfl | hq
    · omega
    · exact b1 q hq
theorem szSSF_ok {ns : List Nat} {left : Int} (hl : ns.length ≤ 1152921504606846976) (hs : ∀ n ∈ ns, n ≤ 1152921504606846976) (h0 : 0 ≤ left) (h1 : left ≤ 1048576) (h : ¬ szSSF ns left < 0) : ns.length ≤ 1048576 ∧ (∀ n ∈ ns, n ≤ 1048576) ∧ szSSF ns left = left - ns.length - ns.sum ∧ 0 ≤ szSSF ns left := by
  have h' := h
  unfold szSSF at h ⊢
  obtain ⟨c1, h⟩ := ite_neg1' h
  rw [if_neg c1]
  have hw : IntKind.i64.wrap (left - ns.length) = left - ns.length := wrapi (by omega)
  rw [hw] at c1 h ⊢
  obtain ⟨b1, b2⟩ := szLoopN_ok ns _ hs (by omega) (by omega) h
  exact ⟨by omega, b1, b2, by omega⟩
theorem sumL_eq {α : Type _} : ∀ l : List (List α), sumL l = (l.map List.length).sum
  | [] => rfl
  | x :: l => by simp [sumL, sumL_eq l]
/-- What a machine that can be read as data is bounded by. -/
structure BDfa (d : Dfa) : Prop where
  parts : d.parts.length ≤ 1152921504606846976
  rows : d.rows.length ≤ 1152921504606846976
  acc : d.acc.length ≤ 1152921504606846976
  part : ∀ x ∈ d.parts, x.length ≤ 1152921504606846976
  row : ∀ x ∈ d.rows, x.length ≤ 1152921504606846976
theorem DSm_of {d : Dfa} (hB : BDfa d) (h : ¬ szDfaF d 1048576 < 0) : DSm d ∧ costD d ≤ 4194304 := by
  unfold szDfaF at h
  simp only at h
  obtain ⟨c1, h⟩ := ite_neg1' h
  obtain ⟨c2, h⟩ := ite_neg1' h
  obtain ⟨c3, h⟩ := ite_neg1' h
  obtain ⟨a1, a2, a3, a4⟩ := szSSF_ok (by simpa using hB.parts) (by simpa using hB.part) (by omega) (by omega) c1
  obtain ⟨b1, b2, b3, b4⟩ := szSSF_ok (by simpa using hB.rows) (by simpa using hB.row) (by omega) (by omega) c2
  obtain ⟨d1, d2⟩ := szN_ok' hB.acc (by omega) (by omega) c3
  simp only [List.length_map] at a1 a3 b1 b3
  refine ⟨⟨a1, b1, by omega, by simpa using a2, by simpa using b2⟩, ?_⟩
  unfold costD
  rw [sumL_eq, sumL_eq]
  omega
end Go.Proofs.Ytfcdcgbpdinpnaa.R
