/- Part 2: what the walk of the code stands on. Conditions: none but those that each theorem states. -/
import Derived.Test.YtmpeolimleladaaDoorK1
open Go Go.Proofs.YtmpeolimleladaaDoor.T
namespace Go.Proofs.YtmpeolimleladaaDoor.R
inductive Rex where
  | mk (kind : Int) (set : List (Int × Int)) (kids : List Rex)
  deriving Inhabited
def encSp (s : Int × Int) : List TV := [.val (.int .i64 s.1), .val (.int .i64 s.2)]
mutual
def encRex : Rex → List TV
  | .mk k s l => [.val (.int .i64 k), .ro (s.map encSp), .ro (encRexL l)]
def encRexL : List Rex → List (List TV)
  | [] => []
  | r :: l => encRex r :: encRexL l
end
@[simp] theorem len_S (r : Int × Int) : (encSp r).length = 2 := by simp [encSp]
@[simp] theorem take_S (r : Int × Int) : (encSp r).take 2 = encSp r := by simp [encSp]
@[simp] theorem plain_S (r : Int × Int) : (encSp r).all TV.plain = true := by simp [encSp]
@[simp] theorem pc_S (r : Int × Int) : (encSp r).all TV.pc = true := by simp [encSp]
@[simp] theorem noH_S (r : Int × Int) : noHL (encSp r) = true := by simp [encSp]
@[simp] theorem argTL_S {H : Nat → Option TV} {ρ : List Nat} (r : Int × Int) : argTL H ρ (encSp r) = some (encSp r) := by simp [encSp]
@[simp] theorem views_S {ρ : List Nat} (r : Int × Int) : (encSp r).flatMap (views1 ρ) = [] := by simp [encSp]
theorem opnL_of {k : Nat} : ∀ (l : List TV), noHL l = true → (∀ t ∈ l, (match t with | .own _ _ | .box _ _ | .agg _ | .tup _ | .mp _ _ => false | _ => true) = true) → opnL k l = (l, [])
  | [], _, _ => by simp
  | t :: l, hn, h => by
    have h1 := h t (by simp)
    have h2 := opnL_of (k := k) l (by simp at hn; exact hn.2) fun t ht => h t (by simp [ht])
    cases t <;> simp at h1 <;> simp [h2]
@[simp] theorem opnL_S {k : Nat} (r : Int × Int) : opnL k (encSp r) = (encSp r, []) := by simp [encSp]
@[simp] theorem len_rex (r : Rex) : (encRex r).length = 3 := by cases r; simp [encRex]
@[simp] theorem take_rex (r : Rex) : (encRex r).take 3 = encRex r := by cases r; simp [encRex]
@[simp] theorem plain_rex (r : Rex) : (encRex r).all TV.plain = true := by cases r; simp [encRex]
@[simp] theorem pc_rex (r : Rex) : (encRex r).all TV.pc = true := by cases r; simp [encRex, TV.pc, TV.cell, Value.oneCell']
@[simp] theorem noHR_set (s : List (Int × Int)) : noHR (s.map encSp) = true := by induction s <;> simp [encSp, *]
mutual
theorem noH_rex : ∀ r : Rex, noHL (encRex r) = true
  | .mk k s l => by simp [encRex, noHR_rex l]
theorem noHR_rex : ∀ l : List Rex, noHR (encRexL l) = true
  | [] => by simp [encRexL]
  | r :: l => by simp [encRexL, noH_rex r, noHR_rex l]
end
attribute [simp] noH_rex noHR_rex
@[simp] theorem opnL_rex {k : Nat} (r : Rex) : opnL k (encRex r) = (encRex r, []) := by cases r; simp [encRex]
@[simp] theorem closeL_S {H : Nat → Option TV} (r : Int × Int) : closeL H (encSp r) = some (encSp r, H) := by simp [encSp]
@[simp] theorem closeL_rex {H : Nat → Option TV} (r : Rex) : closeL H (encRex r) = some (encRex r, H) := by cases r; simp [encRex]
@[simp] theorem argTL_rex {H : Nat → Option TV} {ρ : List Nat} (r : Rex) : argTL H ρ (encRex r) = some (encRex r) := by
  obtain ⟨k, s, l⟩ := r
  have h1 := noHR_set s
  have h2 := noHR_rex l
  simp [encRex, h1, h2]
@[simp] theorem views_rex {ρ : List Nat} (r : Rex) : (encRex r).flatMap (views1 ρ) = [] := by cases r; simp [encRex]
theorem encRexL_eq : ∀ l : List Rex, encRexL l = l.map encRex
  | [] => rfl
  | r :: l => by simp [encRexL, encRexL_eq l]
end Go.Proofs.YtmpeolimleladaaDoor.R

open Go Go.Proofs.YtmpeolimleladaaDoor.T
namespace Go.Proofs.YtmpeolimleladaaDoor.R
set_option maxHeartbeats 2000000
set_option linter.unusedSimpArgs false
set_option linter.unusedVariables false
set_option maxRecDepth 100000

theorem hw1 {i n : Nat} (h : i < n) (hn : n ≤ 1152921504606846976) : IntKind.i64.wrap ((i : Int) + 1) = (i : Int) + 1 := wrapi (by omega)
mutual
def Small : Rex → Prop
  | .mk _ s l => s.length ≤ 1152921504606846976 ∧ l.length ≤ 1152921504606846976 ∧ SmallL l
def SmallL : List Rex → Prop
  | [] => True
  | r :: l => Small r ∧ SmallL l
end
theorem SmallL.get : ∀ {l : List Rex} {i : Nat} (h : SmallL l) (hi : i < l.length), Small l[i]
  | r :: l, 0, h, _ => h.1
  | r :: l, i + 1, h, hi => by
    simp only [List.getElem_cons_succ]
    exact SmallL.get h.2 (by simpa using hi)
def szN (n : Nat) (left : Int) : Int := if IntKind.i64.wrap (left - n) < 0 then -1 else IntKind.i64.wrap (left - n)
mutual
def szRexF : Rex → Int → Int
  | .mk _ s l, left => if szN s.length left < 0 then -1 else if (if IntKind.i64.wrap (szN s.length left - l.length) < 0 then -1 else szLoopF l (IntKind.i64.wrap (szN s.length left - l.length))) < 0 then -1 else (if IntKind.i64.wrap (szN s.length left - l.length) < 0 then -1 else szLoopF l (IntKind.i64.wrap (szN s.length left - l.length)))
def szLoopF : List Rex → Int → Int
  | [], a => a
  | r :: l, a => if szRexF r a < 0 then -1 else szLoopF l (szRexF r a)
end
def szRexSF (l : List Rex) (left : Int) : Int := if IntKind.i64.wrap (left - l.length) < 0 then -1 else szLoopF l (IntKind.i64.wrap (left - l.length))
theorem szRexF_eq (k : Int) (s : List (Int × Int)) (l : List Rex) (left : Int) : szRexF (.mk k s l) left = if szN s.length left < 0 then -1 else if szRexSF l (szN s.length left) < 0 then -1 else szRexSF l (szN s.length left) := by
  simp only [szRexF, szRexSF]; rfl
theorem szLoopF_drop {l : List Rex} {i : Nat} (h : i < l.length) (a : Int) : szLoopF (l.drop i) a = if szRexF l[i] a < 0 then -1 else szLoopF (l.drop (i + 1)) (szRexF l[i] a) := by
  conv => lhs; rw [List.drop_eq_getElem_cons h]
  rw [szLoopF]
theorem tc_szSpanS (l : List (Int × Int)) (left : Int) : TC Tryd.prog 78 [.ro (l.map encSp), .val (.int .i64 left)] [] (.val (.int .i64 (szN l.length left))) [] := by
  refine TC.enter Tryd.func78 rfl (by simp [Tryd.ntmps78]) rfl (tw_sound (ρ := []) ?_)
  rw [Tryd.ntmps78]
  simp
  refine gif_intro (fun c1 => ?_) (fun c1 => ?_) <;> simp [szN, c1]
theorem tc_szRexS (l : List Rex) (hl : l.length ≤ 1152921504606846976) (ih : ∀ i (h : i < l.length) (a : Int), TC Tryd.prog 58 [.agg (encRex l[i]), .val (.int .i64 a)] [] (.val (.int .i64 (szRexF l[i] a))) []) (left : Int) :
    TC Tryd.prog 79 [.ro (encRexL l), .val (.int .i64 left)] [] (.val (.int .i64 (szRexSF l left))) [] := by
  rw [encRexL_eq]
  refine TC.enter Tryd.func79 rfl (by simp [Tryd.ntmps79]) rfl (tw_sound (ρ := []) ?_)
  rw [Tryd.ntmps79]
  simp
  refine gif_intro (fun c1 => ?_) (fun c1 => ?_) <;> simp [szRexSF, c1]
  refine TWcH.loop [] (fun m s => ∃ i a, i + m = l.length ∧ s.σ 0 = .ro (l.map encRex) ∧ s.σ 1 = .val (.int .i64 a) ∧ s.σ 5 = .val (.int .i64 i) ∧ szLoopF l (IntKind.i64.wrap (left - l.length)) = szLoopF (l.drop i) a) l.length ⟨0, IntKind.i64.wrap (left - l.length), by simp⟩ ?_
  rintro m ⟨σ, H⟩ ⟨i, a, him, h0, h1, h5, hh⟩
  simp only at h0 h1 h5
  by_cases hi : i < l.length
  · rw [szLoopF_drop hi] at hh
    have hw := hw1 hi hl
    simp [h0, h1, h5, getI hi, hi]
    refine TWoH.callV (ih i hi a) callable_58 (by simp [*]) (by simp) (by simp) (by simp [*]) ?_
    simp [h0, h1, h5, hi]
    refine gif_intro (fun c2 => ?_) (fun c2 => ?_) <;> simp [h0, h1, h5, hi, c2, hw]
    · simp [hh, c2]
    · exact ⟨m - 1, by omega, i + 1, by omega, by omega, by simp [hh, c2]⟩
  · simp [h0, h1, h5, hi]
    rw [if_neg c1, hh, List.drop_eq_nil_of_le (by omega)]; rfl
mutual
theorem tc_szRex : ∀ (r : Rex), Small r → ∀ (left : Int), TC Tryd.prog 58 [.agg (encRex r), .val (.int .i64 left)] [] (.val (.int .i64 (szRexF r left))) []
  | .mk k s l, hs, left => by
    refine TC.enter Tryd.func58 rfl (by simp [Tryd.ntmps58]) rfl (tw_sound (ρ := [2]) ?_)
    rw [Tryd.ntmps58]
    simp [encRex]
    refine TWoH.callV (tc_szSpanS s left) callable_78 (by simp [*]) (by simp) (by simp) (by simp [*]) ?_
    simp
    refine gif_intro (fun c1 => ?_) (fun c1 => ?_) <;> simp [szRexF_eq, c1]
    refine TWoH.callV (tc_szRexS l hs.2.1 (tc_szRexL l hs.2.2) (szN s.length left)) callable_79 (by simp [*]) (by simp) (by simp) (by simp [*]) ?_
    simp
    refine gif_intro (fun c2 => ?_) (fun c2 => ?_) <;> simp [szRexF_eq, c1, c2]
theorem tc_szRexL : ∀ (l : List Rex), SmallL l → ∀ i (h : i < l.length) (a : Int), TC Tryd.prog 58 [.agg (encRex l[i]), .val (.int .i64 a)] [] (.val (.int .i64 (szRexF l[i] a))) []
  | r :: l, hs, 0, _, a => tc_szRex r hs.1 a
  | r :: l, hs, i + 1, h, a => by
    simp only [List.getElem_cons_succ]
    exact tc_szRexL l hs.2 i (by simpa using h) a
end
structure Rule where
  name : List UInt8
  rex : Rex
def encRule (r : Rule) : List TV := .val (.string (bs r.name)) :: encRex r.rex
@[simp] theorem len_rule (r : Rule) : (encRule r).length = 4 := by simp [encRule]
@[simp] theorem take_rule (r : Rule) : (encRule r).take 4 = encRule r := by simp [encRule]
@[simp] theorem plain_rule (r : Rule) : (encRule r).all TV.plain = true := by simp [encRule]
@[simp] theorem pc_rule (r : Rule) : (encRule r).all TV.pc = true := by simp only [encRule, List.all_cons, pc_rex]; simp
@[simp] theorem noH_rule (r : Rule) : noHL (encRule r) = true := by simp [encRule]
@[simp] theorem opnL_rule {k : Nat} (r : Rule) : opnL k (encRule r) = (encRule r, []) := by simp [encRule]
@[simp] theorem closeL_rule {H : Nat → Option TV} (r : Rule) : closeL H (encRule r) = some (encRule r, H) := by simp [encRule]
@[simp] theorem argTL_rule {H : Nat → Option TV} {ρ : List Nat} (r : Rule) : argTL H ρ (encRule r) = some (encRule r) := by simp [encRule]
@[simp] theorem views_rule {ρ : List Nat} (r : Rule) : (encRule r).flatMap (views1 ρ) = [] := by simp only [encRule, List.flatMap_cons, views_rex]; simp
@[simp] theorem noHR_rule (s : List Rule) : noHR (s.map encRule) = true := by induction s <;> simp [*]
@[simp] theorem noHR_rexs (s : List Rex) : noHR (s.map encRex) = true := by induction s <;> simp [*]
def szRuleF (r : Rule) (left : Int) : Int := if szN r.name.length left < 0 then -1 else if szRexF r.rex (szN r.name.length left) < 0 then -1 else szRexF r.rex (szN r.name.length left)
def szRulesLoop : List Rule → Int → Int
  | [], a => a
  | r :: l, a => if szRuleF r a < 0 then -1 else szRulesLoop l (szRuleF r a)
theorem szRulesLoop_drop {l : List Rule} {i : Nat} (h : i < l.length) (a : Int) : szRulesLoop (l.drop i) a = if szRuleF l[i] a < 0 then -1 else szRulesLoop (l.drop (i + 1)) (szRuleF l[i] a) := by
  conv => lhs; rw [List.drop_eq_getElem_cons h]
  rw [szRulesLoop]
def szRulesF (l : List Rule) (left : Int) : Int := if IntKind.i64.wrap (left - l.length) < 0 then -1 else szRulesLoop l (IntKind.i64.wrap (left - l.length))
theorem tc_szRule (r : Rule) (hs : Small r.rex) (left : Int) : TC Tryd.prog 37 [.agg (encRule r), .val (.int .i64 left)] [] (.val (.int .i64 (szRuleF r left))) [] := by
  refine TC.enter Tryd.func37 rfl (by simp [Tryd.ntmps37]) rfl (tw_sound (ρ := [2]) ?_)
  rw [Tryd.ntmps37]
  simp [encRule]
  refine gif_intro (fun c1 => ?_) (fun c1 => ?_) <;> simp [szRuleF, szN, c1]
  refine TWoH.callV (tc_szRex r.rex hs (IntKind.i64.wrap (left - r.name.length))) callable_58 (by simp [*]) (by simp) (by simp) (by simp [*]) ?_
  simp
  refine gif_intro (fun c2 => ?_) (fun c2 => ?_) <;> simp [c1, c2]
theorem tc_szRuleS (l : List Rule) (hl : l.length ≤ 1152921504606846976) (hs : ∀ r ∈ l, Small r.rex) (left : Int) : TC Tryd.prog 17 [.ro (l.map encRule), .val (.int .i64 left)] [] (.val (.int .i64 (szRulesF l left))) [] := by
  refine TC.enter Tryd.func17 rfl (by simp [Tryd.ntmps17]) rfl (tw_sound (ρ := []) ?_)
  rw [Tryd.ntmps17]
  simp
  refine gif_intro (fun c1 => ?_) (fun c1 => ?_) <;> simp [szRulesF, c1]
  refine TWcH.loop [] (fun m s => ∃ i a, i + m = l.length ∧ s.σ 0 = .ro (l.map encRule) ∧ s.σ 1 = .val (.int .i64 a) ∧ s.σ 5 = .val (.int .i64 i) ∧ szRulesLoop l (IntKind.i64.wrap (left - l.length)) = szRulesLoop (l.drop i) a) l.length ⟨0, IntKind.i64.wrap (left - l.length), by simp⟩ ?_
  rintro m ⟨σ, H⟩ ⟨i, a, him, h0, h1, h5, hh⟩
  simp only at h0 h1 h5
  by_cases hi : i < l.length
  · rw [szRulesLoop_drop hi] at hh
    have hw := hw1 hi hl
    simp [h0, h1, h5, getI hi, hi]
    refine TWoH.callV (tc_szRule l[i] (hs _ (List.getElem_mem _)) a) callable_37 (by simp [*]) (by simp) (by simp) (by simp [*]) ?_
    simp [h0, h1, h5, hi]
    refine gif_intro (fun c2 => ?_) (fun c2 => ?_) <;> simp [h0, h1, h5, hi, c2, hw]
    · simp [hh, c1, c2]
    · exact ⟨m - 1, by omega, i + 1, by omega, by omega, by simp [hh, c2]⟩
  · simp [h0, h1, h5, hi]
    rw [if_neg c1, hh, List.drop_eq_nil_of_le (by omega)]; rfl
end Go.Proofs.YtmpeolimleladaaDoor.R

open Go Go.Proofs.YtmpeolimleladaaDoor.T
namespace Go.Proofs.YtmpeolimleladaaDoor.R
set_option maxHeartbeats 2000000
set_option linter.unusedSimpArgs false
set_option linter.unusedVariables false
set_option maxRecDepth 100000
theorem tc_toSpan (s : Int × Int) : TC Tryd.prog 108 [.agg (encSp s)] [] (.agg (encSp s)) [] := by
  refine TC.enter Tryd.func108 rfl (by simp [Tryd.ntmps108]) rfl (tw_sound (ρ := [1]) ?_)
  rw [Tryd.ntmps108]
  simp [encSp]
  refine gall_intro fun a ha => ?_
  simp
  refine gall_intro fun b hb => ?_
  simp at hb
  simp [hb, Ne.symm hb]
/-- The rows as they are filled, one behind the other. -/
def fillR {α : Type _} (enc : α → List TV) (z : List TV) (l : List α) (i : Nat) : List (List TV) := (l.take i).map enc ++ List.replicate (l.length - i) z
section
variable {α : Type _} {enc : α → List TV} {z : List TV} {l : List α} {i : Nat}
@[simp] theorem fillR_zero : fillR enc z l 0 = List.replicate l.length z := by simp [fillR]
@[simp] theorem fillR_len (hi : i ≤ l.length) : (fillR enc z l i).length = l.length := by simp [fillR]; omega
theorem fillR_all (hi : l.length ≤ i) : fillR enc z l i = l.map enc := by
  unfold fillR; rw [List.take_of_length_le hi, show l.length - i = 0 by omega]; simp
theorem fillR_at (hi : i < l.length) : (fillR enc z l i)[i]? = some z := by
  unfold fillR
  rw [List.getElem?_append_right (by simp; omega)]
  simp [List.getElem?_replicate]; omega
theorem fillR_at' (hi : i < l.length) (h : i < (fillR enc z l i).length) : (fillR enc z l i)[i] = z := by
  have := fillR_at (enc := enc) (z := z) hi
  rw [List.getElem?_eq_getElem h] at this
  exact Option.some.inj this
theorem fillR_set (hi : i < l.length) : (fillR enc z l i).set i (enc l[i]) = fillR enc z l (i + 1) := by
  apply List.ext_getElem?
  intro j
  unfold fillR
  rw [List.getElem?_set]
  by_cases h : i = j
  · subst h
    rw [if_pos rfl, if_pos (by simp; omega), List.getElem?_append_left (by simp; omega)]
    simp [List.getElem?_take, hi]
  · rw [if_neg h]
    by_cases h' : j < i
    · rw [List.getElem?_append_left (by simp; omega), List.getElem?_append_left (by simp; omega)]
      simp [List.getElem?_take, h', show j < i + 1 by omega]
    · rw [List.getElem?_append_right (by simp; omega), List.getElem?_append_right (by simp; omega)]
      simp [List.getElem?_replicate]
      congr 1
      simp; omega
end
theorem tc_toSpanS (l : List (Int × Int)) (hl : l.length ≤ 1048576) : TC Tryd.prog 84 [.ro (l.map encSp)] [] (.own 112 (l.map encSp)) [] := by
  refine TC.enter Tryd.func84 rfl (by simp [Tryd.ntmps84]) rfl (tw_sound (ρ := []) ?_)
  rw [Tryd.ntmps84]
  simp [makeV]
  rw [gif_pos (by omega)]
  refine gall_intro fun id hid => ?_
  simp
  refine TWcH.loop [] (fun m s => ∃ i, i + m = l.length ∧ s.σ 0 = .ro (l.map encSp) ∧ s.σ 3 = .hd id ∧ s.σ 4 = .val (.int .i64 i) ∧ s.H id = some (.own 112 (fillR encSp [.val (.int .i64 0), .val (.int .i64 0)] l i))) l.length ⟨0, by simp⟩ ?_
  rintro m ⟨σ, H⟩ ⟨i, him, h0, h3, h4, hH⟩
  simp only at h0 h3 h4 hH
  by_cases hi : i < l.length
  · have hw := hw1 hi (by omega)
    simp [h0, h3, h4, getI hi, hi]
    refine TWoH.callV (tc_toSpan l[i]) callable_108 (by simp [*]) (by simp) (by simp) (by simp [*]) ?_
    simp [h0, h3, h4, hH, hi, fillR_at hi, fillR_at' hi, fillR_len (Nat.le_of_lt hi), fillR_set hi, hw]
    exact ⟨m - 1, by omega, i + 1, by omega, by omega, rfl⟩
  · simp [h0, h3, h4, hH, hi, fillR_all (Nat.le_of_not_lt hi)]
@[simp] theorem roL_S (s : Int × Int) : roL (encSp s) = encSp s := by simp [encSp]
@[simp] theorem roRows_S (l : List (Int × Int)) : roRows (l.map encSp) = l.map encSp := by induction l <;> simp [*]
mutual
theorem roL_rex : ∀ r : Rex, roL (encRex r) = encRex r
  | .mk k s l => by simp [encRex, roRows_rex l]
theorem roRows_rex : ∀ l : List Rex, roRows (encRexL l) = encRexL l
  | [] => by simp [encRexL]
  | r :: l => by simp [encRexL, roL_rex r, roRows_rex l]
end
attribute [simp] roL_rex
@[simp] theorem roRows_rexs (l : List Rex) : roRows (l.map encRex) = l.map encRex := by rw [← encRexL_eq]; exact roRows_rex l
@[simp] theorem roL_rule (r : Rule) : roL (encRule r) = encRule r := by simp [encRule]
@[simp] theorem roRows_rules (l : List Rule) : roRows (l.map encRule) = l.map encRule := by induction l <;> simp [*]
theorem tc_toSpanS' (l : List (Int × Int)) (hl : l.length ≤ 1048576) : TC Tryd.prog 84 [.ro (l.map encSp)] [] (.ro (l.map encSp)) [] := by
  have := (tc_toSpanS l hl).frz
  simpa using this
mutual
def Sm : Rex → Prop
  | .mk _ s l => s.length ≤ 1048576 ∧ l.length ≤ 1048576 ∧ SmL l
def SmL : List Rex → Prop
  | [] => True
  | r :: l => Sm r ∧ SmL l
end
theorem tc_toRexS (l : List Rex) (hl : l.length ≤ 1048576) (ih : ∀ i (h : i < l.length), TC Tryd.prog 62 [.agg (encRex l[i])] [] (.agg (encRex l[i])) []) : TC Tryd.prog 85 [.ro (l.map encRex)] [] (.ro (l.map encRex)) [] := by
  suffices h : TC Tryd.prog 85 [.ro (l.map encRex)] [] (.own 81 (l.map encRex)) [] by simpa using h.frz
  refine TC.enter Tryd.func85 rfl (by simp [Tryd.ntmps85]) rfl (tw_sound (ρ := []) ?_)
  rw [Tryd.ntmps85]
  simp [makeV]
  rw [gif_pos (by omega)]
  refine gall_intro fun id hid => ?_
  simp
  refine TWcH.loop [] (fun m s => ∃ i, i + m = l.length ∧ s.σ 0 = .ro (l.map encRex) ∧ s.σ 3 = .hd id ∧ s.σ 4 = .val (.int .i64 i) ∧ s.H id = some (.own 81 (fillR encRex [.val (.int .i64 0), .val (.slice none 0 0), .val (.slice none 0 0)] l i))) l.length ⟨0, by simp⟩ ?_
  rintro m ⟨σ, H⟩ ⟨i, him, h0, h3, h4, hH⟩
  simp only at h0 h3 h4 hH
  by_cases hi : i < l.length
  · have hw := hw1 hi (by omega)
    simp [h0, h3, h4, getI hi, hi]
    refine TWoH.callV (ih i hi) callable_62 (by simp [*]) (by simp) (by simp) (by simp [*]) ?_
    simp [h0, h3, h4, hH, hi, fillR_at hi, fillR_at' hi, fillR_len (Nat.le_of_lt hi), fillR_set hi, hw]
    exact ⟨m - 1, by omega, i + 1, by omega, by omega, rfl⟩
  · simp [h0, h3, h4, hH, hi, fillR_all (Nat.le_of_not_lt hi)]

mutual
theorem tc_toRex : ∀ (r : Rex), Sm r → TC Tryd.prog 62 [.agg (encRex r)] [] (.agg (encRex r)) []
  | .mk k s l, hs => by
    refine TC.enter Tryd.func62 rfl (by simp [Tryd.ntmps62]) rfl (tw_sound (ρ := [1]) ?_)
    rw [Tryd.ntmps62]
    simp [encRex]
    refine gall_intro fun a ha => ?_
    simp
    refine gall_intro fun b hb => ?_
    simp at hb
    simp [hb, Ne.symm hb]
    refine TWoH.callV (tc_toSpanS' s hs.1) callable_84 (by simp [*]) (by simp) (by simp) (by simp [*]) ?_
    simp [hb, Ne.symm hb]
    refine TWoH.callV (tc_toRexS l hs.2.1 (tc_toRexL l hs.2.2)) callable_85 (by simp [*, encRexL_eq]) (by simp) (by simp) (by simp [*]) ?_
    simp [hb, Ne.symm hb, encRexL_eq]
theorem tc_toRexL : ∀ (l : List Rex), SmL l → ∀ i (h : i < l.length), TC Tryd.prog 62 [.agg (encRex l[i])] [] (.agg (encRex l[i])) []
  | r :: l, hs, 0, _ => tc_toRex r hs.1
  | r :: l, hs, i + 1, h => by
    simp only [List.getElem_cons_succ]
    exact tc_toRexL l hs.2 i (by simpa using h)
end
theorem tc_toRule (r : Rule) (hs : Sm r.rex) : TC Tryd.prog 40 [.agg (encRule r)] [] (.agg (encRule r)) [] := by
  refine TC.enter Tryd.func40 rfl (by simp [Tryd.ntmps40]) rfl (tw_sound (ρ := [1]) ?_)
  rw [Tryd.ntmps40]
  simp [encRule]
  refine gall_intro fun a ha => ?_
  simp
  refine gall_intro fun b hb => ?_
  simp at hb
  simp [hb, Ne.symm hb]
  refine TWoH.callV (tc_toRex r.rex hs) callable_62 (by simp [*]) (by simp) (by simp) (by simp [*]) ?_
  simp [hb, Ne.symm hb]
theorem tc_toRuleS (l : List Rule) (hl : l.length ≤ 1048576) (hs : ∀ r ∈ l, Sm r.rex) : TC Tryd.prog 19 [.ro (l.map encRule)] [] (.ro (l.map encRule)) [] := by
  suffices h : TC Tryd.prog 19 [.ro (l.map encRule)] [] (.own 83 (l.map encRule)) [] by simpa using h.frz
  refine TC.enter Tryd.func19 rfl (by simp [Tryd.ntmps19]) rfl (tw_sound (ρ := []) ?_)
  rw [Tryd.ntmps19]
  simp [makeV]
  rw [gif_pos (by omega)]
  refine gall_intro fun id hid => ?_
  simp
  refine TWcH.loop [] (fun m s => ∃ i, i + m = l.length ∧ s.σ 0 = .ro (l.map encRule) ∧ s.σ 3 = .hd id ∧ s.σ 4 = .val (.int .i64 i) ∧ s.H id = some (.own 83 (fillR encRule [.val (.string (bs [])), .val (.int .i64 0), .val (.slice none 0 0), .val (.slice none 0 0)] l i))) l.length ⟨0, by simp⟩ ?_
  rintro m ⟨σ, H⟩ ⟨i, him, h0, h3, h4, hH⟩
  simp only at h0 h3 h4 hH
  by_cases hi : i < l.length
  · have hw := hw1 hi (by omega)
    simp [h0, h3, h4, getI hi, hi]
    refine TWoH.callV (tc_toRule l[i] (hs _ (List.getElem_mem _))) callable_40 (by simp [*]) (by simp) (by simp) (by simp [*]) ?_
    simp [h0, h3, h4, hH, hi, fillR_at hi, fillR_at' hi, fillR_len (Nat.le_of_lt hi), fillR_set hi, hw]
    exact ⟨m - 1, by omega, i + 1, by omega, by omega, rfl⟩
  · simp [h0, h3, h4, hH, hi, fillR_all (Nat.le_of_not_lt hi)]
end Go.Proofs.YtmpeolimleladaaDoor.R

open Go Go.Proofs.YtmpeolimleladaaDoor.T
namespace Go.Proofs.YtmpeolimleladaaDoor.R
set_option maxHeartbeats 2000000
set_option linter.unusedSimpArgs false
set_option linter.unusedVariables false
set_option maxRecDepth 100000
def wc (c : UInt8) : Bool := decide (97 ≤ c.toNat ∧ c.toNat ≤ 122)
def wordOk (l : List UInt8) : Bool := l.all wc && decide (0 < l.length ∧ l.length ≤ 6)
theorem all_drop {α : Type _} {p : α → Bool} {l : List α} {i : Nat} (h : i < l.length) : (l.drop i).all p = (p l[i] && (l.drop (i + 1)).all p) := by
  conv => lhs; rw [List.drop_eq_getElem_cons h]
  rw [List.all_cons]
theorem any_drop {α : Type _} {p : α → Bool} {l : List α} {i : Nat} (h : i < l.length) : (l.drop i).any p = (p l[i] || (l.drop (i + 1)).any p) := by
  conv => lhs; rw [List.drop_eq_getElem_cons h]
  rw [List.any_cons]
theorem drop_all {α : Type _} {l : List α} {i : Nat} (h : ¬ i < l.length) : l.drop i = [] := List.drop_eq_nil_of_le (by omega)
theorem tc_sRuleWord (w : List UInt8) (hw : w.length ≤ 1152921504606846976) : TC Tryd.prog 59 [.val (.string (bs w))] [] (.val (.bool (wordOk w))) [] := by
  refine TC.enter Tryd.func59 rfl (by simp [Tryd.ntmps59]) rfl (tw_sound (ρ := []) ?_)
  rw [Tryd.ntmps59]
  simp
  refine TWcH.loop [] (fun m s => ∃ i, i + m = w.length ∧ s.σ 0 = .val (.string (bs w)) ∧ s.σ 3 = .val (.int .i64 i) ∧ w.all wc = (w.drop i).all wc) w.length ⟨0, by simp⟩ ?_
  rintro m ⟨σ, H⟩ ⟨i, him, h0, h3, hh⟩
  simp only at h0 h3
  by_cases hi : i < w.length
  · rw [all_drop hi] at hh
    have hw := hw1 hi hw
    simp [h0, h3, getI hi, hi]
    refine gif_intro (fun c1 => ?_) (fun c1 => ?_) <;> simp [h0, h3, getI hi, hi, c1]
    · rw [wordOk, hh, show wc w[i] = false by simp [wc]; omega]; rfl
    · refine gif_intro (fun c2 => ?_) (fun c2 => ?_) <;> simp [h0, h3, getI hi, hi, c1, c2, hw]
      · rw [wordOk, hh, show wc w[i] = false by simp [wc]; omega]; rfl
      · refine ⟨m - 1, by omega, i + 1, by omega, by omega, ?_⟩
        rw [hh, show wc w[i] = true by simp [wc]; omega]; rfl
  · simp [h0, h3, hi]
    rw [drop_all hi] at hh
    refine gif_intro (fun c1 => ?_) (fun c1 => ?_) <;> simp [h0, h3, c1]
    · rw [wordOk, hh, Bool.eq_iff_iff]; simp; omega
    · rw [wordOk, hh, Bool.eq_iff_iff]; simp; omega
def kidsN (k : Int) : Int := if k = 1 ∨ k = 2 then 0 else if k = 5 ∨ k = 7 then 1 else if k = 3 ∨ k = 4 ∨ k = 6 then 2 else -1
theorem tc_sl2Kids (k : Int) : TC Tryd.prog 106 [.val (.int .i64 k)] [] (.val (.int .i64 (kidsN k))) [] := by
  refine TC.enter Tryd.func106 rfl (by simp [Tryd.ntmps106]) rfl (tw_sound (ρ := []) ?_)
  rw [Tryd.ntmps106]
  simp
  repeat' (refine gif_intro (fun c1 => ?_) (fun c1 => ?_) <;> simp [c1])
  all_goals simp [kidsN, *]
def okX (p : Option Int) (x : Int × Int) : Bool := decide (0 ≤ x.1 ∧ x.2 ≤ 255 ∧ x.1 ≤ x.2 ∧ ∀ q, p = some q → q + 1 < x.1)
def setOkP : Option Int → List (Int × Int) → Bool
  | _, [] => true
  | p, x :: l => okX p x && setOkP (some x.2) l
def prevOf (l : List (Int × Int)) (i : Nat) : Option Int := if 0 < i then (l[i - 1]?).map (·.2) else none
theorem setOkP_drop {l : List (Int × Int)} {i : Nat} (h : i < l.length) (p : Option Int) : setOkP p (l.drop i) = (okX p l[i] && setOkP (some l[i].2) (l.drop (i + 1))) := by
  conv => lhs; rw [List.drop_eq_getElem_cons h]
  rw [setOkP]
def setOk (l : List (Int × Int)) : Bool := setOkP none l
theorem prevOf_succ {l : List (Int × Int)} {i : Nat} (h : i < l.length) : prevOf l (i + 1) = some l[i].2 := by simp [prevOf, getI h]
theorem prevOf_pos {l : List (Int × Int)} {i : Nat} (h : i - 1 < l.length) (h0 : 0 < i) : prevOf l i = some l[i - 1].2 := by simp [prevOf, getI h, h0]
theorem tc_sSetOk (l : List (Int × Int)) (hl : l.length ≤ 1152921504606846976) : TC Tryd.prog 107 [.ro (l.map encSp)] [] (.val (.bool (setOk l))) [] := by
  refine TC.enter Tryd.func107 rfl (by simp [Tryd.ntmps107]) rfl (tw_sound (ρ := []) ?_)
  rw [Tryd.ntmps107]
  simp
  refine TWcH.loop [] (fun m s => ∃ i, i + m = l.length ∧ s.σ 0 = .ro (l.map encSp) ∧ s.σ 3 = .val (.int .i64 i) ∧ (∀ q, prevOf l i = some q → 0 ≤ q ∧ q ≤ 255) ∧ setOk l = setOkP (prevOf l i) (l.drop i)) l.length ⟨0, by simp [prevOf, setOk]⟩ ?_
  rintro m ⟨σ, H⟩ ⟨i, him, h0, h3, hp, hh⟩
  simp only at h0 h3
  by_cases hi : i < l.length
  · rw [setOkP_drop hi] at hh
    have hw := hw1 hi hl
    have bad : ¬ okX (prevOf l i) l[i] = true → setOk l = false := fun h => by rw [hh, Bool.eq_false_iff.2 h]; rfl
    have good : okX (prevOf l i) l[i] = true → ∃ m', m' < m ∧ ∃ i', i' + m' = l.length ∧ (i : Int) + 1 = (i' : Int) ∧ (∀ q, prevOf l i' = some q → 0 ≤ q ∧ q ≤ 255) ∧ setOk l = setOkP (prevOf l i') (l.drop i') := fun h => by
      refine ⟨m - 1, by omega, i + 1, by omega, by omega, ?_, by rw [hh, h, prevOf_succ hi]; rfl⟩
      rw [prevOf_succ hi]
      rintro q ⟨⟩
      simp only [okX, decide_eq_true_eq] at h
      omega
    simp only [okX, decide_eq_true_eq] at bad good
    simp [h0, h3, getI hi, hi]
    refine TWcH.regionD (ρ := []) [0, 1, 2, 3, 4, 5, 6, 7, 8, 9, 10, 11, 12, 13, 14, 15, 16, 17, 18, 19, 20, 21, 22, 23, 24, 25, 26, 27, 28, 29, 30, 31, 32, 33, 34, 35, 36, 37, 38, 39, 40, 41, 42, 43, 44, 45] 46 mixed (by kernel_rfl) ?_
    simp [h0, h3, getI hi, hi, encSp]
    refine gif_intro (fun c1 => ?_) (fun c1 => ?_) <;> simp [h0, h3, getI hi, hi, encSp, c1]
    · exact bad (by omega)
    refine gif_intro (fun c2 => ?_) (fun c2 => ?_) <;> simp [h0, h3, getI hi, hi, encSp, c1, c2]
    · exact bad (by omega)
    refine gif_intro (fun c3 => ?_) (fun c3 => ?_) <;> simp [h0, h3, getI hi, hi, encSp, c1, c2, c3]
    · exact bad (by omega)
    refine gif_intro (fun c4 => ?_) (fun c4 => ?_) <;> simp [h0, h3, getI hi, hi, encSp, c1, c2, c3, c4, hw]
    · have hj : i - 1 < l.length := by omega
      have e : IntKind.i64.wrap ((i : Int) - 1) = ((i - 1 : Nat) : Int) := by rw [wrapi (by omega)]; omega
      have hq := hp _ (prevOf_pos hj c4)
      have e2 : IntKind.i64.wrap (l[i - 1].2 + 1) = l[i - 1].2 + 1 := wrapi (by omega)
      rw [prevOf_pos hj c4] at bad good
      simp [h0, h3, getI hi, getI hj, hi, hj, encSp, c1, c2, c3, c4, e, e2]
      refine gif_intro (fun c5 => ?_) (fun c5 => ?_) <;> simp [h0, h3, getI hi, hi, encSp, c1, c2, c3, c4, c5, hw]
      · exact bad (fun h => by have := h.2.2.2 _ rfl; omega)
      · exact good ⟨by omega, by omega, by omega, fun q hq => by cases hq; omega⟩
    · exact good ⟨by omega, by omega, by omega, fun q hq => by simp [prevOf, c4] at hq⟩
  · rw [drop_all hi] at hh
    simp [h0, h3, hi, hh, setOkP]
end Go.Proofs.YtmpeolimleladaaDoor.R

open Go Go.Proofs.YtmpeolimleladaaDoor.T
namespace Go.Proofs.YtmpeolimleladaaDoor.R
set_option maxHeartbeats 2000000
set_option linter.unusedSimpArgs false
set_option linter.unusedVariables false
set_option maxRecDepth 100000
def headOk (k : Int) (s : List (Int × Int)) (l : List Rex) : Bool := decide (kidsN k = l.length) && (decide (k = 1) || decide (s.length = 0)) && setOk s
def formF : Nat → Rex → Bool
  | 0, _ => false
  | d + 1, .mk k s l => headOk k s l && l.all (formF d)
theorem SmL.get : ∀ {l : List Rex} {i : Nat} (h : SmL l) (hi : i < l.length), Sm l[i]
  | r :: l, 0, h, _ => h.1
  | r :: l, i + 1, h, hi => by
    simp only [List.getElem_cons_succ]
    exact SmL.get h.2 (by simpa using hi)
theorem tc_sl2Form : ∀ (d : Nat) (r : Rex), d ≤ 1000 → Sm r → TC Tryd.prog 80 [.agg (encRex r), .val (.int .i64 d)] [] (.val (.bool (formF d r))) []
  | 0, .mk k s l, hd, hs => by
    refine TC.enter Tryd.func80 rfl (by simp [Tryd.ntmps80]) rfl (tw_sound (ρ := [2]) ?_)
    rw [Tryd.ntmps80]
    simp [encRex]
    refine TWcH.regionD (ρ := [2]) [0, 1, 2, 3, 4, 6, 7, 8, 5, 9, 10, 11, 12, 13, 14, 15, 16, 17, 18, 19, 20, 21, 22, 23, 24, 25, 26, 27] 28 mixed (by kernel_rfl) ?_
    simp [formF]
  | d + 1, .mk k s l, hd, hs => by
    refine TC.enter Tryd.func80 rfl (by simp [Tryd.ntmps80]) rfl (tw_sound (ρ := [2]) ?_)
    rw [Tryd.ntmps80]
    simp [encRex, encRexL_eq]
    refine TWcH.regionD (ρ := [2]) [0, 1, 2, 3, 4, 6, 7, 8, 5, 9, 10, 11, 12, 13, 14, 15, 16, 17, 18, 19, 20, 21, 22, 23, 24, 25, 26, 27] 28 mixed (by kernel_rfl) ?_
    have c1 : ¬ ((d : Int) + 1 < 1) := by omega
    simp [c1]
    refine TWqH.callV (tc_sl2Kids k) callable_106 (by simp [*]) (by simp) (by simp) (by simp [*]) ?_
    simp [c1]
    have bad : headOk k s l = false → formF (d + 1) (.mk k s l) = false := fun h => by simp [formF, h]
    refine gif_intro (fun c2 => ?_) (fun c2 => ?_) <;> simp [c1, c2]
    case refine_2 => exact bad (by simp [headOk, c2])
    have fin : ∀ (Q : Prop), (k = 1 ∨ s.length = 0 → Q) → (¬ (k = 1 ∨ s.length = 0) → Q) → Q := fun Q h h' => (Classical.em _).elim h h'
    refine fin _ (fun c3 => ?_) (fun c3 => ?_)
    · have hX : headOk k s l = setOk s := by
        rw [headOk, show decide (kidsN k = l.length) = true by simp [c2], show (decide (k = 1) || decide (s.length = 0)) = true by rcases c3 with c3 | c3 <;> simp [c3]]
        rfl
      have good : setOk s = true → formF (d + 1) (.mk k s l) = l.all (formF d) := fun h => by rw [formF, hX, h]; rfl
      rcases (show (k = 1 ∨ (¬ k = 1 ∧ ¬ 0 < s.length)) by omega) with c4 | ⟨c4, c5⟩
      · subst c4
        simp [c1, c2]
        refine TWqH.callV (tc_sSetOk s (by have := hs.1; omega)) callable_107 (by simp) (by simp) (by simp) (by simp) ?_
        simp [c1, c2]
        refine gif_intro (fun c6 => ?_) (fun c6 => ?_) <;> simp [c1, c2, c6]
        · refine TWcH.loop [] (fun m s' => ∃ i, i + m = l.length ∧ s'.σ 1 = .val (.int .i64 ((d : Int) + 1)) ∧ s'.σ 2 = .rptr [.val (.int .i64 1), .ro (s.map encSp), .ro (l.map encRex)] 0 ∧ s'.σ 5 = .val (.int .i64 i) ∧ l.all (formF d) = (l.drop i).all (formF d)) l.length ⟨0, by simp⟩ ?_
          rintro m ⟨σ, H⟩ ⟨i, him, h1, h2, h5, hh⟩
          simp only at h1 h2 h5
          by_cases hi : i < l.length
          · rw [all_drop hi] at hh
            have hw := hw1 hi (by have := hs.2.1; omega)
            have hd1 : IntKind.i64.wrap (d : Int) = d := wrapi (by omega)
            simp [h1, h2, h5, getI hi, hi]
            refine TWoH.callV (tc_sl2Form d l[i] (by omega) (SmL.get hs.2.2 hi)) callable_80 (by simp [hd1, h1, h2, h5]) (by simp) (by simp) (by simp) ?_
            simp [h1, h2, h5, getI hi, hi]
            refine gif_intro (fun c7 => ?_) (fun c7 => ?_) <;> simp [h1, h2, h5, getI hi, hi, c7, hw]
            · exact ⟨m - 1, by omega, i + 1, by omega, by omega, by rw [hh, c7]; rfl⟩
            · rw [good c6, hh, Bool.eq_false_iff.2 c7]; rfl
          · rw [drop_all hi] at hh
            simp [h1, h2, h5, hi, good c6, hh]
        · exact bad (by rw [hX]; simpa using c6)
      · simp [c1, c2, c4, c5]
        refine TWqH.callV (tc_sSetOk s (by have := hs.1; omega)) callable_107 (by simp) (by simp) (by simp) (by simp) ?_
        simp [c1, c2, c4, c5]
        refine gif_intro (fun c6 => ?_) (fun c6 => ?_) <;> simp [c1, c2, c4, c5, c6]
        · refine TWcH.loop [] (fun m s' => ∃ i, i + m = l.length ∧ s'.σ 1 = .val (.int .i64 ((d : Int) + 1)) ∧ s'.σ 2 = .rptr [.val (.int .i64 k), .ro (s.map encSp), .ro (l.map encRex)] 0 ∧ s'.σ 5 = .val (.int .i64 i) ∧ l.all (formF d) = (l.drop i).all (formF d)) l.length ⟨0, by simp⟩ ?_
          rintro m ⟨σ, H⟩ ⟨i, him, h1, h2, h5, hh⟩
          simp only at h1 h2 h5
          by_cases hi : i < l.length
          · rw [all_drop hi] at hh
            have hw := hw1 hi (by have := hs.2.1; omega)
            have hd1 : IntKind.i64.wrap (d : Int) = d := wrapi (by omega)
            simp [h1, h2, h5, getI hi, hi]
            refine TWoH.callV (tc_sl2Form d l[i] (by omega) (SmL.get hs.2.2 hi)) callable_80 (by simp [hd1, h1, h2, h5]) (by simp) (by simp) (by simp) ?_
            simp [h1, h2, h5, getI hi, hi]
            refine gif_intro (fun c7 => ?_) (fun c7 => ?_) <;> simp [h1, h2, h5, getI hi, hi, c7, hw]
            · exact ⟨m - 1, by omega, i + 1, by omega, by omega, by rw [hh, c7]; rfl⟩
            · rw [good c6, hh, Bool.eq_false_iff.2 c7]; rfl
          · rw [drop_all hi] at hh
            simp [h1, h2, h5, hi, good c6, hh]
        · exact bad (by rw [hX]; simpa using c6)
    · rcases (show (¬ k = 1 ∧ 0 < s.length) by omega) with ⟨c4, c5⟩
      simp [c1, c2, c4, c5]
      exact bad (by simp only [headOk, c4, show ¬ s.length = 0 by omega]; simp)
end Go.Proofs.YtmpeolimleladaaDoor.R

open Go Go.Proofs.YtmpeolimleladaaDoor.T
namespace Go.Proofs.YtmpeolimleladaaDoor.R
set_option maxHeartbeats 2000000
set_option linter.unusedSimpArgs false
set_option linter.unusedVariables false
set_option maxRecDepth 100000
mutual
def manyN : Rex → Nat
  | .mk _ _ l => 1 + manyL l
def manyL : List Rex → Nat
  | [] => 0
  | r :: l => manyN r + manyL l
end
theorem manyL_append : ∀ (a b : List Rex), manyL (a ++ b) = manyL a + manyL b
  | [], b => by simp [manyL]
  | r :: a, b => by simp [manyL, manyL_append a b]; omega
theorem manyL_take {l : List Rex} {i : Nat} (h : i < l.length) : manyL (l.take (i + 1)) = manyL (l.take i) + manyN l[i] := by
  rw [List.take_succ_eq_append_getElem h, manyL_append]; simp [manyL]
theorem kidsN_le (k : Int) : kidsN k ≤ 2 := by unfold kidsN; split; omega; split; omega; split <;> omega
theorem manyL_le {b : Nat} : ∀ (l : List Rex), (∀ r ∈ l, manyN r ≤ b) → manyL l ≤ l.length * b
  | [], _ => by simp [manyL]
  | r :: l, h => by
    have h1 := h r (by simp)
    have h2 := manyL_le l fun r hr => h r (by simp [hr])
    simp only [manyL, List.length_cons, Nat.add_mul]
    omega
theorem many_le : ∀ (d : Nat) (r : Rex), formF d r = true → manyN r ≤ 2 ^ d - 1
  | 0, r, h => by simp [formF] at h
  | d + 1, .mk k s l, h => by
    simp only [formF, headOk, Bool.and_eq_true, decide_eq_true_eq, List.all_eq_true] at h
    have hk := kidsN_le k
    have h1 := manyL_le (b := 2 ^ d - 1) l fun r hr => many_le d r (h.2 r hr)
    have h2 : l.length ≤ 2 := by omega
    have h3 : 1 ≤ 2 ^ d := Nat.one_le_two_pow
    have h4 : l.length * (2 ^ d - 1) ≤ 2 * (2 ^ d - 1) := Nat.mul_le_mul_right _ h2
    simp only [manyN, Nat.pow_succ]
    omega
theorem formF_kid {d : Nat} {k : Int} {s : List (Int × Int)} {l : List Rex} (h : formF (d + 1) (.mk k s l) = true) {i : Nat} (hi : i < l.length) : formF d l[i] = true := by
  simp only [formF, Bool.and_eq_true, List.all_eq_true] at h
  exact h.2 _ (List.getElem_mem hi)
theorem tc_sl2Many : ∀ (d : Nat) (r : Rex), d ≤ 8 → Sm r → formF d r = true → TC Tryd.prog 81 [.agg (encRex r), .val (.int .i64 d)] [] (.val (.int .i64 (manyN r))) []
  | 0, r, hd, hs, hf => by simp [formF] at hf
  | d + 1, .mk k s l, hd, hs, hf => by
    refine TC.enter Tryd.func81 rfl (by simp [Tryd.ntmps81]) rfl (tw_sound (ρ := [2]) ?_)
    rw [Tryd.ntmps81]
    simp [encRex, encRexL_eq]
    have hm := many_le _ _ hf
    have h2d : 2 ^ (d + 1) ≤ 2 ^ 8 := Nat.pow_le_pow_right (by omega) hd
    simp only [manyN] at hm
    refine TWcH.loop [] (fun m s' => ∃ i, i + m = l.length ∧ s'.σ 1 = .val (.int .i64 ((d : Int) + 1)) ∧ s'.σ 2 = .rptr [.val (.int .i64 k), .ro (s.map encSp), .ro (l.map encRex)] 0 ∧ s'.σ 6 = .val (.int .i64 i) ∧ s'.σ 5 = .val (.int .i64 (1 + manyL (l.take i) : Nat))) l.length ⟨0, by simp [manyL]⟩ ?_
    rintro m ⟨σ, H⟩ ⟨i, him, h1, h2, h6, h5⟩
    simp only at h1 h2 h6 h5
    by_cases hi : i < l.length
    · have hw := hw1 hi (by have := hs.2.1; omega)
      have hd1 : IntKind.i64.wrap (d : Int) = d := wrapi (by omega)
      have e := manyL_take hi
      have e' : manyL (l.take (i + 1)) ≤ manyL l := by
        have := manyL_append (l.take (i + 1)) (l.drop (i + 1))
        rw [List.take_append_drop] at this
        omega
      have hw2 : IntKind.i64.wrap (1 + (manyL (l.take i) : Int) + manyN l[i]) = 1 + (manyL (l.take i) : Int) + manyN l[i] := wrapi (by omega)
      have hp : (0 : Int) < (d : Int) + 1 := by omega
      simp [h1, h2, h5, h6, getI hi, hi, hp]
      refine TWoH.callV (tc_sl2Many d l[i] (by omega) (SmL.get hs.2.2 hi) (formF_kid hf hi)) callable_81 (by simp [hd1, h1, h2, h5]) (by simp) (by simp) (by simp) ?_
      simp [h1, h2, h5, h6, getI hi, hi, hw, hw2]
      exact ⟨m - 1, by omega, i + 1, by omega, by omega, by rw [e]; simp; omega⟩
    · have e : l.take i = l := List.take_of_length_le (by omega)
      simp [h1, h2, h5, h6, hi, manyN, e]
def rexOk (r : Rex) : Bool := formF 8 r && decide (manyN r ≤ 24)
theorem tc_sRexOk (r : Rex) (hs : Sm r) : TC Tryd.prog 60 [.agg (encRex r)] [] (.val (.bool (rexOk r))) [] := by
  refine TC.enter Tryd.func60 rfl (by simp [Tryd.ntmps60]) rfl (tw_sound (ρ := [1]) ?_)
  rw [Tryd.ntmps60]
  simp
  refine TWoH.callV (tc_sl2Form 8 r (by omega) hs) callable_80 (by simp) (by simp) (by simp) (by simp) ?_
  simp
  refine gif_intro (fun c1 => ?_) (fun c1 => ?_) <;> simp [c1]
  · refine TWoH.callV (tc_sl2Many 8 r (by omega) hs c1) callable_81 (by simp) (by simp) (by simp) (by simp) ?_
    simp [c1, rexOk]
    omega
  · simp [rexOk, c1]
def hasS (l : List (Int × Int)) (b : Int) : Bool := l.any fun s => decide (s.1 ≤ b ∧ b ≤ s.2)
end Go.Proofs.YtmpeolimleladaaDoor.R

open Go Go.Proofs.YtmpeolimleladaaDoor.T
namespace Go.Proofs.YtmpeolimleladaaDoor.R
set_option maxHeartbeats 2000000
set_option linter.unusedSimpArgs false
set_option linter.unusedVariables false
set_option maxRecDepth 100000
def encB (b : Bool) : List TV := [.val (.bool b)]
@[simp] theorem len_B (b : Bool) : (encB b).length = 1 := rfl
@[simp] theorem take_B (b : Bool) : (encB b).take 1 = [.val (.bool b)] := rfl
@[simp] theorem drop_B (b : Bool) : (encB b).drop 1 = [] := rfl
section
variable {R : List Bool} {b : Bool} {x : List TV} {z : List (List TV)} {k i : Nat}
theorem sh_get (h : R.length = k) : (R.map encB ++ x :: z)[k]? = some x := by
  subst h
  rw [List.getElem?_append_right (by simp)]; simp
theorem sh_get' (h : R.length = k) (h' : k < (R.map encB ++ x :: z).length) : (R.map encB ++ x :: z)[k] = x := by
  have := sh_get (x := x) (z := z) h
  rw [List.getElem?_eq_getElem h'] at this
  exact Option.some.inj this
theorem sh_old (h : i < R.length) : (R.map encB ++ x :: z)[i]? = some (encB R[i]) := by
  rw [List.getElem?_append_left (by simpa using h)]; simp [h]
theorem sh_old' (h : i < R.length) (h' : i < (R.map encB ++ x :: z).length) : (R.map encB ++ x :: z)[i] = encB R[i] := by
  have := sh_old (x := x) (z := z) h
  rw [List.getElem?_eq_getElem h'] at this
  exact Option.some.inj this
theorem sh_set (h : R.length = k) (y : List TV) : (R.map encB ++ x :: z).set k y = R.map encB ++ y :: z := by
  subst h
  rw [List.set_append_right _ _ (by simp)]; simp
end
/-- Is the piece up to k, from a place before i that is reached, one of f? -/
def anyF (f : List UInt8 → Bool) (t : List UInt8) (R : List Bool) (k i : Nat) : Bool := (List.range i).any fun j => R.getD j false && f ((t.take k).drop j)
theorem anyF_succ {f : List UInt8 → Bool} {t : List UInt8} {R : List Bool} {k i : Nat} (h : i < R.length) : anyF f t R k (i + 1) = (anyF f t R k i || (R[i] && f ((t.take k).drop i))) := by
  simp [anyF, List.range_succ, h]
def reachL (f : List UInt8 → Bool) (t : List UInt8) : Nat → List Bool
  | 0 => [true]
  | k + 1 => reachL f t k ++ [anyF f t (reachL f t k) (k + 1) (k + 1)]
@[simp] theorem reachL_len (f : List UInt8 → Bool) (t : List UInt8) : ∀ k, (reachL f t k).length = k + 1
  | 0 => rfl
  | k + 1 => by simp [reachL, reachL_len f t k]
def starF (f : List UInt8 → Bool) (t : List UInt8) : Bool := (reachL f t t.length).getD t.length false
theorem anyF_more {f : List UInt8 → Bool} {t : List UInt8} {R : List Bool} {k i j : Nat} (h : anyF f t R k i = true) (hij : i ≤ j) : anyF f t R k j = true := by
  simp only [anyF, List.any_eq_true, List.mem_range] at h ⊢
  obtain ⟨x, hx, h⟩ := h
  exact ⟨x, by omega, h⟩
end Go.Proofs.YtmpeolimleladaaDoor.R

open Go Go.Proofs.YtmpeolimleladaaDoor.T
namespace Go.Proofs.YtmpeolimleladaaDoor.R
set_option maxHeartbeats 2000000
set_option linter.unusedSimpArgs false
set_option linter.unusedVariables false
set_option maxRecDepth 100000
def catF (fa fb : List UInt8 → Bool) (t : List UInt8) (k : Nat) : Bool := (List.range' k (t.length + 1 - k)).any fun k => fa (t.take k) && fb (t.drop k)
theorem catF_next {fa fb : List UInt8 → Bool} {t : List UInt8} {k : Nat} (h : k ≤ t.length) : catF fa fb t k = ((fa (t.take k) && fb (t.drop k)) || catF fa fb t (k + 1)) := by
  unfold catF
  rw [show t.length + 1 - k = (t.length + 1 - (k + 1)) + 1 by omega, List.range'_succ, List.any_cons]
def isF : Nat → Rex → List UInt8 → Bool
  | 0, _, _ => false
  | d + 1, .mk k s l, t =>
    if k = 1 then decide (t.length = 1) && hasS s (t.headD 0).toNat else if k = 2 then decide (t = []) else match l with
      | [a] => if k = 5 then starF (isF d a) t else !isF d a t
      | [a, b] => if k = 3 then catF (isF d a) (isF d b) t 0 else if k = 4 then isF d a t || isF d b t else isF d a t && isF d b t
      | _ => false
theorem form_kids {d : Nat} {k : Int} {s : List (Int × Int)} {l : List Rex} (h : formF (d + 1) (.mk k s l) = true) :
    ((k = 1 ∨ k = 2) ∧ l = []) ∨ (∃ a, (k = 5 ∨ k = 7) ∧ l = [a] ∧ formF d a = true) ∨ (∃ a b, (k = 3 ∨ k = 4 ∨ k = 6) ∧ l = [a, b] ∧ formF d a = true ∧ formF d b = true) := by
  simp only [formF, headOk, Bool.and_eq_true, decide_eq_true_eq, List.all_eq_true] at h
  have h1 := h.1.1.1
  unfold kidsN at h1
  split at h1
  · rename_i hk
    exact .inl ⟨hk, List.length_eq_zero_iff.1 (by omega)⟩
  split at h1
  · rename_i hk
    obtain ⟨a, rfl⟩ := List.length_eq_one_iff.1 (show l.length = 1 by omega)
    exact .inr (.inl ⟨a, hk, rfl, h.2 a (by simp)⟩)
  split at h1
  · rename_i hk
    match l, h1, h.2 with
    | [a, b], _, h2 => exact .inr (.inr ⟨a, b, hk, rfl, h2 a (by simp), h2 b (by simp)⟩)
  · omega
end Go.Proofs.YtmpeolimleladaaDoor.R

open Go Go.Proofs.YtmpeolimleladaaDoor.T
namespace Go.Proofs.YtmpeolimleladaaDoor.R
set_option maxHeartbeats 2000000
set_option linter.unusedSimpArgs false
set_option linter.unusedVariables false
set_option maxRecDepth 100000
def nm (l : List Rule) (j : Nat) : List UInt8 := match l[j]? with
  | some r => r.name
  | none => []
def newN (l : List Rule) (i k : Nat) : Bool := (List.range' k (i - k)).all fun j => decide (nm l j ≠ nm l i)
theorem newN_next {l : List Rule} {i k : Nat} (h : k < i) : newN l i k = (decide (nm l k ≠ nm l i) && newN l i (k + 1)) := by
  unfold newN
  rw [show i - k = (i - (k + 1)) + 1 by omega, List.range'_succ, List.all_cons]
theorem newN_end {l : List Rule} {i k : Nat} (h : ¬ k < i) : newN l i k = true := by
  unfold newN
  rw [show i - k = 0 by omega]; rfl
def ruleAt (l : List Rule) (i : Nat) : Bool := (match l[i]? with
  | some r => wordOk r.name && rexOk r.rex
  | none => false) && newN l i 0
def okFrom (l : List Rule) (i : Nat) : Bool := (List.range' i (l.length - i)).all (ruleAt l)
theorem okFrom_next {l : List Rule} {i : Nat} (h : i < l.length) : okFrom l i = (ruleAt l i && okFrom l (i + 1)) := by
  unfold okFrom
  rw [show l.length - i = (l.length - (i + 1)) + 1 by omega, List.range'_succ, List.all_cons]
theorem okFrom_end {l : List Rule} {i : Nat} (h : ¬ i < l.length) : okFrom l i = true := by
  unfold okFrom
  rw [show l.length - i = 0 by omega]; rfl
def rulesOk (l : List Rule) : Bool := decide (1 ≤ l.length ∧ l.length ≤ 5) && okFrom l 0
def RSm (l : List Rule) : Prop := l.length ≤ 1048576 ∧ ∀ r ∈ l, Sm r.rex ∧ r.name.length ≤ 1048576
theorem tc_sRulesOk (l : List Rule) (hs : RSm l) : TC Tryd.prog 38 [.ro (l.map encRule)] [] (.val (.bool (rulesOk l))) [] := by
  refine TC.enter Tryd.func38 rfl (by simp [Tryd.ntmps38]) rfl (tw_sound (ρ := []) ?_)
  rw [Tryd.ntmps38]
  simp
  refine gif_intro (fun c1 => ?_) (fun c1 => ?_) <;> simp [c1]
  · simp [rulesOk]; omega
  refine gif_intro (fun c2 => ?_) (fun c2 => ?_) <;> simp [c1, c2]
  · simp [rulesOk]; omega
  have hr : rulesOk l = okFrom l 0 := by rw [rulesOk, show decide (1 ≤ l.length ∧ l.length ≤ 5) = true by simp; omega]; rfl
  refine TWcH.loop [] (fun m s => ∃ i, i + m = l.length ∧ s.σ 0 = .ro (l.map encRule) ∧ s.σ 3 = .val (.int .i64 i) ∧ okFrom l 0 = okFrom l i) l.length ⟨0, by simp⟩ ?_
  rintro m ⟨σ, H⟩ ⟨i, him, h0, h3, hh⟩
  simp only at h0 h3
  by_cases hi : i < l.length
  · rw [okFrom_next hi] at hh
    have hw := hw1 hi (by have := hs.1; omega)
    have hsi := hs.2 _ (List.getElem_mem hi)
    have ha : ruleAt l i = (wordOk l[i].name && rexOk l[i].rex && newN l i 0) := by simp [ruleAt, getI hi]
    have hni : nm l i = l[i].name := by simp [nm, getI hi]
    simp [h0, h3, getI hi, hi, encRule]
    refine TWoH.callV (tc_sRuleWord l[i].name (by omega)) callable_59 (by simp [h0, h3, getI hi, hi]) (by simp) (by simp) (by simp) ?_
    simp [h0, h3, getI hi, hi, encRule]
    refine gif_intro (fun c3 => ?_) (fun c3 => ?_) <;> simp [h0, h3, getI hi, hi, encRule, c3]
    case refine_2 => rw [hr, hh, ha, Bool.eq_false_iff.2 c3]; rfl
    refine TWoH.callV (tc_sRexOk l[i].rex hsi.1) callable_60 (by simp [h0, h3, getI hi, hi]) (by simp) (by simp) (by simp) ?_
    simp [h0, h3, getI hi, hi, encRule]
    refine gif_intro (fun c4 => ?_) (fun c4 => ?_) <;> simp [h0, h3, getI hi, hi, encRule, c3, c4]
    case refine_2 => rw [hr, hh, ha, Bool.eq_false_iff.2 c4]; simp
    rw [c3, c4] at ha
    refine TWcH.loop [] (fun m' s => ∃ k, k + m' = i ∧ s.σ 0 = .ro (l.map encRule) ∧ s.σ 3 = .val (.int .i64 i) ∧ s.σ 4 = .val (.int .i64 k) ∧ newN l i 0 = newN l i k) i ⟨0, by simp [h0, h3]⟩ ?_
    rintro m' ⟨σ, H⟩ ⟨k, hkm, g0, g3, g4, gg⟩
    simp only at g0 g3 g4
    by_cases hk : k < i
    · have hkl : k < l.length := by omega
      have hwk := hw1 hkl (by have := hs.1; omega)
      have hnk : nm l k = l[k].name := by simp [nm, getI hkl]
      rw [newN_next hk, hnk, hni] at gg
      simp [g0, g3, g4, hk, encRule]
      refine TWcH.regionD (ρ := []) [0, 1, 2, 3, 4, 5, 6, 7, 8, 9, 10] 11 mixed (by kernel_rfl) ?_
      simp [g0, g3, g4, hk, getI hi, getI hkl, hkl, hi, encRule]
      refine gif_intro (fun c5 => ?_) (fun c5 => ?_) <;> simp [g0, g3, g4, hk, getI hi, hi, encRule, c5, hwk]
      · rw [hr, hh, ha, gg]; simp [c5]
      · exact ⟨m' - 1, by omega, k + 1, by omega, by omega, by rw [gg]; simp [c5]⟩
    · have hk' : ¬ ((k : Int) < i) := by omega
      simp [g0, g3, g4, hk, hw]
      exact ⟨m - 1, by omega, i + 1, by omega, by omega, by rw [hh, ha, gg, newN_end hk]; rfl⟩
  · simp [h0, h3, hi]
    rw [hr, hh, okFrom_end hi]
def firstF (l : List Rule) (t : List UInt8) (i : Nat) : Int := match (List.range' i (l.length - i)).find? (fun j => match l[j]? with
    | some r => isF 8 r.rex t
    | none => false) with
  | some j => j
  | none => -1
theorem firstF_next {l : List Rule} {t : List UInt8} {i : Nat} (h : i < l.length) : firstF l t i = if isF 8 l[i].rex t = true then (i : Int) else firstF l t (i + 1) := by
  unfold firstF
  rw [show l.length - i = (l.length - (i + 1)) + 1 by omega, List.range'_succ, List.find?_cons]
  simp only [getI h]
  cases isF 8 l[i].rex t <;> simp
theorem firstF_end {l : List Rule} {t : List UInt8} {i : Nat} (h : ¬ i < l.length) : firstF l t i = -1 := by
  unfold firstF
  rw [show l.length - i = 0 by omega]; rfl
def rulesFirst (l : List Rule) (t : List UInt8) : Int := if rulesOk l = true ∧ t.length ≤ 12 then firstF l t 0 else -1
theorem rulesOk_form {l : List Rule} (h : rulesOk l = true) {i : Nat} (hi : i < l.length) : formF 8 l[i].rex = true := by
  simp only [rulesOk, okFrom, Bool.and_eq_true, List.all_eq_true, List.mem_range'_1] at h
  have h1 := h.2 i (by omega)
  simp only [ruleAt, getI hi, Bool.and_eq_true, rexOk] at h1
  exact h1.1.2.1
end Go.Proofs.YtmpeolimleladaaDoor.R

open Go Go.Proofs.YtmpeolimleladaaDoor.T
namespace Go.Proofs.YtmpeolimleladaaDoor.R
set_option maxHeartbeats 2000000
set_option maxRecDepth 100000
set_option linter.unusedSimpArgs false
set_option linter.unusedVariables false
theorem tc_eqSpan (a : Int × Int) : TC Tryd.prog 110 [.agg (encSp a), .agg (encSp a)] [] (.val (.bool true)) [] := by
  refine TC.enter Tryd.func110 rfl (by simp [Tryd.ntmps110]) rfl (tw_sound (ρ := [2, 3]) ?_)
  rw [Tryd.ntmps110]
  simp [encSp]
theorem tc_eqSpanS (l : List (Int × Int)) (hl : l.length ≤ 1152921504606846976) : TC Tryd.prog 90 [.ro (l.map encSp), .ro (l.map encSp)] [] (.val (.bool true)) [] := by
  refine TC.enter Tryd.func90 rfl (by simp [Tryd.ntmps90]) rfl (tw_sound (ρ := []) ?_)
  rw [Tryd.ntmps90]
  simp
  refine TWcH.loop [] (fun m s => ∃ i, i + m = l.length ∧ s.σ 0 = .ro (l.map encSp) ∧ s.σ 1 = .ro (l.map encSp) ∧ s.σ 5 = .val (.int .i64 i)) l.length ⟨0, by simp⟩ ?_
  rintro m ⟨σ, H⟩ ⟨i, him, h0, h1, h5⟩
  simp only at h0 h1 h5
  by_cases hi : i < l.length
  · have hw := hw1 hi hl
    simp [h0, h1, h5, getI hi, hi]
    refine TWcH.regionD (ρ := []) [0, 1, 2, 3, 4, 5, 6, 7, 8, 9] 10 mixed (by kernel_rfl) ?_
    simp [h0, h1, h5, getI hi, hi]
    refine TWqH.callV (tc_eqSpan l[i]) callable_110 (by simp [h0, h1, h5]) (by simp) (by simp) (by simp) ?_
    simp [h0, h1, h5, hw]
    exact ⟨m - 1, by omega, i + 1, by omega, by omega⟩
  · simp [h0, h1, h5, hi]
theorem tc_eqRexS (l : List Rex) (hl : l.length ≤ 1152921504606846976) (ih : ∀ i (h : i < l.length), TC Tryd.prog 67 [.agg (encRex l[i]), .agg (encRex l[i])] [] (.val (.bool true)) []) : TC Tryd.prog 91 [.ro (l.map encRex), .ro (l.map encRex)] [] (.val (.bool true)) [] := by
  refine TC.enter Tryd.func91 rfl (by simp [Tryd.ntmps91]) rfl (tw_sound (ρ := []) ?_)
  rw [Tryd.ntmps91]
  simp
  refine TWcH.loop [] (fun m s => ∃ i, i + m = l.length ∧ s.σ 0 = .ro (l.map encRex) ∧ s.σ 1 = .ro (l.map encRex) ∧ s.σ 5 = .val (.int .i64 i)) l.length ⟨0, by simp⟩ ?_
  rintro m ⟨σ, H⟩ ⟨i, him, h0, h1, h5⟩
  simp only at h0 h1 h5
  by_cases hi : i < l.length
  · have hw := hw1 hi hl
    simp [h0, h1, h5, getI hi, hi]
    refine TWcH.regionD (ρ := []) [0, 1, 2, 3, 4, 5, 6, 7, 8, 9] 10 mixed (by kernel_rfl) ?_
    simp [h0, h1, h5, getI hi, hi]
    refine TWqH.callV (ih i hi) callable_67 (by simp [h0, h1, h5]) (by simp) (by simp) (by simp) ?_
    simp [h0, h1, h5, hw]
    exact ⟨m - 1, by omega, i + 1, by omega, by omega⟩
  · simp [h0, h1, h5, hi]
mutual
theorem tc_eqRex : ∀ (r : Rex), Sm r → TC Tryd.prog 67 [.agg (encRex r), .agg (encRex r)] [] (.val (.bool true)) []
  | .mk k s l, hs => by
    refine TC.enter Tryd.func67 rfl (by simp [Tryd.ntmps67]) rfl (tw_sound (ρ := [2, 3]) ?_)
    rw [Tryd.ntmps67]
    simp [encRex, encRexL_eq]
    refine TWoH.callV (tc_eqSpanS s (by have := hs.1; omega)) callable_90 (by simp) (by simp) (by simp) (by simp) ?_
    simp
    refine TWoH.callV (tc_eqRexS l (by have := hs.2.1; omega) (tc_eqRexL l hs.2.2)) callable_91 (by simp) (by simp) (by simp) (by simp) ?_
    simp
theorem tc_eqRexL : ∀ (l : List Rex), SmL l → ∀ i (h : i < l.length), TC Tryd.prog 67 [.agg (encRex l[i]), .agg (encRex l[i])] [] (.val (.bool true)) []
  | r :: l, hs, 0, _ => tc_eqRex r hs.1
  | r :: l, hs, i + 1, h => by
    simp only [List.getElem_cons_succ]
    exact tc_eqRexL l hs.2 i (by simpa using h)
end
theorem tc_eqRule (r : Rule) (hs : Sm r.rex) : TC Tryd.prog 43 [.agg (encRule r), .agg (encRule r)] [] (.val (.bool true)) [] := by
  refine TC.enter Tryd.func43 rfl (by simp [Tryd.ntmps43]) rfl (tw_sound (ρ := [2, 3]) ?_)
  rw [Tryd.ntmps43]
  simp [encRule]
  refine TWoH.callV (tc_eqRex r.rex hs) callable_67 (by simp) (by simp) (by simp) (by simp) ?_
  simp
theorem tc_eqRuleS (l : List Rule) (hs : RSm l) : TC Tryd.prog 21 [.ro (l.map encRule), .ro (l.map encRule)] [] (.val (.bool true)) [] := by
  refine TC.enter Tryd.func21 rfl (by simp [Tryd.ntmps21]) rfl (tw_sound (ρ := []) ?_)
  rw [Tryd.ntmps21]
  simp
  refine TWcH.loop [] (fun m s => ∃ i, i + m = l.length ∧ s.σ 0 = .ro (l.map encRule) ∧ s.σ 1 = .ro (l.map encRule) ∧ s.σ 5 = .val (.int .i64 i)) l.length ⟨0, by simp⟩ ?_
  rintro m ⟨σ, H⟩ ⟨i, him, h0, h1, h5⟩
  simp only at h0 h1 h5
  by_cases hi : i < l.length
  · have hw := hw1 hi (by have := hs.1; omega)
    simp [h0, h1, h5, getI hi, hi]
    refine TWcH.regionD (ρ := []) [0, 1, 2, 3, 4, 5, 6, 7, 8, 9] 10 mixed (by kernel_rfl) ?_
    simp [h0, h1, h5, getI hi, hi]
    refine TWqH.callV (tc_eqRule l[i] (hs.2 _ (List.getElem_mem hi)).1) callable_43 (by simp [h0, h1, h5]) (by simp) (by simp) (by simp) ?_
    simp [h0, h1, h5, hw]
    exact ⟨m - 1, by omega, i + 1, by omega, by omega⟩
  · simp [h0, h1, h5, hi]
theorem tc_in (n a b : Int) : TC Tryd.prog 63 [.val (.int .i64 n), .val (.int .i64 a), .val (.int .i64 b)] [] (.val (.bool (decide (a ≤ n ∧ n ≤ b)))) [] := by
  refine TC.enter Tryd.func63 rfl (by simp [Tryd.ntmps63]) rfl (tw_sound (ρ := []) ?_)
  rw [Tryd.ntmps63]
  simp
  refine gif_intro (fun c1 => ?_) (fun c1 => ?_) <;> simp [c1]
theorem tc_iRuleWord (w : List UInt8) (hw : w.length ≤ 1152921504606846976) : TC Tryd.prog 64 [.val (.string (bs w))] [] (.val (.bool (wordOk w))) [] := by
  refine TC.enter Tryd.func64 rfl (by simp [Tryd.ntmps64]) rfl (tw_sound (ρ := []) ?_)
  rw [Tryd.ntmps64]
  simp
  refine TWcH.loop [] (fun m s => ∃ i, i + m = w.length ∧ s.σ 0 = .val (.string (bs w)) ∧ s.σ 3 = .val (.int .i64 i) ∧ w.all wc = (w.drop i).all wc) w.length ⟨0, by simp⟩ ?_
  rintro m ⟨σ, H⟩ ⟨i, him, h0, h3, hh⟩
  simp only at h0 h3
  by_cases hi : i < w.length
  · rw [all_drop hi] at hh
    have hw := hw1 hi hw
    simp [h0, h3, getI hi, hi]
    refine TWoH.callV (tc_in w[i].toNat 97 122) callable_63 (by simp) (by simp) (by simp) (by simp) ?_
    simp [h0, h3, getI hi, hi]
    refine gif_intro (fun c1 => ?_) (fun c1 => ?_) <;> simp [h0, h3, getI hi, hi, c1, hw]
    · rw [wordOk, hh, show wc w[i] = false by simp [wc]; omega]; rfl
    · refine ⟨m - 1, by omega, i + 1, by omega, by omega, ?_⟩
      rw [hh, show wc w[i] = true by simp [wc]; omega]; rfl
  · simp [h0, h3, hi]
    rw [drop_all hi] at hh
    refine TWoH.callV (tc_in w.length 1 6) callable_63 (by simp) (by simp) (by simp) (by simp) ?_
    simp [h0, h3]
    rw [wordOk, hh, Bool.eq_iff_iff]; simp; omega
theorem tc_iKidsOf (k : Int) : TC Tryd.prog 98 [.val (.int .i64 k)] [] (.val (.int .i64 (kidsN k))) [] := by
  refine TC.enter Tryd.func98 rfl (by simp [Tryd.ntmps98]) rfl (tw_sound (ρ := []) ?_)
  rw [Tryd.ntmps98]
  simp
  repeat' (refine gif_intro (fun c1 => ?_) (fun c1 => ?_) <;> simp [c1])
  all_goals simp [kidsN, *]
end Go.Proofs.YtmpeolimleladaaDoor.R

open Go Go.Proofs.YtmpeolimleladaaDoor.T
namespace Go.Proofs.YtmpeolimleladaaDoor.R
set_option maxHeartbeats 2000000
set_option maxRecDepth 100000
set_option linter.unusedSimpArgs false
set_option linter.unusedVariables false
theorem tc_iSetOk (l : List (Int × Int)) (hl : l.length ≤ 1152921504606846976) : TC Tryd.prog 109 [.ro (l.map encSp)] [] (.val (.bool (setOk l))) [] := by
  refine TC.enter Tryd.func109 rfl (by simp [Tryd.ntmps109]) rfl (tw_sound (ρ := []) ?_)
  rw [Tryd.ntmps109]
  simp
  refine TWcH.loop [] (fun m s => ∃ i, i + m = l.length ∧ s.σ 0 = .ro (l.map encSp) ∧ s.σ 5 = .ro (l.map encSp) ∧ s.σ 6 = .val (.int .i64 l.length) ∧ s.σ 7 = .val (.int .i64 i) ∧ (∀ q, prevOf l i = some q → 0 ≤ q ∧ q ≤ 255) ∧ setOk l = setOkP (prevOf l i) (l.drop i)) l.length ⟨0, by simp [prevOf, setOk]⟩ ?_
  rintro m ⟨σ, H⟩ ⟨i, him, h0, h5, h6, h7, hp, hh⟩
  simp only at h0 h5 h6 h7
  by_cases hi : i < l.length
  · rw [setOkP_drop hi] at hh
    have hw := hw1 hi hl
    have bad : ¬ okX (prevOf l i) l[i] = true → setOk l = false := fun h => by rw [hh, Bool.eq_false_iff.2 h]; rfl
    have good : okX (prevOf l i) l[i] = true → ∃ m', m' < m ∧ ∃ i', i' + m' = l.length ∧ (i : Int) + 1 = (i' : Int) ∧ (∀ q, prevOf l i' = some q → 0 ≤ q ∧ q ≤ 255) ∧ setOk l = setOkP (prevOf l i') (l.drop i') := fun h => by
      refine ⟨m - 1, by omega, i + 1, by omega, by omega, ?_, by rw [hh, h, prevOf_succ hi]; rfl⟩
      rw [prevOf_succ hi]
      rintro q ⟨⟩
      simp only [okX, decide_eq_true_eq] at h
      omega
    simp only [okX, decide_eq_true_eq] at bad good
    simp [h0, h5, h6, h7, getI hi, hi]
    refine gall_intro fun a ha => ?_
    simp [h0, h5, h6, h7, getI hi, hi]
    refine TWcH.regionD (ρ := []) [0, 1, 2, 3, 4, 5, 6, 7, 8, 9, 10, 11, 12, 13, 14, 15, 16, 17, 18, 19, 20, 21, 22, 23, 24, 25, 26, 27, 28, 29, 30] 31 mixed (by kernel_rfl) ?_
    simp [h0, h5, h6, h7, getI hi, hi, encSp]
    refine gif_intro (fun c1 => ?_) (fun c1 => ?_) <;> simp [h0, h5, h6, h7, getI hi, hi, encSp, c1]
    · exact bad (by omega)
    refine gif_intro (fun c2 => ?_) (fun c2 => ?_) <;> simp [h0, h5, h6, h7, getI hi, hi, encSp, c1, c2]
    · exact bad (by omega)
    refine gif_intro (fun c3 => ?_) (fun c3 => ?_) <;> simp [h0, h5, h6, h7, getI hi, hi, encSp, c1, c2, c3]
    · exact bad (by omega)
    refine gif_intro (fun c4 => ?_) (fun c4 => ?_) <;> simp [h0, h5, h6, h7, getI hi, hi, encSp, c1, c2, c3, c4, hw]
    · have hj : i - 1 < l.length := by omega
      have e : IntKind.i64.wrap ((i : Int) - 1) = ((i - 1 : Nat) : Int) := by rw [wrapi (by omega)]; omega
      have hq := hp _ (prevOf_pos hj c4)
      have e2 : IntKind.i64.wrap (l[i - 1].2 + 1) = l[i - 1].2 + 1 := wrapi (by omega)
      rw [prevOf_pos hj c4] at bad good
      simp [h0, h5, h6, h7, getI hi, getI hj, hi, hj, encSp, c1, c2, c3, c4, e, e2]
      refine gif_intro (fun c5 => ?_) (fun c5 => ?_) <;> simp [h0, h5, h6, h7, getI hi, hi, encSp, c1, c2, c3, c4, c5, hw]
      · exact bad (fun h => by have := h.2.2.2 _ rfl; omega)
      · exact good ⟨by omega, by omega, by omega, fun q hq => by cases hq; omega⟩
    · exact good ⟨by omega, by omega, by omega, fun q hq => by simp [prevOf, c4] at hq⟩
  · rw [drop_all hi] at hh
    simp [h0, h5, h6, h7, hi, hh, setOkP]
theorem tc_iFormed : ∀ (d : Nat) (r : Rex), d ≤ 1000 → Sm r → TC Tryd.prog 86 [.agg (encRex r), .val (.int .i64 d)] [] (.val (.bool (formF d r))) []
  | 0, .mk k s l, hd, hs => by
    refine TC.enter Tryd.func86 rfl (by simp [Tryd.ntmps86]) rfl (tw_sound (ρ := [2]) ?_)
    rw [Tryd.ntmps86]
    simp [encRex]
    refine TWcH.regionD (ρ := [2]) [0, 1, 2, 3, 4, 6, 7, 8, 5, 9, 10, 11, 12, 13, 14, 15, 16, 17, 18, 19, 20, 21, 22, 23, 24, 25, 26, 27] 28 mixed (by kernel_rfl) ?_
    simp [formF]
  | d + 1, .mk k s l, hd, hs => by
    refine TC.enter Tryd.func86 rfl (by simp [Tryd.ntmps86]) rfl (tw_sound (ρ := [2]) ?_)
    rw [Tryd.ntmps86]
    simp [encRex, encRexL_eq]
    refine TWcH.regionD (ρ := [2]) [0, 1, 2, 3, 4, 6, 7, 8, 5, 9, 10, 11, 12, 13, 14, 15, 16, 17, 18, 19, 20, 21, 22, 23, 24, 25, 26, 27] 28 mixed (by kernel_rfl) ?_
    have c1 : ¬ ((d : Int) + 1 < 1) := by omega
    simp [c1]
    refine TWqH.callV (tc_iKidsOf k) callable_98 (by simp [*]) (by simp) (by simp) (by simp [*]) ?_
    simp [c1]
    have bad : headOk k s l = false → formF (d + 1) (.mk k s l) = false := fun h => by simp [formF, h]
    refine gif_intro (fun c2 => ?_) (fun c2 => ?_) <;> simp [c1, c2]
    case refine_2 => exact bad (by simp [headOk, c2])
    have fin : ∀ (Q : Prop), (k = 1 ∨ s.length = 0 → Q) → (¬ (k = 1 ∨ s.length = 0) → Q) → Q := fun Q h h' => (Classical.em _).elim h h'
    refine fin _ (fun c3 => ?_) (fun c3 => ?_)
    · have hX : headOk k s l = setOk s := by
        rw [headOk, show decide (kidsN k = l.length) = true by simp [c2], show (decide (k = 1) || decide (s.length = 0)) = true by rcases c3 with c3 | c3 <;> simp [c3]]
        rfl
      have good : setOk s = true → formF (d + 1) (.mk k s l) = l.all (formF d) := fun h => by rw [formF, hX, h]; rfl
      rcases (show (k = 1 ∨ (¬ k = 1 ∧ ¬ 0 < s.length)) by omega) with c4 | ⟨c4, c5⟩
      · subst c4
        simp [c1, c2]
        refine TWqH.callV (tc_iSetOk s (by have := hs.1; omega)) callable_109 (by simp) (by simp) (by simp) (by simp) ?_
        simp [c1, c2]
        refine gif_intro (fun c6 => ?_) (fun c6 => ?_) <;> simp [c1, c2, c6]
        · refine TWcH.loop [] (fun m s' => ∃ i, i + m = l.length ∧ s'.σ 1 = .val (.int .i64 ((d : Int) + 1)) ∧ s'.σ 36 = .ro (l.map encRex) ∧ s'.σ 37 = .val (.int .i64 l.length) ∧ s'.σ 38 = .val (.int .i64 i) ∧ l.all (formF d) = (l.drop i).all (formF d)) l.length ⟨0, by simp⟩ ?_
          rintro m ⟨σ, H⟩ ⟨i, him, h1, h2, h3, h5, hh⟩
          simp only at h1 h2 h3 h5
          by_cases hi : i < l.length
          · rw [all_drop hi] at hh
            have hw := hw1 hi (by have := hs.2.1; omega)
            have hd1 : IntKind.i64.wrap (d : Int) = d := wrapi (by omega)
            simp [h1, h2, h3, h5, getI hi, hi]
            refine gall_intro fun a ha => ?_
            simp [h1, h2, h3, h5, getI hi, hi]
            refine TWoH.callV (tc_iFormed d l[i] (by omega) (SmL.get hs.2.2 hi)) callable_86 (by simp [hd1, h1, h2, h5]) (by simp) (by simp) (by simp) ?_
            simp [h1, h2, h3, h5, getI hi, hi]
            refine gif_intro (fun c7 => ?_) (fun c7 => ?_) <;> simp [h1, h2, h3, h5, getI hi, hi, c7, hw]
            · exact ⟨m - 1, by omega, i + 1, by omega, by omega, by rw [hh, c7]; rfl⟩
            · rw [good c6, hh, Bool.eq_false_iff.2 c7]; rfl
          · rw [drop_all hi] at hh
            simp [h1, h2, h3, h5, hi, good c6, hh]
        · exact bad (by rw [hX]; simpa using c6)
      · simp [c1, c2, c4, c5]
        refine TWqH.callV (tc_iSetOk s (by have := hs.1; omega)) callable_109 (by simp) (by simp) (by simp) (by simp) ?_
        simp [c1, c2, c4, c5]
        refine gif_intro (fun c6 => ?_) (fun c6 => ?_) <;> simp [c1, c2, c4, c5, c6]
        · refine TWcH.loop [] (fun m s' => ∃ i, i + m = l.length ∧ s'.σ 1 = .val (.int .i64 ((d : Int) + 1)) ∧ s'.σ 36 = .ro (l.map encRex) ∧ s'.σ 37 = .val (.int .i64 l.length) ∧ s'.σ 38 = .val (.int .i64 i) ∧ l.all (formF d) = (l.drop i).all (formF d)) l.length ⟨0, by simp⟩ ?_
          rintro m ⟨σ, H⟩ ⟨i, him, h1, h2, h3, h5, hh⟩
          simp only at h1 h2 h3 h5
          by_cases hi : i < l.length
          · rw [all_drop hi] at hh
            have hw := hw1 hi (by have := hs.2.1; omega)
            have hd1 : IntKind.i64.wrap (d : Int) = d := wrapi (by omega)
            simp [h1, h2, h3, h5, getI hi, hi]
            refine gall_intro fun a ha => ?_
            simp [h1, h2, h3, h5, getI hi, hi]
            refine TWoH.callV (tc_iFormed d l[i] (by omega) (SmL.get hs.2.2 hi)) callable_86 (by simp [hd1, h1, h2, h5]) (by simp) (by simp) (by simp) ?_
            simp [h1, h2, h3, h5, getI hi, hi]
            refine gif_intro (fun c7 => ?_) (fun c7 => ?_) <;> simp [h1, h2, h3, h5, getI hi, hi, c7, hw]
            · exact ⟨m - 1, by omega, i + 1, by omega, by omega, by rw [hh, c7]; rfl⟩
            · rw [good c6, hh, Bool.eq_false_iff.2 c7]; rfl
          · rw [drop_all hi] at hh
            simp [h1, h2, h3, h5, hi, good c6, hh]
        · exact bad (by rw [hX]; simpa using c6)
    · rcases (show (¬ k = 1 ∧ 0 < s.length) by omega) with ⟨c4, c5⟩
      simp [c1, c2, c4, c5]
      exact bad (by simp only [headOk, c4, show ¬ s.length = 0 by omega]; simp)
theorem tc_iMany : ∀ (d : Nat) (r : Rex), d ≤ 8 → Sm r → formF d r = true → TC Tryd.prog 87 [.agg (encRex r)] [] (.val (.int .i64 (manyN r))) []
  | 0, r, hd, hs, hf => by simp [formF] at hf
  | d + 1, .mk k s l, hd, hs, hf => by
    refine TC.enter Tryd.func87 rfl (by simp [Tryd.ntmps87]) rfl (tw_sound (ρ := [1]) ?_)
    rw [Tryd.ntmps87]
    simp [encRex, encRexL_eq]
    have hm := many_le _ _ hf
    have h2d : 2 ^ (d + 1) ≤ 2 ^ 8 := Nat.pow_le_pow_right (by omega) hd
    simp only [manyN] at hm
    refine TWcH.loop [] (fun m s' => ∃ i, i + m = l.length ∧ s'.σ 7 = .ro (l.map encRex) ∧ s'.σ 8 = .val (.int .i64 l.length) ∧ s'.σ 9 = .val (.int .i64 i) ∧ s'.σ 3 = .val (.int .i64 (1 + manyL (l.take i) : Nat))) l.length ⟨0, by simp [manyL]⟩ ?_
    rintro m ⟨σ, H⟩ ⟨i, him, h7, h8, h9, h3⟩
    simp only at h7 h8 h9 h3
    by_cases hi : i < l.length
    · have hw := hw1 hi (by have := hs.2.1; omega)
      have e := manyL_take hi
      have e' : manyL (l.take (i + 1)) ≤ manyL l := by
        have := manyL_append (l.take (i + 1)) (l.drop (i + 1))
        rw [List.take_append_drop] at this
        omega
      have hw2 : IntKind.i64.wrap (1 + (manyL (l.take i) : Int) + manyN l[i]) = 1 + (manyL (l.take i) : Int) + manyN l[i] := wrapi (by omega)
      simp [h7, h8, h9, h3, getI hi, hi]
      refine gall_intro fun a ha => ?_
      simp [h7, h8, h9, h3, getI hi, hi]
      refine TWoH.callV (tc_iMany d l[i] (by omega) (SmL.get hs.2.2 hi) (formF_kid hf hi)) callable_87 (by simp [h7, h8, h9, h3]) (by simp) (by simp) (by simp) ?_
      simp [h7, h8, h9, h3, getI hi, hi, hw, hw2]
      exact ⟨m - 1, by omega, i + 1, by omega, by omega, by rw [e]; simp; omega⟩
    · have e : l.take i = l := List.take_of_length_le (by omega)
      simp [h7, h8, h9, h3, hi, manyN, e]
theorem tc_iRexOk (r : Rex) (hs : Sm r) : TC Tryd.prog 65 [.agg (encRex r)] [] (.val (.bool (rexOk r))) [] := by
  refine TC.enter Tryd.func65 rfl (by simp [Tryd.ntmps65]) rfl (tw_sound (ρ := [1]) ?_)
  rw [Tryd.ntmps65]
  simp
  refine TWoH.callV (tc_iFormed 8 r (by omega) hs) callable_86 (by simp) (by simp) (by simp) (by simp) ?_
  simp
  refine gif_intro (fun c1 => ?_) (fun c1 => ?_) <;> simp [c1]
  · refine TWoH.callV (tc_iMany 8 r (by omega) hs c1) callable_87 (by simp) (by simp) (by simp) (by simp) ?_
    simp [c1, rexOk]
    omega
  · simp [rexOk, c1]
theorem tc_iRulesOk (l : List Rule) (hs : RSm l) : TC Tryd.prog 41 [.ro (l.map encRule)] [] (.val (.bool (rulesOk l))) [] := by
  refine TC.enter Tryd.func41 rfl (by simp [Tryd.ntmps41]) rfl (tw_sound (ρ := []) ?_)
  rw [Tryd.ntmps41]
  simp
  refine TWoH.callV (tc_in l.length 1 5) callable_63 (by simp) (by simp) (by simp) (by simp) ?_
  simp
  refine gif_intro (fun c1 => ?_) (fun c1 => ?_) <;> simp [c1]
  · simp [rulesOk]; omega
  have hr : rulesOk l = okFrom l 0 := by rw [rulesOk, show decide (1 ≤ l.length ∧ l.length ≤ 5) = true by simp; omega]; rfl
  refine TWcH.loop [] (fun m s => ∃ i, i + m = l.length ∧ s.σ 0 = .ro (l.map encRule) ∧ s.σ 11 = .ro (l.map encRule) ∧ s.σ 12 = .val (.int .i64 l.length) ∧ s.σ 13 = .val (.int .i64 i) ∧ okFrom l 0 = okFrom l i) l.length ⟨0, by simp⟩ ?_
  rintro m ⟨σ, H⟩ ⟨i, him, h0, h11, h12, h13, hh⟩
  simp only at h0 h11 h12 h13
  by_cases hi : i < l.length
  · rw [okFrom_next hi] at hh
    have hw := hw1 hi (by have := hs.1; omega)
    have hsi := hs.2 _ (List.getElem_mem hi)
    have ha : ruleAt l i = (wordOk l[i].name && rexOk l[i].rex && newN l i 0) := by simp [ruleAt, getI hi]
    have hni : nm l i = l[i].name := by simp [nm, getI hi]
    have hil : (i : Int) ≤ l.length := by omega
    simp [h0, h11, h12, h13, getI hi, hi]
    refine gall_intro fun a ha' => ?_
    simp [h0, h11, h12, h13, getI hi, hi, encRule]
    refine TWoH.callV (tc_iRuleWord l[i].name (by omega)) callable_64 (by simp [h0]) (by simp) (by simp) (by simp) ?_
    simp [h0, h11, h12, h13, getI hi, hi, encRule]
    refine gif_intro (fun c3 => ?_) (fun c3 => ?_) <;> simp [h0, h11, h12, h13, getI hi, hi, encRule, c3]
    case refine_2 => rw [hr, hh, ha, Bool.eq_false_iff.2 c3]; rfl
    refine TWoH.callV (tc_iRexOk l[i].rex hsi.1) callable_65 (by simp [h0]) (by simp) (by simp) (by simp) ?_
    simp [h0, h11, h12, h13, getI hi, hi, encRule]
    refine gif_intro (fun c4 => ?_) (fun c4 => ?_) <;> simp [h0, h11, h12, h13, getI hi, hi, hil, encRule, c3, c4]
    case refine_2 => rw [hr, hh, ha, Bool.eq_false_iff.2 c4]; simp
    rw [c3, c4] at ha
    refine TWcH.loop [] (fun m' s => ∃ k, k + m' = i ∧ s.σ 0 = .ro (l.map encRule) ∧ s.σ 4 = .pd a 0 0 0 ∧ s.σ 11 = .ro (l.map encRule) ∧ s.σ 12 = .val (.int .i64 l.length) ∧ s.σ 13 = .val (.int .i64 i) ∧ s.σ 30 = .ro ((l.take i).map encRule) ∧ s.σ 31 = .val (.int .i64 i) ∧ s.σ 32 = .val (.int .i64 k) ∧ s.H a = some (.box 83 (encRule l[i])) ∧ newN l i 0 = newN l i k) i ⟨0, by simp [h0, h11, h12, h13, encRule, Nat.min_eq_left (Nat.le_of_lt hi)]⟩ ?_
    rintro m' ⟨σ, H⟩ ⟨k, hkm, g0, g4, g11, g12, g13, g30, g31, g32, gH, gg⟩
    simp only at g0 g4 g11 g12 g13 g30 g31 g32 gH
    by_cases hk : k < i
    · have hkl : k < l.length := by omega
      have hwk := hw1 hkl (by have := hs.1; omega)
      have hnk : nm l k = l[k].name := by simp [nm, getI hkl]
      rw [newN_next hk, hnk, hni] at gg
      simp [g0, g4, g11, g12, g13, g30, g31, g32, gH, hk, hkl]
      refine gall_intro fun b hb => ?_
      have hba : ¬ b = a := fun e => by simp [e, gH] at hb
      have hab : ¬ a = b := fun e => hba e.symm
      simp [g0, g4, g11, g12, g13, g30, g31, g32, gH, hk, hkl, hba, hab, encRule]
      refine gif_intro (fun c5 => ?_) (fun c5 => ?_) <;> simp [g0, g4, g11, g12, g13, g30, g31, g32, gH, hk, hkl, hba, hab, encRule, c5, hwk]
      · rw [hr, hh, ha, gg]; simp [c5]
      · exact ⟨m' - 1, by omega, k + 1, by omega, by omega, by rw [gg]; simp [Ne.symm c5]⟩
    · have hk' : ¬ ((k : Int) < i) := by omega
      simp [g0, g4, g11, g12, g13, g30, g31, g32, gH, hk, hw]
      exact ⟨m - 1, by omega, i + 1, by omega, by omega, by rw [hh, ha, gg, newN_end hk]; rfl⟩
  · simp [h0, h11, h12, h13, hi]
    rw [hr, hh, okFrom_end hi]
end Go.Proofs.YtmpeolimleladaaDoor.R

open Go Go.Proofs.YtmpeolimleladaaDoor.T
namespace Go.Proofs.YtmpeolimleladaaDoor.R
def rv (f : List UInt8 → Bool) (t : List UInt8) (k : Nat) : Bool := (reachL f t k).getD k false
theorem reachL_at (f : List UInt8 → Bool) (t : List UInt8) : ∀ (n j : Nat), j ≤ n → (reachL f t n).getD j false = rv f t j
  | 0, j, h => by obtain rfl : j = 0 := by omega
                  rfl
  | n + 1, j, h => by
    by_cases hj : j = n + 1
    · subst hj; rfl
    · rw [reachL, List.getD_eq_getElem?_getD, List.getElem?_append_left (by rw [reachL_len]; omega), ← List.getD_eq_getElem?_getD]
      exact reachL_at f t n j (by omega)
theorem rv_succ (f : List UInt8 → Bool) (t : List UInt8) (k : Nat) : rv f t (k + 1) = (List.range (k + 1)).any fun j => rv f t j && f ((t.take (k + 1)).drop j) := by
  unfold rv
  rw [reachL, List.getD_eq_getElem?_getD, List.getElem?_append_right (by rw [reachL_len]; omega), reachL_len]
  simp only [Nat.sub_self, List.getElem?_cons_zero, Option.getD_some, anyF]
  rw [Bool.eq_iff_iff, List.any_eq_true, List.any_eq_true]
  constructor
  · rintro ⟨j, hj, h⟩
    have := List.mem_range.1 hj
    exact ⟨j, hj, by rw [reachL_at f t k j (by omega)] at h; exact h⟩
  · rintro ⟨j, hj, h⟩
    have := List.mem_range.1 hj
    exact ⟨j, hj, by rw [reachL_at f t k j (by omega)]; exact h⟩
def StP (f : List UInt8 → Bool) (p : List UInt8) : Prop := ∃ parts : List (List UInt8), (∀ a ∈ parts, a ≠ [] ∧ f a = true) ∧ parts.flatten = p
theorem rv_iff (f : List UInt8 → Bool) (t : List UInt8) : ∀ (k : Nat), k ≤ t.length → (rv f t k = true ↔ StP f (t.take k)) := by
  intro k
  induction k using Nat.strongRecOn with
  | _ k ih =>
    intro hk
    cases k with
    | zero => exact ⟨fun _ => ⟨[], by simp, by simp⟩, fun _ => rfl⟩
    | succ k =>
      rw [rv_succ, List.any_eq_true]
      constructor
      · rintro ⟨j, hj, h⟩
        have hj := List.mem_range.1 hj
        simp only [Bool.and_eq_true] at h
        obtain ⟨parts, h1, h2⟩ := (ih j hj (by omega)).1 h.1
        refine ⟨parts ++ [(t.take (k + 1)).drop j], fun a ha => ?_, ?_⟩
        · rcases List.mem_append.1 ha with ha | ha
          · exact h1 a ha
          · rw [List.mem_singleton] at ha
            subst ha
            refine ⟨fun e => ?_, h.2⟩
            have := congrArg List.length e
            simp at this
            omega
        · rw [List.flatten_append, h2, List.flatten_cons, List.flatten_nil, List.append_nil]
          have : t.take j = (t.take (k + 1)).take j := by rw [List.take_take]; congr 1; omega
          rw [this, List.take_append_drop]
      · rintro ⟨parts, h1, h2⟩
        rcases List.eq_nil_or_concat parts with rfl | ⟨init, a, rfl⟩
        · have := congrArg List.length h2
          simp at this
          omega
        · rw [List.concat_eq_append] at h1 h2
          have ha := h1 a (by simp)
          rw [List.flatten_append, List.flatten_cons, List.flatten_nil, List.append_nil] at h2
          have hl := congrArg List.length h2
          rw [List.length_append, List.length_take] at hl
          have hal : 0 < a.length := List.length_pos_iff.2 ha.1
          have hj : init.flatten.length < k + 1 := by omega
          refine ⟨init.flatten.length, List.mem_range.2 hj, ?_⟩
          rw [Bool.and_eq_true]
          constructor
          · refine (ih _ hj (by omega)).2 ⟨init, fun b hb => h1 b (by simp [hb]), ?_⟩
            have : t.take init.flatten.length = (t.take (k + 1)).take init.flatten.length := by rw [List.take_take]; congr 1; omega
            rw [this, ← h2, List.take_left']
            rfl
          · rw [← h2, List.drop_left' rfl]; exact ha.2
theorem starF_iff (f : List UInt8 → Bool) (t : List UInt8) : starF f t = true ↔ StP f t := by
  have := rv_iff f t t.length (Nat.le_refl _)
  rwa [List.take_length] at this
theorem starF_first (f : List UInt8 → Bool) (p : List UInt8) : starF f p = (decide (p.length = 0) || (List.range p.length).any fun x => f (p.take (x + 1)) && starF f (p.drop (x + 1))) := by
  rw [Bool.eq_iff_iff, starF_iff, Bool.or_eq_true, decide_eq_true_eq, List.any_eq_true]
  constructor
  · rintro ⟨parts, h1, h2⟩
    cases parts with
    | nil => left; rw [← h2]; rfl
    | cons a rest =>
      right
      have ha := h1 a (by simp)
      have hal : 0 < a.length := List.length_pos_iff.2 ha.1
      rw [List.flatten_cons] at h2
      have hl := congrArg List.length h2
      rw [List.length_append] at hl
      refine ⟨a.length - 1, List.mem_range.2 (by omega), ?_⟩
      rw [show a.length - 1 + 1 = a.length by omega, Bool.and_eq_true, ← h2, List.take_left' rfl, List.drop_left' rfl, starF_iff]
      exact ⟨ha.2, rest, fun b hb => h1 b (by simp [hb]), rfl⟩
  · rintro (h | ⟨x, hx, h⟩)
    · exact ⟨[], by simp, by rw [List.length_eq_zero_iff] at h; rw [h]; rfl⟩
    · have hx := List.mem_range.1 hx
      rw [Bool.and_eq_true, starF_iff] at h
      obtain ⟨h0, parts, h1, h2⟩ := h
      refine ⟨p.take (x + 1) :: parts, fun a ha => ?_, by rw [List.flatten_cons, h2, List.take_append_drop]⟩
      rcases List.mem_cons.1 ha with rfl | ha
      · refine ⟨fun e => ?_, h0⟩
        have := congrArg List.length e
        rw [List.length_take, List.length_nil] at this
        omega
      · exact h1 a ha
end Go.Proofs.YtmpeolimleladaaDoor.R

open Go Go.Proofs.YtmpeolimleladaaDoor.T
namespace Go.Proofs.YtmpeolimleladaaDoor.R
set_option linter.unusedSimpArgs false
set_option linter.unusedVariables false
/-- A table of thirteen rows of thirteen answers. -/
def tabL (T : Nat → Nat → Bool) : List TV := (List.range 169).map fun x => .val (.bool (T (x / 13) (x % 13)))
@[simp] theorem len_tab (T : Nat → Nat → Bool) : (tabL T).length = 169 := by simp [tabL]
@[simp] theorem plain_tab (T : Nat → Nat → Bool) : (tabL T).all TV.plain = true := by simp [tabL]
@[simp] theorem pc_tab (T : Nat → Nat → Bool) : (tabL T).all TV.pc = true := by simp [tabL]
theorem noHL_vals : ∀ (l : List TV), (∀ t ∈ l, ∃ v, t = .val (.bool v)) → noHL l = true
  | [], _ => by simp
  | t :: l, h => by
    obtain ⟨v, rfl⟩ := h t (by simp)
    simp [noHL_vals l fun t ht => h t (by simp [ht])]
theorem vals_tab {T : Nat → Nat → Bool} : ∀ t ∈ tabL T, ∃ v, t = .val (.bool v) := by
  intro t ht; simp only [tabL, List.mem_map] at ht; obtain ⟨x, _, rfl⟩ := ht; exact ⟨_, rfl⟩
@[simp] theorem noH_tab (T : Nat → Nat → Bool) : noHL (tabL T) = true := noHL_vals _ vals_tab
theorem closeL_vals {H : Nat → Option TV} : ∀ (l : List TV), (∀ t ∈ l, ∃ v, t = .val (.bool v)) → closeL H l = some (l, H)
  | [], _ => by simp
  | t :: l, h => by
    obtain ⟨v, rfl⟩ := h t (by simp)
    simp [closeL_vals l fun t ht => h t (by simp [ht])]
@[simp] theorem closeL_tab {H : Nat → Option TV} (T : Nat → Nat → Bool) : closeL H (tabL T) = some (tabL T, H) := closeL_vals _ vals_tab
theorem opnL_vals {k : Nat} : ∀ (l : List TV), (∀ t ∈ l, ∃ v, t = .val (.bool v)) → opnL k l = (l, [])
  | [], _ => by simp
  | t :: l, h => by
    obtain ⟨v, rfl⟩ := h t (by simp)
    simp [opnL_vals l fun t ht => h t (by simp [ht])]
@[simp] theorem opnL_tab {k : Nat} (T : Nat → Nat → Bool) : opnL k (tabL T) = (tabL T, []) := opnL_vals _ vals_tab
@[simp] theorem take_tab (T : Nat → Nat → Bool) : (tabL T).take 169 = tabL T := List.take_of_length_le (by simp)
@[simp] theorem drop_tab (T : Nat → Nat → Bool) : (tabL T).drop 169 = [] := List.drop_eq_nil_of_le (by simp)
theorem get_tab {T : Nat → Nat → Bool} {i j : Nat} (hi : i < 13) (hj : j < 13) : (tabL T)[i * 13 + j]? = some (.val (.bool (T i j))) := by
  have h1 : (i * 13 + j) / 13 = i := by omega
  have h2 : (i * 13 + j) % 13 = j := by omega
  simp [tabL, List.getElem?_range (show i * 13 + j < 169 by omega), h1, h2]
theorem cut_tab {T : Nat → Nat → Bool} {i j : Nat} (hi : i < 13) (hj : j < 13) : ((tabL T).drop (i * 13 + j)).take 1 = [.val (.bool (T i j))] := by
  have h := get_tab (T := T) hi hj
  have hl : i * 13 + j < (tabL T).length := by simp; omega
  rw [List.drop_eq_getElem_cons hl]
  rw [List.getElem?_eq_getElem hl] at h
  rw [List.take_succ_cons, List.take_zero, Option.some.inj h]
def updT (T : Nat → Nat → Bool) (i j : Nat) (b : Bool) : Nat → Nat → Bool := fun x y => if x = i ∧ y = j then b else T x y
theorem set_tab {T : Nat → Nat → Bool} {i j : Nat} (hi : i < 13) (hj : j < 13) (b : Bool) : (tabL T).take (i * 13 + j) ++ .val (.bool b) :: (tabL T).drop (i * 13 + j + 1) = tabL (updT T i j b) := by
  apply List.ext_getElem?
  intro x
  by_cases hx : x < 169
  · have ex : (tabL (updT T i j b))[x]? = some (.val (.bool (updT T i j b (x / 13) (x % 13)))) := by
      simp [tabL, List.getElem?_range hx]
    have et : (tabL T)[x]? = some (.val (.bool (T (x / 13) (x % 13)))) := by
      simp [tabL, List.getElem?_range hx]
    rw [ex]
    rcases Nat.lt_trichotomy x (i * 13 + j) with h | h | h
    · rw [List.getElem?_append_left (by simp; omega), List.getElem?_take_of_lt h, et]
      have : ¬ (x / 13 = i ∧ x % 13 = j) := by omega
      simp [updT, this]
    · subst h
      rw [List.getElem?_append_right (by simp; omega)]
      have h1 : (i * 13 + j) / 13 = i := by omega
      have h2 : (i * 13 + j) % 13 = j := by omega
      have h3 : i * 13 + j - ((tabL T).take (i * 13 + j)).length = 0 := by simp; omega
      rw [h3]; simp [updT, h1, h2]
    · rw [List.getElem?_append_right (by simp; omega)]
      have h3 : x - ((tabL T).take (i * 13 + j)).length = (x - (i * 13 + j + 1)) + 1 := by simp; omega
      rw [h3, List.getElem?_cons_succ, List.getElem?_drop, show i * 13 + j + 1 + (x - (i * 13 + j + 1)) = x by omega, et]
      have : ¬ (x / 13 = i ∧ x % 13 = j) := by omega
      simp [updT, this]
  · rw [List.getElem?_eq_none (by simp; omega), List.getElem?_eq_none (by simp; omega)]
theorem zero_tab : List.replicate 169 (TV.val (.bool false)) = tabL fun _ _ => false := by
  apply List.ext_getElem?
  intro x
  by_cases hx : x < 169
  · rw [List.getElem?_replicate, if_pos hx]
    simp only [tabL, List.getElem?_map, List.getElem?_range hx]
    rfl
  · rw [List.getElem?_eq_none (by rw [List.length_replicate]; omega), List.getElem?_eq_none (by simp; omega)]
theorem zero_tab2 : List.replicate 338 (TV.val (.bool false)) = tabL (fun _ _ => false) ++ tabL fun _ _ => false := by
  rw [← zero_tab, List.replicate_append_replicate]
theorem tab_congr {T T' : Nat → Nat → Bool} (h : ∀ i j, i < 13 → j < 13 → T i j = T' i j) : tabL T = tabL T' := by
  unfold tabL
  apply List.map_congr_left
  intro x hx
  rw [h _ _ (by have := List.mem_range.1 hx; omega) (by omega)]
@[simp] theorem pc_tab2 (A B : Nat → Nat → Bool) : (tabL A ++ tabL B).all TV.pc = true := by rw [List.all_append, pc_tab, pc_tab]; rfl
@[simp] theorem plain_tab2 (A B : Nat → Nat → Bool) : (tabL A ++ tabL B).all TV.plain = true := by rw [List.all_append, plain_tab, plain_tab]; rfl
theorem two_fst (A B : Nat → Nat → Bool) : (tabL A ++ tabL B).take 169 = tabL A := by rw [List.take_append_of_le_length (by simp), take_tab]
theorem two_snd (A B : Nat → Nat → Bool) : ((tabL A ++ tabL B).drop 169).take 169 = tabL B := by
  rw [List.drop_append_of_le_length (by simp), List.drop_eq_nil_of_le (by simp), List.nil_append, take_tab]
theorem two_set0 (A B X : Nat → Nat → Bool) : tabL X ++ (tabL A ++ tabL B).drop 169 = tabL X ++ tabL B := by
  rw [List.drop_append_of_le_length (by simp), List.drop_eq_nil_of_le (by simp), List.nil_append]
theorem two_set1 (A B X : Nat → Nat → Bool) : (tabL A ++ tabL B).take 169 ++ (tabL X ++ (tabL A ++ tabL B).drop 338) = tabL A ++ tabL X := by
  rw [two_fst, List.drop_eq_nil_of_le (by simp), List.append_nil]
/-- Plain law: the first piece of any number of such. -/
def piece (t : List UInt8) (i j : Nat) : List UInt8 := (t.take j).drop i
def tabF (f : List UInt8 → Bool) (t : List UInt8) (i j : Nat) : Bool := decide (i ≤ j ∧ j ≤ t.length) && f (piece t i j)
end Go.Proofs.YtmpeolimleladaaDoor.R

open Go Go.Proofs.YtmpeolimleladaaDoor.T
namespace Go.Proofs.YtmpeolimleladaaDoor.R
set_option maxHeartbeats 4000000
set_option maxRecDepth 100000
set_option linter.unusedSimpArgs false
set_option linter.unusedVariables false
theorem ne_some {H : Nat → Option TV} {i j : Nat} (h : (H i).isSome = true) (h' : H j = none) : ¬ i = j := fun e => by rw [e, h'] at h; cases h
def tabS (G : List UInt8 → Bool) (t : List UInt8) (q i0 : Nat) (x y : Nat) : Bool := decide (x ≤ y ∧ y ≤ t.length ∧ (y - x < q ∨ (y - x = q ∧ x < i0))) && G (piece t x y)
def noT : Nat → Nat → Bool := fun _ _ => false
theorem tabS_zero {G : List UInt8 → Bool} {t : List UInt8} : tabL (fun _ _ => false) = tabL (tabS G t 0 0) := tab_congr fun i j _ _ => by simp [tabS]
theorem tabS_next {G : List UInt8 → Bool} {t : List UInt8} {q i : Nat} (h : t.length < i + q) : tabL (tabS G t q i) = tabL (tabS G t (q + 1) 0) := tab_congr fun x y _ _ => by
  unfold tabS
  congr 1
  rw [decide_eq_decide]; omega
theorem tabS_all {G : List UInt8 → Bool} {t : List UInt8} {q : Nat} (h : t.length < q) : tabL (tabS G t q 0) = tabL (tabF G t) := tab_congr fun x y _ _ => by
  unfold tabS tabF
  congr 1
  rw [decide_eq_decide]; omega
theorem tabS_set {G : List UInt8 → Bool} {t : List UInt8} {q i : Nat} (h : i + q ≤ t.length) : updT (tabS G t q i) i (i + q) (G (piece t i (i + q))) = tabS G t q (i + 1) := by
  funext x y
  unfold updT
  by_cases e : x = i ∧ y = i + q
  · obtain ⟨rfl, rfl⟩ := e
    rw [if_pos ⟨rfl, rfl⟩, tabS, show decide _ = true from decide_eq_true (by omega)]; rfl
  · rw [if_neg e]
    unfold tabS
    congr 1
    rw [decide_eq_decide]; omega
theorem tabF_at {f : List UInt8 → Bool} {t : List UInt8} {i j : Nat} (h : i ≤ j) (h' : j ≤ t.length) : tabF f t i j = f (piece t i j) := by simp [tabF, h, h']
theorem tabS_at {G : List UInt8 → Bool} {t : List UInt8} {q i x y : Nat} (h : x ≤ y) (h' : y ≤ t.length) (h2 : y - x < q) : tabS G t q i x y = G (piece t x y) := by simp [tabS, h, h', h2]
def catP (fa fb : List UInt8 → Bool) (t : List UInt8) (i q o : Nat) : Bool := (List.range o).any fun x => fa (piece t i (i + x)) && fb (piece t (i + x) (i + q))
theorem catP_succ {fa fb : List UInt8 → Bool} {t : List UInt8} {i q o : Nat} : catP fa fb t i q (o + 1) = (catP fa fb t i q o || (fa (piece t i (i + o)) && fb (piece t (i + o) (i + q)))) := by
  simp [catP, List.range_succ]
theorem piece_take {t : List UInt8} {i q x : Nat} (h : x ≤ q) : (piece t i (i + q)).take x = piece t i (i + x) := by
  simp only [piece, List.drop_take, List.take_take]
  congr 1; omega
theorem piece_drop {t : List UInt8} {i q x : Nat} : (piece t i (i + q)).drop x = piece t (i + x) (i + q) := by
  simp only [piece, List.drop_drop]
theorem catP_all {fa fb : List UInt8 → Bool} {t : List UInt8} {i q : Nat} (h : i + q ≤ t.length) : catP fa fb t i q (q + 1) = catF fa fb (piece t i (i + q)) 0 := by
  have hl : (piece t i (i + q)).length = q := by simp [piece]; omega
  unfold catP catF
  rw [hl, Nat.sub_zero, ← List.range_eq_range']
  rw [Bool.eq_iff_iff, List.any_eq_true, List.any_eq_true]
  constructor
  · rintro ⟨x, hx, h1⟩
    have := List.mem_range.1 hx
    exact ⟨x, hx, by rw [piece_take (by omega), piece_drop]; exact h1⟩
  · rintro ⟨x, hx, h1⟩
    have := List.mem_range.1 hx
    exact ⟨x, hx, by rw [piece_take (by omega), piece_drop] at h1; exact h1⟩
def starP (f : List UInt8 → Bool) (t : List UInt8) (i q o : Nat) : Bool := decide (q = 0) || (List.range o).any fun x => f (piece t i (i + 1 + x)) && starF f (piece t (i + 1 + x) (i + q))
theorem starP_succ {f : List UInt8 → Bool} {t : List UInt8} {i q o : Nat} : starP f t i q (o + 1) = (starP f t i q o || (f (piece t i (i + 1 + o)) && starF f (piece t (i + 1 + o) (i + q)))) := by
  simp [starP, List.range_succ, Bool.or_assoc]
theorem starP_all {f : List UInt8 → Bool} {t : List UInt8} {i q : Nat} (h : i + q ≤ t.length) : starP f t i q q = starF f (piece t i (i + q)) := by
  have hl : (piece t i (i + q)).length = q := by simp [piece]; omega
  rw [starF_first, hl]
  unfold starP
  congr 1
  rw [Bool.eq_iff_iff, List.any_eq_true, List.any_eq_true]
  constructor
  · rintro ⟨x, hx, h1⟩
    have := List.mem_range.1 hx
    exact ⟨x, hx, by rw [piece_take (by omega), piece_drop, show i + (x + 1) = i + 1 + x by omega]; exact h1⟩
  · rintro ⟨x, hx, h1⟩
    have := List.mem_range.1 hx
    exact ⟨x, hx, by rw [piece_take (by omega), piece_drop, show i + (x + 1) = i + 1 + x by omega] at h1; exact h1⟩
end Go.Proofs.YtmpeolimleladaaDoor.R

open Go Go.Proofs.YtmpeolimleladaaDoor.T
namespace Go.Proofs.YtmpeolimleladaaDoor.R
set_option maxHeartbeats 4000000
set_option maxRecDepth 100000
set_option linter.unusedSimpArgs false
set_option linter.unusedVariables false
theorem row0 {T : Nat → Nat → Bool} {j : Nat} (hj : j < 13) : ((tabL T).take 13)[j]? = some (.val (.bool (T 0 j))) := by
  rw [List.getElem?_take_of_lt hj]
  have := get_tab (T := T) (i := 0) (by omega) hj
  rwa [Nat.zero_mul, Nat.zero_add] at this
theorem row0' {T : Nat → Nat → Bool} {j : Nat} (hj : j < 13) : (tabL T)[j]? = some (.val (.bool (T 0 j))) := by
  have := get_tab (T := T) (i := 0) (by omega) hj
  rwa [Nat.zero_mul, Nat.zero_add] at this
def matchIs (r : Rex) (t : List UInt8) : Bool := rexOk r && decide (t.length ≤ 12) && isF 8 r t
end Go.Proofs.YtmpeolimleladaaDoor.R

open Go Go.Proofs.YtmpeolimleladaaDoor.T
namespace Go.Proofs.YtmpeolimleladaaDoor.R
set_option maxHeartbeats 4000000
set_option maxRecDepth 100000
set_option linter.unusedSimpArgs false
set_option linter.unusedVariables false
/-- The longest piece from a place on, of at most k - 1 bytes. -/
def longF (G : List UInt8 → Bool) (t : List UInt8) (p : Nat) : Nat → Int
  | 0 => -1
  | k + 1 => if G (piece t p (p + k)) = true then (k : Int) else longF G t p k
def matchLong (r : Rex) (t : List UInt8) (p : Nat) : Int := longF (isF 8 r) t p (t.length - p + 1)
theorem longF_le {G : List UInt8 → Bool} {t : List UInt8} {p : Nat} : ∀ k : Nat, longF G t p k < k ∧ -1 ≤ longF G t p k
  | 0 => by simp [longF]
  | k + 1 => by
    unfold longF
    have := longF_le (G := G) (t := t) (p := p) k
    split <;> omega
theorem rexOk_form {r : Rex} (h : rexOk r = true) : formF 8 r = true := by simp only [rexOk, Bool.and_eq_true] at h; exact h.1
end Go.Proofs.YtmpeolimleladaaDoor.R

open Go Go.Proofs.YtmpeolimleladaaDoor.T
namespace Go.Proofs.YtmpeolimleladaaDoor.R
set_option maxHeartbeats 4000000
set_option maxRecDepth 100000
set_option linter.unusedSimpArgs false
set_option linter.unusedVariables false
def bestGo (t : List UInt8) (p : Nat) : List Rule → Nat → Int → Nat → Int × Nat
  | [], _, b, m => (b, m)
  | r :: l, i, b, m => if (m : Int) < matchLong r.rex t p then bestGo t p l (i + 1) i (matchLong r.rex t p).toNat else bestGo t p l (i + 1) b m
def bestF (l : List Rule) (t : List UInt8) (p : Nat) : Int × Nat := bestGo t p l 0 (-1) 0
theorem bestGo_drop {t : List UInt8} {p : Nat} {l : List Rule} {i : Nat} (hi : i < l.length) (b : Int) (m : Nat) : bestGo t p (l.drop i) i b m = if (m : Int) < matchLong l[i].rex t p then bestGo t p (l.drop (i + 1)) (i + 1) i (matchLong l[i].rex t p).toNat else bestGo t p (l.drop (i + 1)) (i + 1) b m := by
  conv => lhs; rw [List.drop_eq_getElem_cons hi]
  rw [bestGo]
theorem matchLong_le {r : Rex} {t : List UInt8} {p : Nat} (hp : p ≤ t.length) : matchLong r t p ≤ ((t.length - p : Nat) : Int) := by
  have := (longF_le (G := isF 8 r) (t := t) (p := p) (t.length - p + 1)).1
  unfold matchLong; omega
theorem bestGo_ok {t : List UInt8} {p : Nat} (hp : p ≤ t.length) : ∀ (l : List Rule) (i : Nat) (b : Int) (m : Nat), (0 ≤ b → 0 < m) → p + m ≤ t.length → (0 ≤ (bestGo t p l i b m).1 → 0 < (bestGo t p l i b m).2) ∧ p + (bestGo t p l i b m).2 ≤ t.length
  | [], i, b, m, h, h' => ⟨h, h'⟩
  | r :: l, i, b, m, h, h' => by
    unfold bestGo
    have := matchLong_le (r := r.rex) hp
    split
    · exact bestGo_ok hp l _ _ _ (fun _ => by omega) (by omega)
    · exact bestGo_ok hp l _ _ _ h h'
theorem bestF_ok {l : List Rule} {t : List UInt8} {p : Nat} (hp : p ≤ t.length) : (0 ≤ (bestF l t p).1 → 0 < (bestF l t p).2) ∧ p + (bestF l t p).2 ≤ t.length := bestGo_ok hp l 0 (-1) 0 (by omega) (by omega)
theorem rulesOk_rex {l : List Rule} (h : rulesOk l = true) {i : Nat} (hi : i < l.length) : rexOk l[i].rex = true := by
  simp only [rulesOk, okFrom, Bool.and_eq_true, List.all_eq_true, List.mem_range'_1] at h
  have h1 := h.2 i (by omega)
  simp only [ruleAt, getI hi, Bool.and_eq_true] at h1
  exact h1.1.2
attribute [local simp] bsV bsRows chunk fillT partsT appV makeV rowsOf cellsOf placeOf
abbrev Tok := Int × Int × Int
def encTok (x : Tok) : List TV := [.val (.int .i64 x.1), .val (.int .i64 x.2.1), .val (.int .i64 x.2.2)]
@[simp] theorem len_tok (r : Tok) : (encTok r).length = 3 := by simp [encTok]
@[simp] theorem take_tok (r : Tok) : (encTok r).take 3 = encTok r := by simp [encTok]
@[simp] theorem plain_tok (r : Tok) : (encTok r).all TV.plain = true := by simp [encTok]
@[simp] theorem pc_tok (r : Tok) : (encTok r).all TV.pc = true := by simp [encTok]
@[simp] theorem noH_tok (r : Tok) : noHL (encTok r) = true := by simp [encTok]
@[simp] theorem argTL_tok {H : Nat → Option TV} {ρ : List Nat} (r : Tok) : argTL H ρ (encTok r) = some (encTok r) := by simp [encTok]
@[simp] theorem views_tok {ρ : List Nat} (r : Tok) : (encTok r).flatMap (views1 ρ) = [] := by simp [encTok]
@[simp] theorem opnL_tok {k : Nat} (r : Tok) : opnL k (encTok r) = (encTok r, []) := by simp [encTok]
@[simp] theorem closeL_tok {H : Nat → Option TV} (r : Tok) : closeL H (encTok r) = some (encTok r, H) := by simp [encTok]
@[simp] theorem noHR_tok (s : List Tok) : noHR (s.map encTok) = true := by induction s <;> simp [encTok, *]
@[simp] theorem roL_tok (s : Tok) : roL (encTok s) = encTok s := by simp [encTok]
@[simp] theorem roRows_tok (l : List Tok) : roRows (l.map encTok) = l.map encTok := by induction l <;> simp [*]
@[simp] theorem noRoR_tok (l : List Tok) : noRoR (l.map encTok) = true := by induction l <;> simp [encTok, *]
theorem rl_tok (l : List Tok) : ∀ r ∈ l.map encTok, r.length = szOf Tryd.prog 64 := by
  intro r hr
  obtain ⟨x, _, rfl⟩ := List.mem_map.1 hr
  simp
def toksF (l : List Rule) (t : List UInt8) (p : Nat) : List Tok × Nat :=
  if h : p < t.length ∧ 0 ≤ (bestF l t p).1 ∧ 0 < (bestF l t p).2 then
    (((bestF l t p).1, (p : Int), ((p + (bestF l t p).2 : Nat) : Int)) :: (toksF l t (p + (bestF l t p).2)).1, (toksF l t (p + (bestF l t p).2)).2)
  else ([], p)
termination_by t.length - p
theorem toksF_end {l : List Rule} {t : List UInt8} {p : Nat} (h : ¬ (p < t.length ∧ 0 ≤ (bestF l t p).1 ∧ 0 < (bestF l t p).2)) : toksF l t p = ([], p) := by
  rw [toksF, dif_neg h]
theorem toksF_next {l : List Rule} {t : List UInt8} {p : Nat} (h : p < t.length) (h1 : 0 ≤ (bestF l t p).1) (h2 : 0 < (bestF l t p).2) : toksF l t p =
    (((bestF l t p).1, (p : Int), ((p + (bestF l t p).2 : Nat) : Int)) :: (toksF l t (p + (bestF l t p).2)).1, (toksF l t (p + (bestF l t p).2)).2) := by
  rw [toksF, dif_pos ⟨h, h1, h2⟩]
def lexMeans (l : List Rule) (t : List UInt8) : List Tok × Nat := if rulesOk l = true ∧ t.length ≤ 12 then toksF l t 0 else ([], 0)
end Go.Proofs.YtmpeolimleladaaDoor.R

open Go Go.Proofs.YtmpeolimleladaaDoor.T
namespace Go.Proofs.YtmpeolimleladaaDoor.R
set_option maxHeartbeats 4000000
set_option maxRecDepth 100000
set_option linter.unusedSimpArgs false
set_option linter.unusedVariables false
attribute [local simp] bsV bsRows chunk fillT partsT appV makeV rowsOf cellsOf placeOf
/-- One list as far as i, another from there on. -/
def mix {α : Type _} (A B : List α) (i : Nat) : List α := A.take i ++ B.drop i
section
variable {α : Type _} {A B : List α} {i : Nat}
@[simp] theorem mix_zero : mix A B 0 = B := by simp [mix]
@[simp] theorem mix_len (h : A.length = B.length) (hi : i ≤ B.length) : (mix A B i).length = B.length := by simp [mix]; omega
theorem mix_all (h : A.length = B.length) (hi : B.length ≤ i) : mix A B i = A := by
  unfold mix; rw [List.take_of_length_le (by omega), List.drop_eq_nil_of_le hi, List.append_nil]
theorem mix_at (h : A.length = B.length) (hi : i < B.length) : (mix A B i)[i]? = some B[i] := by
  unfold mix
  rw [List.getElem?_append_right (by simp; omega)]
  simp [List.getElem?_drop, Nat.min_eq_left (show i ≤ A.length by omega)]
theorem mix_at' (h : A.length = B.length) (hi : i < B.length) (hh : i < (mix A B i).length) : (mix A B i)[i] = B[i] := by
  have := mix_at h hi
  rw [List.getElem?_eq_getElem hh] at this
  exact Option.some.inj this
theorem mix_set (h : A.length = B.length) (hi : i < B.length) {x : α} (hx : A[i]? = some x) : (mix A B i).set i x = mix A B (i + 1) := by
  apply List.ext_getElem?
  intro j
  unfold mix
  rw [List.getElem?_set]
  by_cases e : i = j
  · subst e
    rw [if_pos rfl, if_pos (by simp; omega), List.getElem?_append_left (by simp; omega)]
    simp [List.getElem?_take, hx]
  · rw [if_neg e]
    by_cases h' : j < i
    · rw [List.getElem?_append_left (by simp; omega), List.getElem?_append_left (by simp; omega)]
      simp [List.getElem?_take, h', show j < i + 1 by omega]
    · rw [List.getElem?_append_right (by simp; omega), List.getElem?_append_right (by simp; omega)]
      simp [List.getElem?_drop]
      congr 1; omega
end
theorem tc_eqToken (a : Tok) : TC Tryd.prog 36 [.agg (encTok a), .agg (encTok a)] [] (.val (.bool true)) [] := by
  refine TC.enter Tryd.func36 rfl (by simp [Tryd.ntmps36]) rfl (tw_sound (ρ := [2, 3]) ?_)
  rw [Tryd.ntmps36]
  simp [encTok]
theorem tc_eqTokenS (l : List Tok) (hl : l.length ≤ 1152921504606846976) : TC Tryd.prog 16 [.ro (l.map encTok), .ro (l.map encTok)] [] (.val (.bool true)) [] := by
  refine TC.enter Tryd.func16 rfl (by simp [Tryd.ntmps16]) rfl (tw_sound (ρ := []) ?_)
  rw [Tryd.ntmps16]
  simp
  refine TWcH.loop [] (fun m s => ∃ i, i + m = l.length ∧ s.σ 0 = .ro (l.map encTok) ∧ s.σ 1 = .ro (l.map encTok) ∧ s.σ 5 = .val (.int .i64 i)) l.length ⟨0, by simp⟩ ?_
  rintro m ⟨σ, H⟩ ⟨i, him, h0, h1, h5⟩
  simp only at h0 h1 h5
  by_cases hi : i < l.length
  · have hw := hw1 hi hl
    simp [h0, h1, h5, hi]
    refine TWcH.regionD (ρ := []) [0, 1, 2, 3, 4, 5, 6, 7, 8, 9] 10 mixed (by kernel_rfl) ?_
    simp [h0, h1, h5, hi, getI hi]
    refine TWqH.callV (tc_eqToken l[i]) callable_36 (by simp) (by simp) (by simp) (by simp) ?_
    simp [h0, h1, h5, hi, hw]
    exact ⟨m - 1, by omega, i + 1, by omega, by omega⟩
  · simp [h0, h1, h5, hi]
def mkTok (k : Int) (i : Nat) : Tok := (k + 3 * i, k + 3 * i + 1, k + 3 * i + 2)
def mkToks (k : Int) (n : Nat) : List Tok := (List.range n).map (mkTok k)
@[simp] theorem mkToks_len (k : Int) (n : Nat) : (mkToks k n).length = n := by simp [mkToks]
theorem mkToks_at {k : Int} {n i : Nat} (h : i < n) : (mkToks k n)[i]? = some (mkTok k i) := by simp [mkToks, h]
/-- Spans are marked: how they read then does not matter. -/
theorem tcr_markSpanS (l : List (Int × Int)) (k : Int) (h0 : 0 ≤ k) (hk : k + 2 * l.length ≤ 1152921504606846976) : TCR Tryd.prog 51 [.hd 0, .val (.int .i64 k)] [.own 112 (l.map encSp)] (fun r o => r = .val (.int .i64 (k + 2 * l.length)) ∧ ∃ l' : List (Int × Int), o = [.own 112 (l'.map encSp)]) := by
  refine TCR.enter Tryd.func51 rfl (by simp [Tryd.ntmps51]) rfl (tw_sound (ρ := []) ?_)
  rw [Tryd.ntmps51]
  simp
  refine TWcH.loop [] (fun m s => ∃ (i : Nat) (l' : List (Int × Int)), i + m = l.length ∧ l'.length = l.length ∧ s.σ 0 = .hd 0 ∧ s.σ 1 = .val (.int .i64 (k + 2 * i)) ∧ s.σ 5 = .val (.int .i64 i) ∧ s.H 0 = some (.own 112 (l'.map encSp))) l.length ⟨0, l, by simp⟩ ?_
  rintro m ⟨σ, H⟩ ⟨i, l', him, hl', g0, g1, g5, gH⟩
  simp only at g0 g1 g5 gH
  by_cases hi : i < l.length
  · have hw : IntKind.i64.wrap ((i : Int) + 1) = i + 1 := wrapi (by omega)
    have e1 : IntKind.i64.wrap (k + 2 * i + 1) = k + 2 * i + 1 := wrapi (by omega)
    have e2 : IntKind.i64.wrap (k + 2 * i + 1 + 1) = k + 2 * i + 2 := by rw [wrapi (by omega)]; omega
    have hi' : i < l'.length := by omega
    simp [g0, g1, g5, gH, hi, hi', hl', hw, e1, e2, encSp]
    exact ⟨m - 1, by omega, i + 1, by omega, l'.set i (k + 2 * i, k + 2 * i + 1), by simp [hl'], by omega, by omega, by rw [List.map_set]; simp [encSp]⟩
  · obtain rfl : i = l.length := by omega
    simp [g0, g1, g5, gH, hl']
    exact ⟨_, _, ⟨rfl, rfl⟩, by simp, by simp [gH], rfl, l', by simp [gH]⟩
end Go.Proofs.YtmpeolimleladaaDoor.R

open Go Go.Proofs.YtmpeolimleladaaDoor.T
namespace Go.Proofs.YtmpeolimleladaaDoor.R
set_option maxHeartbeats 4000000
set_option maxRecDepth 100000
set_option linter.unusedSimpArgs false
set_option linter.unusedVariables false
attribute [local simp] bsV bsRows chunk fillT partsT appV makeV rowsOf cellsOf placeOf
mutual
def oRex : Rex → List TV
  | .mk k s l => [.val (.int .i64 k), .own 112 (s.map encSp), .own 81 (oRexL l)]
def oRexL : List Rex → List (List TV)
  | [] => []
  | r :: l => oRex r :: oRexL l
end
theorem oRexL_eq : ∀ l : List Rex, oRexL l = l.map oRex
  | [] => rfl
  | r :: l => by simp [oRexL, oRexL_eq l]
@[simp] theorem len_orex (r : Rex) : (oRex r).length = 3 := by cases r; simp [oRex]
@[simp] theorem noRoR_S (l : List (Int × Int)) : noRoR (l.map encSp) = true := by induction l <;> simp [encSp, *]
mutual
theorem noH_orex : ∀ r : Rex, noHL (oRex r) = true
  | .mk k s l => by simp [oRex, noHR_orex l]
theorem noHR_orex : ∀ l : List Rex, noHR (oRexL l) = true
  | [] => by simp [oRexL]
  | r :: l => by simp [oRexL, noH_orex r, noHR_orex l]
end
mutual
theorem noRo_orex : ∀ r : Rex, noRoL (oRex r) = true
  | .mk k s l => by simp [oRex, noRoR_orex l]
theorem noRoR_orex : ∀ l : List Rex, noRoR (oRexL l) = true
  | [] => by simp [oRexL]
  | r :: l => by simp [oRexL, noRo_orex r, noRoR_orex l]
end
mutual
theorem roL_orex : ∀ r : Rex, roL (oRex r) = encRex r
  | .mk k s l => by simp [oRex, encRex, roRows_orex l]
theorem roRows_orex : ∀ l : List Rex, roRows (oRexL l) = encRexL l
  | [] => by simp [oRexL, encRexL]
  | r :: l => by simp [oRexL, encRexL, roL_orex r, roRows_orex l]
end
attribute [simp] noH_orex noHR_orex noRo_orex noRoR_orex roL_orex roRows_orex
@[simp] theorem noHR_orexs (l : List Rex) : noHR (l.map oRex) = true := by rw [← oRexL_eq]; simp
@[simp] theorem noRoR_orexs (l : List Rex) : noRoR (l.map oRex) = true := by rw [← oRexL_eq]; simp
@[simp] theorem roRows_orexs (l : List Rex) : roRows (l.map oRex) = l.map encRex := by rw [← oRexL_eq, ← encRexL_eq]; simp
theorem tc_toRexSO (l : List Rex) (hl : l.length ≤ 1048576) (ih : ∀ i (h : i < l.length), TC Tryd.prog 62 [.agg (encRex l[i])] [] (.agg (oRex l[i])) []) : TC Tryd.prog 85 [.ro (l.map encRex)] [] (.own 81 (l.map oRex)) [] := by
  refine TC.enter Tryd.func85 rfl (by simp [Tryd.ntmps85]) rfl (tw_sound (ρ := []) ?_)
  rw [Tryd.ntmps85]
  simp [makeV]
  rw [gif_pos (by omega)]
  refine gall_intro fun id hid => ?_
  simp
  refine TWcH.loopS [] (fun m s => ∃ i, i + m = l.length ∧ s.σ 0 = .ro (l.map encRex) ∧ s.σ 3 = .hd id ∧ s.σ 4 = .val (.int .i64 i) ∧ s.H id = some (.own 81 (fillR oRex [.val (.int .i64 0), .val (.slice none 0 0), .val (.slice none 0 0)] l i))) l.length ⟨0, by simp⟩ ?_
  rintro m ⟨σ, H⟩ ⟨i, him, h0, h3, h4, hH⟩
  simp only at h0 h3 h4 hH
  refine tw_sound (ρ := []) ?_
  by_cases hi : i < l.length
  · have hw := hw1 hi (by omega)
    simp [h0, h3, h4, getI hi, hi]
    have hih := ih i hi
    have hset := fillR_set (enc := oRex) (z := [.val (.int .i64 0), .val (.slice none 0 0), .val (.slice none 0 0)]) hi
    generalize l[i] = r at hih hset
    obtain ⟨kk, ss, ks⟩ := r
    refine TWoH.call hih callable_62 (by simp [*]) (by simp) (by simp) fun k hk => ?_
    have n1 : ¬ id = k := fun e => by have := hk k (Nat.le_refl _); rw [← e] at this; simp [hH] at this
    have n2 : ¬ id = k + 1 := fun e => by have := hk (k + 1) (by omega); rw [← e] at this; simp [hH] at this
    simp [h0, h3, h4, hH, hi, oRex, n1, n2, fillR_at hi, fillR_at' hi, fillR_len (Nat.le_of_lt hi), hw]
    refine ⟨m - 1, by omega, _, Shift.fold2x id k (k + 1) 81 i 1 2 ((fillR oRex [.val (.int .i64 0), .val (.slice none 0 0), .val (.slice none 0 0)] l i).set i [.val (.int .i64 kk), .hd k, .hd (k + 1)]) [.val (.int .i64 kk), .hd k, .hd (k + 1)] (.own 112 (ss.map encSp)) (.own 81 (oRexL ks)) n1 n2 (by omega) (by omega) (by simp) (by simp [fillR_len (Nat.le_of_lt hi), hi]) (by simp) (by simp) (by simp [n1, Ne.symm n1]) (by simp [n2, Ne.symm n2]), i + 1, by omega, ?_⟩
    simp [h0, h3]
    rw [← hset]; simp [oRex]

  · simp [h0, h3, h4, hH, hi, fillR_all (Nat.le_of_not_lt hi)]
mutual
theorem tc_toRexO : ∀ (r : Rex), Sm r → TC Tryd.prog 62 [.agg (encRex r)] [] (.agg (oRex r)) []
  | .mk k s l, hs => by
    refine TC.enter Tryd.func62 rfl (by simp [Tryd.ntmps62]) rfl (tw_sound (ρ := [1]) ?_)
    rw [Tryd.ntmps62]
    simp [encRex]
    refine gall_intro fun a ha => ?_
    simp
    refine gall_intro fun b hb => ?_
    simp at hb
    simp [hb, Ne.symm hb]
    refine TWoH.call (tc_toSpanS s hs.1) callable_84 (by simp [*]) (by simp) (by simp) fun c hc => ?_
    have c1 : ¬ a = c := fun e => by have := hc c (Nat.le_refl _); rw [← e] at this; simp [hb, Ne.symm hb] at this
    have c2 : ¬ b = c := fun e => by have := hc c (Nat.le_refl _); rw [← e] at this; simp [hb, Ne.symm hb] at this
    simp [hb, Ne.symm hb, c1, c2, Ne.symm c1, Ne.symm c2]
    refine TWoH.call (tc_toRexSO l hs.2.1 (tc_toRexOL l hs.2.2)) callable_85 (by simp [*, encRexL_eq]) (by simp) (by simp) fun d hd => ?_
    have d1 : ¬ a = d := fun e => by have := hd d (Nat.le_refl _); rw [← e] at this; simp [hb, Ne.symm hb, c1, c2] at this
    have d2 : ¬ b = d := fun e => by have := hd d (Nat.le_refl _); rw [← e] at this; simp [hb, Ne.symm hb, c1, c2] at this
    have d3 : ¬ c = d := fun e => by have := hd d (Nat.le_refl _); rw [← e] at this; simp [hb, Ne.symm hb, c1, c2, Ne.symm c1, Ne.symm c2] at this
    simp [hb, Ne.symm hb, c1, c2, Ne.symm c1, Ne.symm c2, d1, d2, d3, Ne.symm d1, Ne.symm d2, Ne.symm d3, oRex, oRexL_eq]
theorem tc_toRexOL : ∀ (l : List Rex), SmL l → ∀ i (h : i < l.length), TC Tryd.prog 62 [.agg (encRex l[i])] [] (.agg (oRex l[i])) []
  | r :: l, hs, 0, _ => tc_toRexO r hs.1
  | r :: l, hs, i + 1, h => by
    simp only [List.getElem_cons_succ]
    exact tc_toRexOL l hs.2 i (by simpa using h)
end
def oRule (r : Rule) : List TV := .val (.string (bs r.name)) :: oRex r.rex
@[simp] theorem len_orule (r : Rule) : (oRule r).length = 4 := by simp [oRule]
@[simp] theorem roL_orule (r : Rule) : roL (oRule r) = encRule r := by simp [oRule, encRule]
@[simp] theorem noH_orule (r : Rule) : noHL (oRule r) = true := by simp [oRule]
@[simp] theorem noRo_orule (r : Rule) : noRoL (oRule r) = true := by simp [oRule]
@[simp] theorem noHR_orules (l : List Rule) : noHR (l.map oRule) = true := by induction l <;> simp [*]
@[simp] theorem noRoR_orules (l : List Rule) : noRoR (l.map oRule) = true := by induction l <;> simp [*]
@[simp] theorem roRows_orules (l : List Rule) : roRows (l.map oRule) = l.map encRule := by induction l <;> simp [*]
theorem tc_toRuleO (r : Rule) (hs : Sm r.rex) : TC Tryd.prog 40 [.agg (encRule r)] [] (.agg (oRule r)) [] := by
  refine TC.enter Tryd.func40 rfl (by simp [Tryd.ntmps40]) rfl (tw_sound (ρ := [1]) ?_)
  rw [Tryd.ntmps40]
  simp [encRule]
  refine gall_intro fun a ha => ?_
  simp
  refine gall_intro fun b hb => ?_
  simp at hb
  simp [hb, Ne.symm hb]
  have h := tc_toRexO r.rex hs
  obtain ⟨nm, rx⟩ := r
  obtain ⟨kk, ss, ks⟩ := rx
  refine TWoH.call h callable_62 (by simp [*]) (by simp) (by simp) fun c hc => ?_
  have c1 : ¬ a = c := fun e => by have := hc c (Nat.le_refl _); rw [← e] at this; simp [hb, Ne.symm hb] at this
  have c2 : ¬ b = c := fun e => by have := hc c (Nat.le_refl _); rw [← e] at this; simp [hb, Ne.symm hb] at this
  have d1 : ¬ a = c + 1 := fun e => by have := hc (c + 1) (by omega); rw [← e] at this; simp [hb, Ne.symm hb] at this
  have d2 : ¬ b = c + 1 := fun e => by have := hc (c + 1) (by omega); rw [← e] at this; simp [hb, Ne.symm hb] at this
  simp [hb, Ne.symm hb, c1, c2, Ne.symm c1, Ne.symm c2, d1, d2, Ne.symm d1, Ne.symm d2, oRule, oRex]
theorem tc_toRuleSO (l : List Rule) (hl : l.length ≤ 1048576) (hs : ∀ r ∈ l, Sm r.rex) : TC Tryd.prog 19 [.ro (l.map encRule)] [] (.own 83 (l.map oRule)) [] := by
  refine TC.enter Tryd.func19 rfl (by simp [Tryd.ntmps19]) rfl (tw_sound (ρ := []) ?_)
  rw [Tryd.ntmps19]
  simp [makeV]
  rw [gif_pos (by omega)]
  refine gall_intro fun id hid => ?_
  simp
  refine TWcH.loopS [] (fun m s => ∃ i, i + m = l.length ∧ s.σ 0 = .ro (l.map encRule) ∧ s.σ 3 = .hd id ∧ s.σ 4 = .val (.int .i64 i) ∧ s.H id = some (.own 83 (fillR oRule [.val (.string (bs [])), .val (.int .i64 0), .val (.slice none 0 0), .val (.slice none 0 0)] l i))) l.length ⟨0, by simp⟩ ?_
  rintro m ⟨σ, H⟩ ⟨i, him, h0, h3, h4, hH⟩
  simp only at h0 h3 h4 hH
  refine tw_sound (ρ := []) ?_
  by_cases hi : i < l.length
  · have hw := hw1 hi (by omega)
    simp [h0, h3, h4, getI hi, hi]
    have hih := tc_toRuleO l[i] (hs _ (List.getElem_mem hi))
    have hset := fillR_set (enc := oRule) (z := [.val (.string (bs [])), .val (.int .i64 0), .val (.slice none 0 0), .val (.slice none 0 0)]) hi
    generalize l[i] = r at hih hset
    obtain ⟨nm, rx⟩ := r
    obtain ⟨kk, ss, ks⟩ := rx
    refine TWoH.call hih callable_40 (by simp [*]) (by simp) (by simp) fun k hk => ?_
    have n1 : ¬ id = k := fun e => by have := hk k (Nat.le_refl _); rw [← e] at this; simp [hH] at this
    have n2 : ¬ id = k + 1 := fun e => by have := hk (k + 1) (by omega); rw [← e] at this; simp [hH] at this
    simp [h0, h3, h4, hH, hi, oRule, oRex, n1, n2, fillR_at hi, fillR_at' hi, fillR_len (Nat.le_of_lt hi), hw]
    refine ⟨m - 1, by omega, _, Shift.fold2x id k (k + 1) 83 i 2 3 ((fillR oRule [.val (.string (bs [])), .val (.int .i64 0), .val (.slice none 0 0), .val (.slice none 0 0)] l i).set i [.val (.string (bs nm)), .val (.int .i64 kk), .hd k, .hd (k + 1)]) [.val (.string (bs nm)), .val (.int .i64 kk), .hd k, .hd (k + 1)] (.own 112 (ss.map encSp)) (.own 81 (oRexL ks)) n1 n2 (by omega) (by omega) (by simp) (by simp [fillR_len (Nat.le_of_lt hi), hi]) (by simp) (by simp) (by simp [n1, Ne.symm n1]) (by simp [n2, Ne.symm n2]), i + 1, by omega, ?_⟩
    simp [h0, h3]
    rw [← hset]; simp [oRule, oRex]
  · simp [h0, h3, h4, hH, hi, fillR_all (Nat.le_of_not_lt hi)]
end Go.Proofs.YtmpeolimleladaaDoor.R
