/- FnExactRulesOk, part 18 of 18: the functions that it reaches as plain Lean functions, that the program's functions compute them, and what they come to. Conditions: stated at each theorem. -/
import Derived.Test.YtljaoggbfoimfaaRows
import Derived.WalkKit
import Derived.ProofKit
import Derived.OpenShut
import Derived.ShutString
import Derived.ChangeOld
import Derived.Below
import Derived.SizedLaws
import Derived.Carry
import Derived.Test.YtljaoggbfoimfaaBFnExactRulesOk14
import Derived.Test.YtljaoggbfoimfaaBFnExactRulesOk16
set_option linter.unusedVariables false
set_option linter.unusedSimpArgs false
namespace Go.Proofs.Ytljaoggbfoimfaa.P
open Go.Proofs.YtljaoggbfoimfaaW.PrintWords Go.RowKit
theorem in_f' (a b c : Int) : impl_in.f a b c = some (yes (b ≤ a ∧ a ≤ c)) := by
  unfold impl_in.f
  by_cases h : a ≥ b
  · rw [if_pos h]
    by_cases h2 : a ≤ c
    · rw [decide_eq_true h2, yes_pos ⟨h, h2⟩]
    · rw [decide_eq_false h2, yes_neg (fun x => h2 x.2)]
  · rw [if_neg h, yes_neg (fun x => h x.1)]
def WordP (s : ByteArray) : Prop := (∀ i, i < s.size → 97 ≤ bt s i ∧ bt s i ≤ 122) ∧ 1 ≤ s.size ∧ s.size ≤ 6
theorem impl_RuleWord_ev (s : ByteArray) (hn : s.size ≤ 140737488351232) : Ev (fun k => impl_RuleWord.f k s) (yes (WordP s)) := by
  unfold impl_RuleWord.f
  have key : ∀ d i : Nat, i + d = s.size → Ev (fun k => impl_RuleWord.l0 k s (i : Int)) (yes ((∀ j, i ≤ j → j < s.size → 97 ≤ bt s j ∧ bt s j ≤ 122) ∧ 1 ≤ s.size ∧ s.size ≤ 6)) := by
    intro d
    induction d with
    | zero =>
      intro i hi
      refine (Ev.ofSucc (g := fun k => impl_RuleWord.l0 k s (i : Int)) (r := yes (1 ≤ s.size ∧ s.size ≤ 6)) (fun k => ?_)).eqs (yes_congr ⟨fun h => ⟨fun j h1 h2 => by omega, h⟩, fun h => h.2⟩)
      simp only [impl_RuleWord.l0, in_f']
      rw [if_neg (by omega)]
      rw [Option.bind_some]; congr 1; apply yes_congr; omega
    | succ d ih =>
      intro i hi
      have hb := bt_range s (i : Int)
      by_cases c : 97 ≤ bt s (i : Int) ∧ bt s (i : Int) ≤ 122
      · refine (Ev.late (g := fun k => impl_RuleWord.l0 k s (i : Int)) ⟨0, fun k _ => ?_⟩ (ih (i + 1) (by omega))).eqs (yes_congr ?_)
        · simp only [impl_RuleWord.l0, in_f']
          rw [if_pos (by omega), if_pos (by omega), wrap_nat (by omega)]
          have hw : wrap64 (bt s (i : Int)) = bt s (i : Int) := by unfold wrap64; omega
          rw [hw, yes_pos c, Option.bind_some, if_pos rfl]
        · constructor
          · intro h
            refine ⟨fun j h1 h2 => ?_, h.2⟩
            rcases Nat.lt_or_ge i j with h3 | h3
            · exact h.1 j (by omega) h2
            · have : j = i := by omega
              subst this; exact c
          · exact fun h => ⟨fun j h1 h2 => h.1 j (by omega) h2, h.2⟩
      · refine (Ev.late (g := fun k => impl_RuleWord.l0 k s (i : Int)) (f := fun _ => some false) ⟨0, fun k _ => ?_⟩ (Ev.now false)).eqs (yes_neg fun h => c (h.1 i (Nat.le_refl _) (by omega))).symm
        simp only [impl_RuleWord.l0, in_f']
        rw [if_pos (by omega), if_pos (by omega)]
        have hw : wrap64 (bt s (i : Int)) = bt s (i : Int) := by unfold wrap64; omega
        rw [hw, yes_neg c, Option.bind_some, if_neg (by simp)]
  refine (key s.size 0 (by omega)).eqs (yes_congr ?_)
  exact ⟨fun h => ⟨fun i hi => h.1 i (Nat.zero_le _) hi, h.2⟩, fun h => ⟨fun j _ hj => h.1 j hj, h.2⟩⟩
theorem spec_RuleWord_ev (s : ByteArray) (hn : s.size ≤ 140737488351232) : Ev (fun k => spec_RuleWord.f k s) (yes (WordP s)) := by
  unfold spec_RuleWord.f
  have key : ∀ d i : Nat, i + d = s.size → Ev (fun k => spec_RuleWord.l0 k s (i : Int)) (yes ((∀ j, i ≤ j → j < s.size → 97 ≤ bt s j ∧ bt s j ≤ 122) ∧ 1 ≤ s.size ∧ s.size ≤ 6)) := by
    intro d
    induction d with
    | zero =>
      intro i hi
      refine (Ev.ofSucc (g := fun k => spec_RuleWord.l0 k s (i : Int)) (r := yes (1 ≤ s.size ∧ s.size ≤ 6)) (fun k => ?_)).eqs (yes_congr ⟨fun h => ⟨fun j h1 h2 => by omega, h⟩, fun h => h.2⟩)
      simp only [spec_RuleWord.l0]
      rw [if_neg (by omega)]
      by_cases c : (s.size : Int) > 0
      · rw [if_pos c, yes_decide]; congr 1; apply yes_congr; omega
      · rw [if_neg c, yes_neg]; omega
    | succ d ih =>
      intro i hi
      have hb := bt_range s (i : Int)
      by_cases c : 97 ≤ bt s (i : Int) ∧ bt s (i : Int) ≤ 122
      · refine (Ev.late (g := fun k => spec_RuleWord.l0 k s (i : Int)) ⟨0, fun k _ => ?_⟩ (ih (i + 1) (by omega))).eqs (yes_congr ?_)
        · simp only [spec_RuleWord.l0]
          rw [if_pos (by omega), if_pos (by omega), wrap_nat (by omega)]
          have c1 : ¬ bt s (i : Int) < 97 := by omega
          have c2 : ¬ bt s (i : Int) > 122 := by omega
          rw [if_neg c1, if_neg c2]
        · constructor
          · intro h
            refine ⟨fun j h1 h2 => ?_, h.2⟩
            rcases Nat.lt_or_ge i j with h3 | h3
            · exact h.1 j (by omega) h2
            · have : j = i := by omega
              subst this; exact c
          · exact fun h => ⟨fun j h1 h2 => h.1 j (by omega) h2, h.2⟩
      · refine (Ev.late (g := fun k => spec_RuleWord.l0 k s (i : Int)) (f := fun _ => some false) ⟨0, fun k _ => ?_⟩ (Ev.now false)).eqs (yes_neg fun h => c (h.1 i (Nat.le_refl _) (by omega))).symm
        simp only [spec_RuleWord.l0]
        rw [if_pos (by omega), if_pos (by omega)]
        by_cases c1 : bt s (i : Int) < 97
        · rw [if_pos c1]
        · have c2 : bt s (i : Int) > 122 := by omega
          rw [if_neg c1, if_pos c2]
  refine (key s.size 0 (by omega)).eqs (yes_congr ?_)
  exact ⟨fun h => ⟨fun i hi => h.1 i (Nat.zero_le _) hi, h.2⟩, fun h => ⟨fun j _ hj => h.1 j hj, h.2⟩⟩
abbrev ruleAt (l : List S94) (i : Int) : S94 := rd_T94 l i
def RuleQ (l : List S94) (i : Nat) : Prop := WordP (ruleAt l i).f0 ∧ RexOkP (ruleAt l i).f1 ∧ ∀ j : Nat, j < i → (ruleAt l j).f0 ≠ (ruleAt l i).f0
def RulesP (l : List S94) : Prop := 1 ≤ l.length ∧ l.length ≤ 5 ∧ ∀ i, i < l.length → RuleQ l i
theorem ruleAt_get {l : List S94} {i : Nat} (h : i < l.length) : ruleAt l i = l[i] := by unfold ruleAt rd_T94; exact getD_at h
theorem impl_RulesOk_ev (l : List S94) (hc : ∀ x ∈ l, RuleB x) : Ev (fun k => impl_RulesOk.f k l) (yes (RulesP l)) := by
  unfold impl_RulesOk.f
  simp only [in_f', Option.bind_some]
  by_cases c0 : 1 ≤ (l.length : Int) ∧ (l.length : Int) ≤ 5
  · simp only [yes_pos c0, if_true]
    refine (all_ev2 (fun k i => impl_RulesOk.l0 k l l (l.length : Int) i) l.length (RuleQ l) ?_ (fun i hi => ?_)).eqs (yes_congr ⟨fun h => ⟨by omega, by omega, h⟩, fun h => h.2.2⟩)
    · exact Ev.ofSucc (g := fun k => impl_RulesOk.l0 k l l (l.length : Int) _) (fun k => by simp only [impl_RulesOk.l0]; rw [if_neg (by omega)])
    · have hx : rd_T94 l (i : Int) = l[i] := getD_at hi
      obtain ⟨hB, hN⟩ := hc l[i] (List.getElem_mem hi)
      have hw := impl_RuleWord_ev l[i].f0 hN
      have ho := impl_RexOk_ev l[i].f1 hB
      have hq : RuleQ l i ↔ WordP l[i].f0 ∧ RexOkP l[i].f1 ∧ ∀ j : Nat, j < i → (ruleAt l j).f0 ≠ l[i].f0 := by unfold RuleQ; rw [ruleAt_get hi]
      have jt : Ev (fun k => impl_RulesOk.j1 k l (i : Int) l (l.length : Int) (i : Int) true l[i].f0 l[i].f1.f0 l[i].f1.f1 l[i].f1.f2) false := Ev.ofSucc (g := fun k => impl_RulesOk.j1 k l (i : Int) l (l.length : Int) (i : Int) true l[i].f0 l[i].f1.f0 l[i].f1.f1 l[i].f1.f2) fun k => by simp [impl_RulesOk.j1]
      have htl : (l.take i).length = i := by rw [List.length_take]; omega
      have hgj : ∀ j : Nat, j < i → rd_T94 (l.take i) (j : Int) = ruleAt l j := fun j hj => by
        rw [ruleAt_get (by omega)]
        unfold rd_T94
        rw [getD_at (by omega)]
        simp
      obtain ⟨sc1, sc2⟩ := scan_ev (fun k j => impl_RulesOk.l1 k l l (l.length : Int) (i : Int) (l.take i) (i : Int) j l[i].f0 l[i].f1.f0 l[i].f1.f1 l[i].f1.f2) i (fun j => (ruleAt l j).f0 = l[i].f0) false
        (fun j hj he => Ev.ofSucc (g := fun k => impl_RulesOk.l1 k l l (l.length : Int) (i : Int) (l.take i) (i : Int) (j : Int) l[i].f0 l[i].f1.f0 l[i].f1.f1 l[i].f1.f2) (fun k => by
          simp only [impl_RulesOk.l1, hgj j hj, htl]
          rw [if_pos (by omega), if_pos (by omega), if_pos (by omega), if_pos (bytes_same.2 he.symm)]))
        (fun j hj he => ⟨0, fun k _ => by
          show impl_RulesOk.l1 (k + 1) l l (l.length : Int) (i : Int) (l.take i) (i : Int) (j : Int) l[i].f0 l[i].f1.f0 l[i].f1.f1 l[i].f1.f2 = impl_RulesOk.l1 k l l (l.length : Int) (i : Int) (l.take i) (i : Int) _ l[i].f0 l[i].f1.f0 l[i].f1.f1 l[i].f1.f2
          simp only [impl_RulesOk.l1, hgj j hj, htl]
          rw [if_pos (by omega), if_pos (by omega), if_pos (by omega), if_neg (fun h => he (bytes_same.1 h).symm), wrap_nat (by omega)]⟩)
      have into : ∀ r, Ev (fun k => impl_RulesOk.l1 k l l (l.length : Int) (i : Int) (l.take i) (i : Int) 0 l[i].f0 l[i].f1.f0 l[i].f1.f1 l[i].f1.f2) r → Ev (fun k => impl_RulesOk.j1 k l (i : Int) l (l.length : Int) (i : Int) false l[i].f0 l[i].f1.f0 l[i].f1.f1 l[i].f1.f2) r := fun r hr => by
        refine Ev.succ ?_
        simp only [impl_RulesOk.j1, Bool.false_eq_true, if_false, if_pos (show (0 : Int) ≤ (i : Int) by omega), if_pos (show (i : Int) ≤ (l.length : Int) by omega), Option.bind_some, Int.toNat_natCast, htl]
        exact hr
      have head : ∀ r, (WordP l[i].f0 → RexOkP l[i].f1 → Ev (fun k => impl_RulesOk.l1 k l l (l.length : Int) (i : Int) (l.take i) (i : Int) 0 l[i].f0 l[i].f1.f0 l[i].f1.f1 l[i].f1.f2) r) → (¬ (WordP l[i].f0 ∧ RexOkP l[i].f1) → r = false) → Ev (fun k => impl_RulesOk.l0 k l l (l.length : Int) (i : Int)) r := fun r h1 h2 => by
        refine Ev.succ ?_
        simp only [impl_RulesOk.l0, hx, if_pos (show (i : Int) < (l.length : Int) by omega), if_pos (show (0 : Int) ≤ (i : Int) by omega)]
        refine Ev.bind hw ?_
        by_cases c1 : WordP l[i].f0
        · simp only [yes_pos c1, if_true]
          refine Ev.bind ho ?_
          by_cases c2 : RexOkP l[i].f1
          · simp only [yes_pos c2, Bool.not_true]
            exact into r (h1 c1 c2)
          · simp only [yes_neg c2, Bool.not_false]
            rw [h2 (fun h => c2 h.2)]; exact jt
        · simp only [yes_neg c1, Bool.false_eq_true, if_false]
          rw [h2 (fun h => c1 h.1)]; exact jt
      rw [hq]
      constructor
      · intro hQ r hr
        refine head r (fun _ _ => sc2 (fun j hj => hQ.2.2 j hj) r ?_) (fun h => absurd ⟨hQ.1, hQ.2.1⟩ h)
        refine Ev.succ ?_
        simp only [impl_RulesOk.l1, if_neg (show ¬ (i : Int) < (i : Int) by omega), wrap_nat (show i < 9000000000000000000 by omega)]
        exact hr
      · intro hQ
        refine head false (fun c1 c2 => sc1 ?_) (fun _ => rfl)
        apply Classical.byContradiction
        intro hno
        exact hQ ⟨c1, c2, fun j hj he => hno ⟨j, hj, he⟩⟩
  · simp only [yes_neg c0, Bool.false_eq_true, if_false]
    exact (Ev.now false).eqs (yes_neg fun h => c0 ⟨by have := h.1; omega, by have := h.2.1; omega⟩).symm
theorem spec_RulesOk_ev (l : List S94) (hl : l.length * 72 ≤ 140737488351232) (hc : ∀ x ∈ l, RuleB x) : Ev (fun k => spec_RulesOk.f k l) (yes (RulesP l)) := by
  unfold spec_RulesOk.f
  have j0t : Ev (fun k => spec_RulesOk.j0 k l true) false := Ev.ofSucc (g := fun k => spec_RulesOk.j0 k l true) fun k => by simp [spec_RulesOk.j0]
  by_cases c0 : (l.length : Int) < 1
  · simp only [if_pos c0]
    exact j0t.eqs (yes_neg fun h => by have := h.1; omega).symm
  simp only [if_neg c0]
  by_cases c1 : (l.length : Int) > 5
  · simp only [decide_eq_true c1]
    exact j0t.eqs (yes_neg fun h => by have := h.2.1; omega).symm
  simp only [decide_eq_false c1]
  refine Ev.succ ?_
  simp only [spec_RulesOk.j0, Bool.false_eq_true, if_false]
  refine (all_ev2 (fun k i => spec_RulesOk.l0 k l i) l.length (RuleQ l) ?_ (fun i hi => ?_)).eqs (yes_congr ⟨fun h => ⟨by omega, by omega, h⟩, fun h => h.2.2⟩)
  · exact Ev.ofSucc (g := fun k => spec_RulesOk.l0 k l _) (fun k => by simp only [spec_RulesOk.l0]; rw [if_neg (by omega)])
  · have hx : rd_T94 l (i : Int) = l[i] := getD_at hi
    obtain ⟨hB, hN⟩ := hc l[i] (List.getElem_mem hi)
    have hw := spec_RuleWord_ev l[i].f0 hN
    have ho := spec_RexOk_ev l[i].f1 hB
    have hq : RuleQ l i ↔ WordP l[i].f0 ∧ RexOkP l[i].f1 ∧ ∀ j : Nat, j < i → (ruleAt l j).f0 ≠ l[i].f0 := by unfold RuleQ; rw [ruleAt_get hi]
    have jt : Ev (fun k => spec_RulesOk.j2 k l (i : Int) true) false := Ev.ofSucc (g := fun k => spec_RulesOk.j2 k l (i : Int) true) fun k => by simp [spec_RulesOk.j2]
    obtain ⟨sc1, sc2⟩ := scan_ev (fun k j => spec_RulesOk.l1 k l (i : Int) j) i (fun j => (ruleAt l j).f0 = l[i].f0) false
      (fun j hj he => Ev.ofSucc (g := fun k => spec_RulesOk.l1 k l (i : Int) (j : Int)) (fun k => by
        simp only [spec_RulesOk.l1, hx]
        rw [if_pos (by omega), if_pos (by omega), if_pos (by omega), if_pos (by omega), if_pos (by omega), if_pos (bytes_same.2 he)]))
      (fun j hj he => ⟨0, fun k _ => by
        show spec_RulesOk.l1 (k + 1) l (i : Int) (j : Int) = spec_RulesOk.l1 k l (i : Int) _
        simp only [spec_RulesOk.l1, hx]
        rw [if_pos (by omega), if_pos (by omega), if_pos (by omega), if_pos (by omega), if_pos (by omega), if_neg (fun h => he (bytes_same.1 h)), wrap_nat (by omega)]⟩)
    have into : ∀ r, Ev (fun k => spec_RulesOk.l1 k l (i : Int) 0) r → Ev (fun k => spec_RulesOk.j2 k l (i : Int) false) r := fun r hr => by
      refine Ev.succ ?_
      simp only [spec_RulesOk.j2, Bool.false_eq_true, if_false]
      exact hr
    have head : ∀ r, (WordP l[i].f0 → RexOkP l[i].f1 → Ev (fun k => spec_RulesOk.l1 k l (i : Int) 0) r) → (¬ (WordP l[i].f0 ∧ RexOkP l[i].f1) → r = false) → Ev (fun k => spec_RulesOk.l0 k l (i : Int)) r := fun r h1 h2 => by
      refine Ev.succ ?_
      simp only [spec_RulesOk.l0, hx, if_pos (show (i : Int) < (l.length : Int) by omega), if_pos (show (0 : Int) ≤ (i : Int) by omega)]
      refine Ev.bind hw ?_
      by_cases c1 : WordP l[i].f0
      · simp only [yes_pos c1, if_true]
        refine Ev.bind ho ?_
        by_cases c2 : RexOkP l[i].f1
        · simp only [yes_pos c2, Bool.not_true]
          exact into r (h1 c1 c2)
        · simp only [yes_neg c2, Bool.not_false]
          rw [h2 (fun h => c2 h.2)]; exact jt
      · simp only [yes_neg c1, Bool.false_eq_true, if_false]
        rw [h2 (fun h => c1 h.1)]; exact jt
    rw [hq]
    constructor
    · intro hQ r hr
      refine head r (fun _ _ => sc2 (fun j hj => hQ.2.2 j hj) r ?_) (fun h => absurd ⟨hQ.1, hQ.2.1⟩ h)
      refine Ev.succ ?_
      simp only [spec_RulesOk.l1, if_neg (show ¬ (i : Int) < (i : Int) by omega), wrap_nat (show i < 9000000000000000000 by omega)]
      exact hr
    · intro hQ
      refine head false (fun c1 c2 => sc1 ?_) (fun _ => rfl)
      apply Classical.byContradiction
      intro hno
      exact hQ ⟨c1, c2, fun j hj he => hno ⟨j, hj, he⟩⟩
end Go.Proofs.Ytljaoggbfoimfaa.P

set_option linter.unusedVariables false
set_option linter.unusedSimpArgs false
namespace Go.Proofs.Ytljaoggbfoimfaa.Pure
open Go.RowKit Go.Proofs.Ytljaoggbfoimfaa.P Go.Proofs.YtljaoggbfoimfaaW.PrintWords Go.Proofs.YtljaoggbfoimfaaW.PrintLast
namespace FnExactRulesOk
theorem rexL {x : S86} (h : B86 x) : RexL x := by
  induction h with
  | mk x h0 h1 h2 h3 ih =>
    rw [show reachBytes = 140737488351232 from rfl] at h1 h2
    exact .mk x h1.1 h2 ih
end FnExactRulesOk
theorem FnExactRulesOk : FnExactRulesOk.Said := by
  intro l0 h0
  have hl0 := h0.1
  rw [show reachBytes = 140737488351232 from rfl] at hl0
  have hr0 : ∀ x ∈ l0, RuleL x := fun x hx => ⟨FnExactRulesOk.rexL (h0.2 x hx).2, (h0.2 x hx).1⟩
  apply Ev.rounds
  unfold laws_FnExactRulesOk.f
  obtain ⟨v0, e0⟩ := szRuleS_ex l0 hl0 hr0 1048576
  refine Ev.bind e0 ?_
  by_cases c0 : v0 < 0
  · simp only [if_pos c0]; exact Ev.now _
  simp only [if_neg c0]
  obtain ⟨y0, n0, b0, a0⟩ := toRuleS_ex l0 hl0 hr0
  rw [← n0] at hl0
  refine Ev.bind a0 (Ev.bind (spec_RulesOk_ev _ hl0 b0) (Ev.bind a0 (Ev.bind (impl_RulesOk_ev _ b0) ?_)))
  simp only [bne_self_eq_false, Bool.false_eq_true, if_false]
  refine Ev.bind a0 (Ev.bind (laws_eqRuleS_ev _ _ hl0 b0) ?_)
  simp only [yes_pos, if_true]
  exact Ev.now _
end Go.Proofs.Ytljaoggbfoimfaa.Pure

namespace Go.Proofs.Ytljaoggbfoimfaa.fnExactRulesOk
open Go.ChangeShapes Go.WideShapes Go.ChangeAt Go.RowKit Go.Proofs.Ytljaoggbfoimfaa.Rd Go.Proofs.Ytljaoggbfoimfaa.Pure.FnExactRulesOk Go.Proofs.Ytljaoggbfoimfaa.P Go.Proofs.YtljaoggbfoimfaaW.PrintWords Go.Proofs.YtljaoggbfoimfaaW.PrintLast
open Go.ChangeMaps (open_string shut_string)
set_option linter.unusedVariables false
set_option linter.unusedSimpArgs false
theorem own : ownKnob Try.prog.godebug = none := by kernel_rfl
theorem laidOut : laidOutB Try.prog = true := by kernel_rfl
set_option maxRecDepth 100000 in
theorem lifted (os : Os) (started : os.Started) (H : Type) (enc : TypeId × Value → H) :
    ReturnsInHanded {} Try.checked os 11 .any (Rows.fnExactRulesOkSpec.pre6 enc Try.prog Try.f11 Rows.fnExactRulesOkRow.domain false) (Rows.fnExactRulesOkSpec.post enc Try.prog Try.f11 false true false false) := by
  refine returnsInHanded_of_change_sized (C := Try.checked) own started (by kernel_rfl) Try.func11
    (ChangeSpec.witness6 (enc := enc) (C := Try.checked) false ⟨#[], #[.slice none 0 0], []⟩ 8 (by kernel_rfl) (by kernel_rfl) (by kernel_rfl) (by kernel_rfl)) ?_
  intro W base args ds gs before hval0 hW hcnd hsz0 _
  have hsz : (DataW.weightsEach Try.prog (Try.f11.params.toList ++ Rows.fnExactRulesOkSpec.plain.varTypes Try.prog) (ds ++ gs)).all (· ≤ reachBytes) = true := hsz0
  have hval : ∀ (j : Nat) t v, Try.f11.params[j]? = some t → args[j]? = some v → Value.okWide Try.prog W .any base t v := hval0
  have hW' := hW
  obtain ⟨p, q, hA0, hV, rfl, hfz, hnd⟩ := hW
  have hA : DataW.TrodAll enc Try.prog W 0 (fun _ => true) true Try.f11.params.toList args.toList ds p := hA0
  rw [Try.params11] at hA hval hsz
  obtain ⟨v0, vs0, d0, ds0, p0, q0, hargs, rfl, rfl, h0, r0⟩ := trodAll_cons hA
  obtain ⟨rfl, rfl, rfl⟩ := trodAll_nil r0
  obtain rfl : args = #[v0] := by cases args; simp_all
  obtain ⟨rfl, rfl⟩ := trodVars_none hV
  have z0 : ∀ q ∈ d0.weights Try.prog 40, q ≤ reachBytes := fun q hq => by simpa using List.all_eq_true.1 hsz q (DataW.weights_mem_each (j := 0) rfl rfl q hq)
  have k0 := h0
  have lt0 : ∀ x ∈ p0, x.block < W.heap.size := by obtain ⟨m, hm⟩ := k0; exact DataW.trod_lt m _ _ _ hm
  obtain ⟨x0, hx0, y0⟩ : ∃ x0 : (List S88), (Kd.slice 88 k88).K W x0 v0.cells.toList ∧ (x0.length * 72 ≤ reachBytes ∧ ∀ y2 ∈ x0, B88 y2) := Rd.arg (fun n => ((Rd.slice (b := 72) (rd88 _) Try.underlying40 (by kernel_rfl) (by kernel_rfl)).le (Nat.le_succ _))) h0 z0
  obtain ⟨a0, len0, cap0, rfl⟩ := okWide_slice Try.underlying40 (hval 0 40 v0 rfl rfl)
  obtain ⟨A0, c0, hcs0, hc0, hr0⟩ := hx0
  obtain ⟨rfl, rfl, rfl⟩ : a0 = A0 ∧ len0 = x0.length ∧ cap0 = c0 := by simpa [Value.cells] using hcs0
  clear hA0 hval0 hsz0 hsz
  obtain ⟨k, hk⟩ := Pure.FnExactRulesOk x0 y0
  refine (laws_FnExactRulesOk.calls k a0 cap0 x0 true W hr0 hc0 rfl hk).mono fun e W' ⟨he, bel0⟩ => ?_
  have bel : Below W.heap.size W W' := bel0
  subst he
  exact ⟨_, rfl, _, _, _, [], _, [], hW', trodAll_mk1 (shut_bool Try.underlying4 _), (trodAll_cons_mk (Below.trod laidOut (by kernel_rfl) (of_decide_eq_true (by kernel_rfl)) k0 bel lt0) trodAll_mk0), rfl, bel.frame _, fun h => by cases h⟩
theorem over : Rows.fnExactRulesOkRow.holds Try.pinned (OpenSpec.ofChange Rows.fnExactRulesOkSpec) :=
  OpenClaim.holds_of_wide 11 Try.f11 rfl rfl rfl rfl rfl rfl rfl ⟨rfl, rfl, rfl, rfl, rfl⟩ rfl rfl rfl rfl rfl (by kernel_rfl) Try.func11 (by kernel_rfl)
    (of_decide_eq_true (by kernel_rfl)) (by unfold Func.isWrapper; first | (rw [if_pos (by decide +kernel)]; kernel_rfl) | (rw [if_neg (by decide +kernel)]; exact ⟨rfl, rfl⟩))
    (fun os started H enc _ => lifted os started H enc)
theorem proved : Rows.FnExactRulesOkSaid := over
end Go.Proofs.Ytljaoggbfoimfaa.fnExactRulesOk
namespace Go.Proofs.Ytljaoggbfoimfaa
theorem fnExactRulesOk_holds : Rows.FnExactRulesOkSaid := fnExactRulesOk.proved
end Go.Proofs.Ytljaoggbfoimfaa
