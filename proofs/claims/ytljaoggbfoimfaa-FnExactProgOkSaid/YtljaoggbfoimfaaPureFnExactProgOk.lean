/- FnExactProgOk, the plain statement: the program and the reference say alike whether a program is right. Conditions: the list's length is within the reach. -/
import Derived.Test.YtljaoggbfoimfaaKindsFnExactProgOk
import Derived.Test.YtljaoggbfoimfaaLProg
set_option linter.unusedVariables false
set_option linter.unusedSimpArgs false
namespace Go.Proofs.Ytljaoggbfoimfaa.Pure
open Go.RowKit Go.Proofs.Ytljaoggbfoimfaa.P Go.Proofs.YtljaoggbfoimfaaW.PrintWords Go.Proofs.YtljaoggbfoimfaaW.PrintLast

theorem FnExactProgOk : FnExactProgOk.Said := by
  intro l0 h0
  have hl0 := h0.1
  rw [show reachBytes = 140737488351232 from rfl] at hl0
  apply Ev.rounds
  unfold laws_FnExactProgOk.f
  obtain ⟨v0, e0⟩ := szInsS_some l0 1048576
  simp only [e0, Option.bind_some]
  by_cases c0 : v0 < 0
  · simp only [if_pos c0]; exact Ev.now _
  simp only [if_neg c0]
  have a0 := toInsS_ev l0 hl0
  have b0 : (l0.map toIns).length * 32 ≤ 140737488351232 := by rw [List.length_map]; exact hl0
  refine Ev.bind a0 (Ev.bind (spec_ProgOk_ev _ b0) (Ev.bind a0 (Ev.bind (impl_ProgOk_ev _ b0) ?_)))
  simp only [bne_self_eq_false, Bool.false_eq_true, if_false]
  refine Ev.bind a0 (Ev.bind (laws_eqInsS_ev _ _ b0) ?_)
  simp only [yes_pos, if_true]
  exact Ev.now _
end Go.Proofs.Ytljaoggbfoimfaa.Pure
