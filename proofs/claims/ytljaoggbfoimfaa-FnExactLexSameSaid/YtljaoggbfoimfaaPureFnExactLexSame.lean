/- FnExactLexSame, the plain statement: the program's and the reference's comparison of two lists answer alike. Conditions: the lists' lengths are within the reach. -/
import Derived.Test.YtljaoggbfoimfaaKindsFnExactLexSame
import Derived.Test.YtljaoggbfoimfaaLToken
set_option linter.unusedVariables false
set_option linter.unusedSimpArgs false
namespace Go.Proofs.Ytljaoggbfoimfaa.Pure
open Go.RowKit Go.Proofs.Ytljaoggbfoimfaa.P Go.Proofs.YtljaoggbfoimfaaW.PrintWords Go.Proofs.YtljaoggbfoimfaaW.PrintLast

theorem FnExactLexSame : FnExactLexSame.Said := by
  intro l0 l1 h0 h1
  have hl0 := h0.1
  have hl1 := h1.1
  rw [show reachBytes = 140737488351232 from rfl] at hl0 hl1
  apply Ev.rounds
  unfold laws_FnExactLexSame.f
  obtain ⟨v0, e0⟩ := szTokenS_some l0 1048576
  obtain ⟨v1, e1⟩ := szTokenS_some l1 v0
  simp only [e0, e1, Option.bind_some]
  by_cases c0 : v0 < 0
  · simp only [if_pos c0]; exact Ev.now _
  simp only [if_neg c0]
  by_cases c1 : v1 < 0
  · simp only [if_pos c1]; exact Ev.now _
  simp only [if_neg c1]
  have a0 := toTokenS_ev l0 hl0
  have a1 := toTokenS_ev l1 hl1
  have b0 : (l0.map toToken).length * 24 ≤ 140737488351232 := by rw [List.length_map]; exact hl0
  have b1 : (l1.map toToken).length * 24 ≤ 140737488351232 := by rw [List.length_map]; exact hl1
  refine Ev.bind a0 (Ev.bind a1 (Ev.bind (spec_LexSame_ev _ _ b0) (Ev.bind a0 (Ev.bind a1 (Ev.bind (impl_LexSame_ev _ _ b0) ?_)))))
  simp only [bne_self_eq_false, Bool.false_eq_true, if_false]
  refine Ev.bind a0 (Ev.bind (laws_eqTokenS_ev _ _ b0) ?_)
  simp only [yes_pos, if_true]
  refine Ev.bind a1 (Ev.bind (laws_eqTokenS_ev _ _ b1) ?_)
  simp only [yes_pos, if_true]
  exact Ev.now _
end Go.Proofs.Ytljaoggbfoimfaa.Pure
