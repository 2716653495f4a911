/- FnExactProgAt, the plain statement: running a right program at a place comes to the same in the program and the reference. Conditions: the list's length and the text's size are within the reach. -/
import Derived.Test.YtljaoggbfoimfaaKindsFnExactProgAt
import Derived.Test.YtljaoggbfoimfaaLProg
set_option linter.unusedVariables false
set_option linter.unusedSimpArgs false
namespace Go.Proofs.Ytljaoggbfoimfaa.Pure
open Go.RowKit Go.Proofs.Ytljaoggbfoimfaa.P Go.Proofs.YtljaoggbfoimfaaW.PrintWords Go.Proofs.YtljaoggbfoimfaaW.PrintLast

theorem FnExactProgAt : FnExactProgAt.Said := by
  intro l0 a1 a2 h0 h1 h2
  have hl0 := h0.1
  rw [show reachBytes = 140737488351232 from rfl] at hl0
  apply Ev.rounds
  unfold laws_FnExactProgAt.f
  by_cases c1 : (a1.size : Int) > 1048576
  · simp only [if_pos c1]; exact Ev.now _
  simp only [if_neg c1]
  obtain ⟨v0, e0⟩ := szInsS_some l0 1048576
  simp only [e0, Option.bind_some]
  by_cases c0 : v0 < 0
  · simp only [if_pos c0]; exact Ev.now _
  simp only [if_neg c0]
  have a0 := toInsS_ev l0 hl0
  have b0 : (l0.map toIns).length * 32 ≤ 140737488351232 := by rw [List.length_map]; exact hl0
  obtain ⟨r, hi, hs⟩ := ProgAt_ev (l0.map toIns) b0 a1 a2
  refine Ev.bind a0 (Ev.bind hs (Ev.bind a0 (Ev.bind hi ?_)))
  simp only [if_true, bne_self_eq_false]
  refine Ev.succ ?_
  simp only [laws_FnExactProgAt.j0, Bool.false_eq_true, if_false]
  have sh : ∀ {g : Nat → Option (List S76)} {r}, Ev g r → Ev (fun k => g (k + 1)) r := fun ⟨K, hK⟩ => ⟨K, fun k hk => hK (k + 1) (by omega)⟩
  refine Ev.bind a0 (Ev.bind (laws_eqInsS_ev _ _ b0) ?_)
  simp only [yes_pos, if_true]
  exact Ev.now _
end Go.Proofs.Ytljaoggbfoimfaa.Pure
