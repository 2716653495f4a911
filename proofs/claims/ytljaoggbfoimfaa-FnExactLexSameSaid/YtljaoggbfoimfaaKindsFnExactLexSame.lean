/- What the arguments of FnExactLexSame are read as, and the plain statement that is left of it. -/
import Derived.Test.YtljaoggbfoimfaaRd
import Derived.Test.YtljaoggbfoimfaaPlawsFnExactLexSame
import Derived.KernelRfl
set_option linter.unusedVariables false
set_option linter.unusedSimpArgs false
namespace Go.Proofs.Ytljaoggbfoimfaa.Pure
open Go.RowKit Go.Proofs.Ytljaoggbfoimfaa.P Go.Proofs.YtljaoggbfoimfaaW.PrintWords Go.Proofs.YtljaoggbfoimfaaW.PrintLast Go.Proofs.Ytljaoggbfoimfaa.Rd
namespace FnExactLexSame
def B73 (x : S73) : Prop := ((Lit.int .i64 x.f0).wf = true) ∧ ((Lit.int .i64 x.f1).wf = true) ∧ ((Lit.int .i64 x.f2).wf = true)
theorem rd73 (n : Nat) : Rd Try.prog n 73 k73 B73 :=
  ((Rd.iso (d := (Kd.pair (Kd.int .i64) (Kd.pair (Kd.int .i64) (Kd.int .i64)))) (Rd.struct Try.underlying73 rfl (by kernel_rfl) (Fs.cons (Rd.int _ Try.underlying3) rfl (by kernel_rfl) (Fs.cons (Rd.int _ Try.underlying3) rfl (by kernel_rfl) (Fs.one (Rd.int _ Try.underlying3) rfl (by kernel_rfl))))) (fun x : S73 => (x.f0, x.f1, x.f2)) (fun p => ⟨p.1, p.2.1, p.2.2⟩) (fun _ => rfl)).le (Nat.le_succ n)).imp (fun _ hx => hx)
def Said : Prop := ∀ (l0 : (List S73)) (l1 : (List S73)), (l0.length * 24 ≤ reachBytes ∧ ∀ y2 ∈ l0, B73 y2) → (l1.length * 24 ≤ reachBytes ∧ ∀ y2 ∈ l1, B73 y2) → ∃ k, laws_FnExactLexSame.f k l0 l1 = some true
end FnExactLexSame
end Go.Proofs.Ytljaoggbfoimfaa.Pure
