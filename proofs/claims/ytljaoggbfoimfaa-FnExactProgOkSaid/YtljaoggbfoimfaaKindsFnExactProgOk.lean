/- What the arguments of FnExactProgOk are read as, and the plain statement that is left of it. -/
import Derived.Test.YtljaoggbfoimfaaRd
import Derived.Test.YtljaoggbfoimfaaPlawsFnExactProgOk
import Derived.KernelRfl
set_option linter.unusedVariables false
set_option linter.unusedSimpArgs false
namespace Go.Proofs.Ytljaoggbfoimfaa.Pure
open Go.RowKit Go.Proofs.Ytljaoggbfoimfaa.P Go.Proofs.YtljaoggbfoimfaaW.PrintWords Go.Proofs.YtljaoggbfoimfaaW.PrintLast Go.Proofs.Ytljaoggbfoimfaa.Rd
namespace FnExactProgOk
def B78 (x : S78) : Prop := ((Lit.int .i64 x.f0).wf = true) ∧ ((Lit.int .i64 x.f1).wf = true) ∧ ((Lit.int .i64 x.f2).wf = true) ∧ ((Lit.int .i64 x.f3).wf = true)
theorem rd78 (n : Nat) : Rd Try.prog n 78 k78 B78 :=
  ((Rd.iso (d := (Kd.pair (Kd.int .i64) (Kd.pair (Kd.int .i64) (Kd.pair (Kd.int .i64) (Kd.int .i64))))) (Rd.struct Try.underlying78 rfl (by kernel_rfl) (Fs.cons (Rd.int _ Try.underlying3) rfl (by kernel_rfl) (Fs.cons (Rd.int _ Try.underlying3) rfl (by kernel_rfl) (Fs.cons (Rd.int _ Try.underlying3) rfl (by kernel_rfl) (Fs.one (Rd.int _ Try.underlying3) rfl (by kernel_rfl)))))) (fun x : S78 => (x.f0, x.f1, x.f2, x.f3)) (fun p => ⟨p.1, p.2.1, p.2.2.1, p.2.2.2⟩) (fun _ => rfl)).le (Nat.le_succ n)).imp (fun _ hx => hx)
def Said : Prop := ∀ (l0 : (List S78)), (l0.length * 32 ≤ reachBytes ∧ ∀ y2 ∈ l0, B78 y2) → ∃ k, laws_FnExactProgOk.f k l0 = some true
end FnExactProgOk
end Go.Proofs.Ytljaoggbfoimfaa.Pure
