/- What the arguments of FnExactProgAt are read as, and the plain statement that is left of it. -/
import Derived.Test.YtljaoggbfoimfaaRd
import Derived.Test.YtljaoggbfoimfaaPlawsFnExactProgAt
import Derived.KernelRfl
set_option linter.unusedVariables false
set_option linter.unusedSimpArgs false
namespace Go.Proofs.Ytljaoggbfoimfaa.Pure
open Go.RowKit Go.Proofs.Ytljaoggbfoimfaa.P Go.Proofs.YtljaoggbfoimfaaW.PrintWords Go.Proofs.YtljaoggbfoimfaaW.PrintLast Go.Proofs.Ytljaoggbfoimfaa.Rd
namespace FnExactProgAt
def B78 (x : S78) : Prop := ((Lit.int .i64 x.f0).wf = true) ∧ ((Lit.int .i64 x.f1).wf = true) ∧ ((Lit.int .i64 x.f2).wf = true) ∧ ((Lit.int .i64 x.f3).wf = true)
theorem rd78 (n : Nat) : Rd Try.prog n 78 k78 B78 :=
  ((Rd.iso (d := (Kd.pair (Kd.int .i64) (Kd.pair (Kd.int .i64) (Kd.pair (Kd.int .i64) (Kd.int .i64))))) (Rd.struct Try.underlying78 rfl (by kernel_rfl) (Fs.cons (Rd.int _ Try.underlying3) rfl (by kernel_rfl) (Fs.cons (Rd.int _ Try.underlying3) rfl (by kernel_rfl) (Fs.cons (Rd.int _ Try.underlying3) rfl (by kernel_rfl) (Fs.one (Rd.int _ Try.underlying3) rfl (by kernel_rfl)))))) (fun x : S78 => (x.f0, x.f1, x.f2, x.f3)) (fun p => ⟨p.1, p.2.1, p.2.2.1, p.2.2.2⟩) (fun _ => rfl)).le (Nat.le_succ n)).imp (fun _ hx => hx)
def Said : Prop := ∀ (l0 : (List S78)) (a1 : ByteArray) (a2 : Int), (l0.length * 32 ≤ reachBytes ∧ ∀ y2 ∈ l0, B78 y2) → a1.size ≤ reachBytes → (Lit.int .i64 a2).wf = true → ∃ k, laws_FnExactProgAt.f k l0 a1 a2 = some true
end FnExactProgAt
end Go.Proofs.Ytljaoggbfoimfaa.Pure
