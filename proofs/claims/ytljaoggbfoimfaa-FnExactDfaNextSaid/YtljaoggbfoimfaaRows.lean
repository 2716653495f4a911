/-
  NARROWER THAN 'FOR EVERY INPUT', by the rows' own cells (each row's printed sentence says how): FnExactRulesSame: loops · FnExactRulesOk: loops.
  DERIVED. THE GIVEN ROWS OF THIS SEAT. 11 by the template 'for every input the law returns true; each argument reads behind the call as it read before'; 0 by the template 'total and deterministic' (their statements: YtljaoggbfoimfaaTotals.lean).
  GIVEN WITH THE SEED: the statements are not yours to turn. If you find one false, say at which input.
  Laid BY PROGRAM, IN A SANDBOX (cutbox-rows.mjs): the forced cells as the released guide's own fill.sh prints them over the translation 1e728b5ff7b68164… (all of the seat's roots in one cut). By AI agents, Wed Nov 11 2026. No macro, syntax, notation, axiom, sorry.
-/
import Derived.Test.YtljaoggbfoimfaaChecked
import GoSem.Claim
import GoSem.ClaimJoined
import GoSem.ClaimMapViews
import Derived.JoinedTies
import Derived.KernelRfl
namespace Go.Proofs.Ytljaoggbfoimfaa
/- THE CELL 'sum', in the pinned program and in every row, IS THE sha256 OF THE DUMP (.gsa) THAT YtljaoggbfoimfaaProg.lean LOADS. Nothing in Lean hashes anything: it is a label: what it is worth is what the hold of that sum in a sandbox is worth. -/
noncomputable def Try.pinned : Pinned := { name := "ytljaoggbfoimfaa", sum := "1e728b5ff7b681644bba0870e0501cf686e7967b46ffdd03280d37cd397e53a5", checked := Try.checked }
namespace Rows
def none {H : Type} : Left H := { results := [], args := [] }

/-- 'laws.FnExactRuleWord': WHATEVER THE INPUT: true; the input reads as it did. -/
def fnExactRuleWordSpec : ChangeSpec := { name := "fnExactRuleWord", fn := fun _ => fun
  | [d] => { results := [.lit (.bool true)], args := [d] }
  | _ => none }
def fnExactRuleWordRow : OpenClaim := { program := "ytljaoggbfoimfaa", sum := "1e728b5ff7b681644bba0870e0501cf686e7967b46ffdd03280d37cd397e53a5", func := "loop.example/carding/laws.FnExactRuleWord", spec := "fnExactRuleWord", apart := false }
def FnExactRuleWordSaid : Prop := fnExactRuleWordRow.holds Try.pinned (OpenSpec.ofChange fnExactRuleWordSpec)

/-- ITS FALSE NEIGHBOUR: 'it returns false'. Refute it at one input. -/
def fnExactRuleWordWrong : ChangeSpec := { name := "fnExactRuleWord", fn := fun _ => fun
  | [d] => { results := [.lit (.bool false)], args := [d] }
  | _ => none }
def FnExactRuleWordWrongFalsely : Prop := fnExactRuleWordRow.holds Try.pinned (OpenSpec.ofChange fnExactRuleWordWrong)

/-- 'laws.FnExactLexSame': WHATEVER THE INPUT: true; the input reads as it did. -/
def fnExactLexSameSpec : ChangeSpec := { name := "fnExactLexSame", fn := fun _ => fun
  | [d1, d2] => { results := [.lit (.bool true)], args := [d1, d2] }
  | _ => none }
def fnExactLexSameRow : OpenClaim := { program := "ytljaoggbfoimfaa", sum := "1e728b5ff7b681644bba0870e0501cf686e7967b46ffdd03280d37cd397e53a5", func := "loop.example/carding/laws.FnExactLexSame", spec := "fnExactLexSame", apart := false }
def FnExactLexSameSaid : Prop := fnExactLexSameRow.holds Try.pinned (OpenSpec.ofChange fnExactLexSameSpec)

/-- ITS FALSE NEIGHBOUR: 'it returns false'. Refute it at one input. -/
def fnExactLexSameWrong : ChangeSpec := { name := "fnExactLexSame", fn := fun _ => fun
  | [d1, d2] => { results := [.lit (.bool false)], args := [d1, d2] }
  | _ => none }
def FnExactLexSameWrongFalsely : Prop := fnExactLexSameRow.holds Try.pinned (OpenSpec.ofChange fnExactLexSameWrong)

/-- 'laws.FnExactProgSame': WHATEVER THE INPUT: true; the input reads as it did. -/
def fnExactProgSameSpec : ChangeSpec := { name := "fnExactProgSame", fn := fun _ => fun
  | [d1, d2] => { results := [.lit (.bool true)], args := [d1, d2] }
  | _ => none }
def fnExactProgSameRow : OpenClaim := { program := "ytljaoggbfoimfaa", sum := "1e728b5ff7b681644bba0870e0501cf686e7967b46ffdd03280d37cd397e53a5", func := "loop.example/carding/laws.FnExactProgSame", spec := "fnExactProgSame", apart := false }
def FnExactProgSameSaid : Prop := fnExactProgSameRow.holds Try.pinned (OpenSpec.ofChange fnExactProgSameSpec)

/-- ITS FALSE NEIGHBOUR: 'it returns false'. Refute it at one input. -/
def fnExactProgSameWrong : ChangeSpec := { name := "fnExactProgSame", fn := fun _ => fun
  | [d1, d2] => { results := [.lit (.bool false)], args := [d1, d2] }
  | _ => none }
def FnExactProgSameWrongFalsely : Prop := fnExactProgSameRow.holds Try.pinned (OpenSpec.ofChange fnExactProgSameWrong)

/-- 'laws.FnExactProgOk': WHATEVER THE INPUT: true; the input reads as it did. -/
def fnExactProgOkSpec : ChangeSpec := { name := "fnExactProgOk", fn := fun _ => fun
  | [d] => { results := [.lit (.bool true)], args := [d] }
  | _ => none }
def fnExactProgOkRow : OpenClaim := { program := "ytljaoggbfoimfaa", sum := "1e728b5ff7b681644bba0870e0501cf686e7967b46ffdd03280d37cd397e53a5", func := "loop.example/carding/laws.FnExactProgOk", spec := "fnExactProgOk", apart := false }
def FnExactProgOkSaid : Prop := fnExactProgOkRow.holds Try.pinned (OpenSpec.ofChange fnExactProgOkSpec)

/-- ITS FALSE NEIGHBOUR: 'it returns false'. Refute it at one input. -/
def fnExactProgOkWrong : ChangeSpec := { name := "fnExactProgOk", fn := fun _ => fun
  | [d] => { results := [.lit (.bool false)], args := [d] }
  | _ => none }
def FnExactProgOkWrongFalsely : Prop := fnExactProgOkRow.holds Try.pinned (OpenSpec.ofChange fnExactProgOkWrong)

/-- 'laws.FnExactProgAt': WHATEVER THE INPUT: true; the input reads as it did. -/
def fnExactProgAtSpec : ChangeSpec := { name := "fnExactProgAt", fn := fun _ => fun
  | [d1, d2, d3] => { results := [.lit (.bool true)], args := [d1, d2, d3] }
  | _ => none }
def fnExactProgAtRow : OpenClaim := { program := "ytljaoggbfoimfaa", sum := "1e728b5ff7b681644bba0870e0501cf686e7967b46ffdd03280d37cd397e53a5", func := "loop.example/carding/laws.FnExactProgAt", spec := "fnExactProgAt", apart := false }
def FnExactProgAtSaid : Prop := fnExactProgAtRow.holds Try.pinned (OpenSpec.ofChange fnExactProgAtSpec)

/-- ITS FALSE NEIGHBOUR: 'it returns false'. Refute it at one input. -/
def fnExactProgAtWrong : ChangeSpec := { name := "fnExactProgAt", fn := fun _ => fun
  | [d1, d2, d3] => { results := [.lit (.bool false)], args := [d1, d2, d3] }
  | _ => none }
def FnExactProgAtWrongFalsely : Prop := fnExactProgAtRow.holds Try.pinned (OpenSpec.ofChange fnExactProgAtWrong)

/-- 'laws.FnExactRulesSame': WHATEVER THE INPUT: true; the input reads as it did. -/
def fnExactRulesSameSpec : ChangeSpec := { name := "fnExactRulesSame", fn := fun _ => fun
  | [d1, d2] => { results := [.lit (.bool true)], args := [d1, d2] }
  | _ => none }
def fnExactRulesSameRow : OpenClaim := { program := "ytljaoggbfoimfaa", sum := "1e728b5ff7b681644bba0870e0501cf686e7967b46ffdd03280d37cd397e53a5", func := "loop.example/carding/laws.FnExactRulesSame", spec := "fnExactRulesSame", recurses := true, loops := true, apart := false }
def FnExactRulesSameSaid : Prop := fnExactRulesSameRow.holds Try.pinned (OpenSpec.ofChange fnExactRulesSameSpec)

/-- ITS FALSE NEIGHBOUR: 'it returns false'. Refute it at one input. -/
def fnExactRulesSameWrong : ChangeSpec := { name := "fnExactRulesSame", fn := fun _ => fun
  | [d1, d2] => { results := [.lit (.bool false)], args := [d1, d2] }
  | _ => none }
def FnExactRulesSameWrongFalsely : Prop := fnExactRulesSameRow.holds Try.pinned (OpenSpec.ofChange fnExactRulesSameWrong)

/-- 'laws.FnExactDfaSame': WHATEVER THE INPUT: true; the input reads as it did. -/
def fnExactDfaSameSpec : ChangeSpec := { name := "fnExactDfaSame", fn := fun _ => fun
  | [d1, d2] => { results := [.lit (.bool true)], args := [d1, d2] }
  | _ => none }
def fnExactDfaSameRow : OpenClaim := { program := "ytljaoggbfoimfaa", sum := "1e728b5ff7b681644bba0870e0501cf686e7967b46ffdd03280d37cd397e53a5", func := "loop.example/carding/laws.FnExactDfaSame", spec := "fnExactDfaSame", apart := false }
def FnExactDfaSameSaid : Prop := fnExactDfaSameRow.holds Try.pinned (OpenSpec.ofChange fnExactDfaSameSpec)

/-- ITS FALSE NEIGHBOUR: 'it returns false'. Refute it at one input. -/
def fnExactDfaSameWrong : ChangeSpec := { name := "fnExactDfaSame", fn := fun _ => fun
  | [d1, d2] => { results := [.lit (.bool false)], args := [d1, d2] }
  | _ => none }
def FnExactDfaSameWrongFalsely : Prop := fnExactDfaSameRow.holds Try.pinned (OpenSpec.ofChange fnExactDfaSameWrong)

/-- 'laws.FnExactProgRun': WHATEVER THE INPUT: true; the input reads as it did. -/
def fnExactProgRunSpec : ChangeSpec := { name := "fnExactProgRun", fn := fun _ => fun
  | [d1, d2] => { results := [.lit (.bool true)], args := [d1, d2] }
  | _ => none }
def fnExactProgRunRow : OpenClaim := { program := "ytljaoggbfoimfaa", sum := "1e728b5ff7b681644bba0870e0501cf686e7967b46ffdd03280d37cd397e53a5", func := "loop.example/carding/laws.FnExactProgRun", spec := "fnExactProgRun", apart := false }
def FnExactProgRunSaid : Prop := fnExactProgRunRow.holds Try.pinned (OpenSpec.ofChange fnExactProgRunSpec)

/-- ITS FALSE NEIGHBOUR: 'it returns false'. Refute it at one input. -/
def fnExactProgRunWrong : ChangeSpec := { name := "fnExactProgRun", fn := fun _ => fun
  | [d1, d2] => { results := [.lit (.bool false)], args := [d1, d2] }
  | _ => none }
def FnExactProgRunWrongFalsely : Prop := fnExactProgRunRow.holds Try.pinned (OpenSpec.ofChange fnExactProgRunWrong)

/-- 'laws.FnExactRulesOk': WHATEVER THE INPUT: true; the input reads as it did. -/
def fnExactRulesOkSpec : ChangeSpec := { name := "fnExactRulesOk", fn := fun _ => fun
  | [d] => { results := [.lit (.bool true)], args := [d] }
  | _ => none }
def fnExactRulesOkRow : OpenClaim := { program := "ytljaoggbfoimfaa", sum := "1e728b5ff7b681644bba0870e0501cf686e7967b46ffdd03280d37cd397e53a5", func := "loop.example/carding/laws.FnExactRulesOk", spec := "fnExactRulesOk", recurses := true, loops := true, apart := false }
def FnExactRulesOkSaid : Prop := fnExactRulesOkRow.holds Try.pinned (OpenSpec.ofChange fnExactRulesOkSpec)

/-- ITS FALSE NEIGHBOUR: 'it returns false'. Refute it at one input. -/
def fnExactRulesOkWrong : ChangeSpec := { name := "fnExactRulesOk", fn := fun _ => fun
  | [d] => { results := [.lit (.bool false)], args := [d] }
  | _ => none }
def FnExactRulesOkWrongFalsely : Prop := fnExactRulesOkRow.holds Try.pinned (OpenSpec.ofChange fnExactRulesOkWrong)

/-- 'laws.FnExactDfaOk': WHATEVER THE INPUT: true; the input reads as it did. -/
def fnExactDfaOkSpec : ChangeSpec := { name := "fnExactDfaOk", fn := fun _ => fun
  | [d] => { results := [.lit (.bool true)], args := [d] }
  | _ => none }
def fnExactDfaOkRow : OpenClaim := { program := "ytljaoggbfoimfaa", sum := "1e728b5ff7b681644bba0870e0501cf686e7967b46ffdd03280d37cd397e53a5", func := "loop.example/carding/laws.FnExactDfaOk", spec := "fnExactDfaOk", apart := false }
def FnExactDfaOkSaid : Prop := fnExactDfaOkRow.holds Try.pinned (OpenSpec.ofChange fnExactDfaOkSpec)

/-- ITS FALSE NEIGHBOUR: 'it returns false'. Refute it at one input. -/
def fnExactDfaOkWrong : ChangeSpec := { name := "fnExactDfaOk", fn := fun _ => fun
  | [d] => { results := [.lit (.bool false)], args := [d] }
  | _ => none }
def FnExactDfaOkWrongFalsely : Prop := fnExactDfaOkRow.holds Try.pinned (OpenSpec.ofChange fnExactDfaOkWrong)

/-- 'laws.FnExactDfaNext': WHATEVER THE INPUT: true; the input reads as it did. -/
def fnExactDfaNextSpec : ChangeSpec := { name := "fnExactDfaNext", fn := fun _ => fun
  | [d1, d2, d3] => { results := [.lit (.bool true)], args := [d1, d2, d3] }
  | _ => none }
def fnExactDfaNextRow : OpenClaim := { program := "ytljaoggbfoimfaa", sum := "1e728b5ff7b681644bba0870e0501cf686e7967b46ffdd03280d37cd397e53a5", func := "loop.example/carding/laws.FnExactDfaNext", spec := "fnExactDfaNext", apart := false }
def FnExactDfaNextSaid : Prop := fnExactDfaNextRow.holds Try.pinned (OpenSpec.ofChange fnExactDfaNextSpec)

/-- ITS FALSE NEIGHBOUR: 'it returns false'. Refute it at one input. -/
def fnExactDfaNextWrong : ChangeSpec := { name := "fnExactDfaNext", fn := fun _ => fun
  | [d1, d2, d3] => { results := [.lit (.bool false)], args := [d1, d2, d3] }
  | _ => none }
def FnExactDfaNextWrongFalsely : Prop := fnExactDfaNextRow.holds Try.pinned (OpenSpec.ofChange fnExactDfaNextWrong)

/- THE SECOND FORM. 'bulk': how many values and letters a reading holds, each counted each time it is reached (what is shared counts as often as it is met; a slice's spare places count too). A statement '..UptoSaid' is the law's where the arguments, and the package variables that the reading takes, are together of bulk at most 1048576: NARROWER than '..Said'. Prove '..Said' where nothing that the law and all that it calls make is longer than what came in: it says more and counts as full. Else prove '..UptoSaid'. A law counts once. -/
mutual
def uptoBulk {H : Type} : DataW H → Nat
  | .lit (.string bytes) => bytes.length + 1
  | .lit _ => 1
  | .nil => 1
  | .ptr d => uptoBulk d + 1
  | .slice elems spare => uptoBulkAll elems + uptoBulkAll spare + 1
  | .agg parts => uptoBulkAll parts + 1
  | .iface _ d => uptoBulk d + 1
  | .map entries => uptoBulkEntries entries + 1
  | .held _ => 1
def uptoBulkAll {H : Type} : List (DataW H) → Nat
  | [] => 0
  | d :: r => uptoBulk d + uptoBulkAll r
def uptoBulkEntries {H : Type} : List (Lit × DataW H) → Nat
  | [] => 0
  | x :: r => uptoBulkEntry x + uptoBulkEntries r
def uptoBulkEntry {H : Type} : Lit × DataW H → Nat
  | (.string bytes, d) => bytes.length + uptoBulk d + 1
  | (_, d) => uptoBulk d + 1
 end
def uptoSmall : (H : Type) → List (DataW H) → Bool := fun _ ds => decide (uptoBulkAll ds ≤ 1048576)
def OpenSpec.upto (s : _root_.Go.ChangeSpec) : _root_.Go.OpenSpec := { _root_.Go.OpenSpec.ofChange s with cond := some uptoSmall }

/-- 'laws.FnExactRuleWord', WHERE WHAT IT READS IS OF BULK AT MOST 1048576: true; the input reads as it did. -/
def fnExactRuleWordUptoRow : OpenClaim := { program := "ytljaoggbfoimfaa", sum := "1e728b5ff7b681644bba0870e0501cf686e7967b46ffdd03280d37cd397e53a5", func := "loop.example/carding/laws.FnExactRuleWord", spec := "fnExactRuleWord", apart := false, narrowed := true }
def FnExactRuleWordUptoSaid : Prop := fnExactRuleWordUptoRow.holds Try.pinned (OpenSpec.upto fnExactRuleWordSpec)

/-- 'laws.FnExactLexSame', WHERE WHAT IT READS IS OF BULK AT MOST 1048576: true; the input reads as it did. -/
def fnExactLexSameUptoRow : OpenClaim := { program := "ytljaoggbfoimfaa", sum := "1e728b5ff7b681644bba0870e0501cf686e7967b46ffdd03280d37cd397e53a5", func := "loop.example/carding/laws.FnExactLexSame", spec := "fnExactLexSame", apart := false, narrowed := true }
def FnExactLexSameUptoSaid : Prop := fnExactLexSameUptoRow.holds Try.pinned (OpenSpec.upto fnExactLexSameSpec)

/-- 'laws.FnExactProgSame', WHERE WHAT IT READS IS OF BULK AT MOST 1048576: true; the input reads as it did. -/
def fnExactProgSameUptoRow : OpenClaim := { program := "ytljaoggbfoimfaa", sum := "1e728b5ff7b681644bba0870e0501cf686e7967b46ffdd03280d37cd397e53a5", func := "loop.example/carding/laws.FnExactProgSame", spec := "fnExactProgSame", apart := false, narrowed := true }
def FnExactProgSameUptoSaid : Prop := fnExactProgSameUptoRow.holds Try.pinned (OpenSpec.upto fnExactProgSameSpec)

/-- 'laws.FnExactProgOk', WHERE WHAT IT READS IS OF BULK AT MOST 1048576: true; the input reads as it did. -/
def fnExactProgOkUptoRow : OpenClaim := { program := "ytljaoggbfoimfaa", sum := "1e728b5ff7b681644bba0870e0501cf686e7967b46ffdd03280d37cd397e53a5", func := "loop.example/carding/laws.FnExactProgOk", spec := "fnExactProgOk", apart := false, narrowed := true }
def FnExactProgOkUptoSaid : Prop := fnExactProgOkUptoRow.holds Try.pinned (OpenSpec.upto fnExactProgOkSpec)

/-- 'laws.FnExactProgAt', WHERE WHAT IT READS IS OF BULK AT MOST 1048576: true; the input reads as it did. -/
def fnExactProgAtUptoRow : OpenClaim := { program := "ytljaoggbfoimfaa", sum := "1e728b5ff7b681644bba0870e0501cf686e7967b46ffdd03280d37cd397e53a5", func := "loop.example/carding/laws.FnExactProgAt", spec := "fnExactProgAt", apart := false, narrowed := true }
def FnExactProgAtUptoSaid : Prop := fnExactProgAtUptoRow.holds Try.pinned (OpenSpec.upto fnExactProgAtSpec)

/-- 'laws.FnExactRulesSame', WHERE WHAT IT READS IS OF BULK AT MOST 1048576: true; the input reads as it did. -/
def fnExactRulesSameUptoRow : OpenClaim := { program := "ytljaoggbfoimfaa", sum := "1e728b5ff7b681644bba0870e0501cf686e7967b46ffdd03280d37cd397e53a5", func := "loop.example/carding/laws.FnExactRulesSame", spec := "fnExactRulesSame", recurses := true, loops := true, apart := false, narrowed := true }
def FnExactRulesSameUptoSaid : Prop := fnExactRulesSameUptoRow.holds Try.pinned (OpenSpec.upto fnExactRulesSameSpec)

/-- 'laws.FnExactDfaSame', WHERE WHAT IT READS IS OF BULK AT MOST 1048576: true; the input reads as it did. -/
def fnExactDfaSameUptoRow : OpenClaim := { program := "ytljaoggbfoimfaa", sum := "1e728b5ff7b681644bba0870e0501cf686e7967b46ffdd03280d37cd397e53a5", func := "loop.example/carding/laws.FnExactDfaSame", spec := "fnExactDfaSame", apart := false, narrowed := true }
def FnExactDfaSameUptoSaid : Prop := fnExactDfaSameUptoRow.holds Try.pinned (OpenSpec.upto fnExactDfaSameSpec)

/-- 'laws.FnExactProgRun', WHERE WHAT IT READS IS OF BULK AT MOST 1048576: true; the input reads as it did. -/
def fnExactProgRunUptoRow : OpenClaim := { program := "ytljaoggbfoimfaa", sum := "1e728b5ff7b681644bba0870e0501cf686e7967b46ffdd03280d37cd397e53a5", func := "loop.example/carding/laws.FnExactProgRun", spec := "fnExactProgRun", apart := false, narrowed := true }
def FnExactProgRunUptoSaid : Prop := fnExactProgRunUptoRow.holds Try.pinned (OpenSpec.upto fnExactProgRunSpec)

/-- 'laws.FnExactRulesOk', WHERE WHAT IT READS IS OF BULK AT MOST 1048576: true; the input reads as it did. -/
def fnExactRulesOkUptoRow : OpenClaim := { program := "ytljaoggbfoimfaa", sum := "1e728b5ff7b681644bba0870e0501cf686e7967b46ffdd03280d37cd397e53a5", func := "loop.example/carding/laws.FnExactRulesOk", spec := "fnExactRulesOk", recurses := true, loops := true, apart := false, narrowed := true }
def FnExactRulesOkUptoSaid : Prop := fnExactRulesOkUptoRow.holds Try.pinned (OpenSpec.upto fnExactRulesOkSpec)

/-- 'laws.FnExactDfaOk', WHERE WHAT IT READS IS OF BULK AT MOST 1048576: true; the input reads as it did. -/
def fnExactDfaOkUptoRow : OpenClaim := { program := "ytljaoggbfoimfaa", sum := "1e728b5ff7b681644bba0870e0501cf686e7967b46ffdd03280d37cd397e53a5", func := "loop.example/carding/laws.FnExactDfaOk", spec := "fnExactDfaOk", apart := false, narrowed := true }
def FnExactDfaOkUptoSaid : Prop := fnExactDfaOkUptoRow.holds Try.pinned (OpenSpec.upto fnExactDfaOkSpec)

/-- 'laws.FnExactDfaNext', WHERE WHAT IT READS IS OF BULK AT MOST 1048576: true; the input reads as it did. -/
def fnExactDfaNextUptoRow : OpenClaim := { program := "ytljaoggbfoimfaa", sum := "1e728b5ff7b681644bba0870e0501cf686e7967b46ffdd03280d37cd397e53a5", func := "loop.example/carding/laws.FnExactDfaNext", spec := "fnExactDfaNext", apart := false, narrowed := true }
def FnExactDfaNextUptoSaid : Prop := fnExactDfaNextUptoRow.holds Try.pinned (OpenSpec.upto fnExactDfaNextSpec)

end Rows
end Go.Proofs.Ytljaoggbfoimfaa
