/-
  No cell of these rows narrows 'for every input' (looked for: loops, veiled, ifaces, maps, wideKeys, modest, calm, conditions, laid).
  DERIVED. THE GIVEN ROWS OF THIS SEAT. 3 by the template 'for every input the law returns true; each argument reads behind the call as it read before'; 0 by the template 'total and deterministic' (their statements: YthmifhkbbbchaaaTotals.lean).
  GIVEN WITH THE SEED: the statements are not yours to turn. If you find one false, say at which input.
  Laid BY PROGRAM, IN A SANDBOX (cutbox-rows.mjs): the forced cells as the released guide's own fill.sh prints them over the translation 61bcf8afa7c5e802… (all of the seat's roots in one cut). By AI agents, Wed Nov 11 2026. No macro, syntax, notation, axiom, sorry.
-/
import Derived.Test.YthmifhkbbbchaaaChecked
import GoSem.Claim
import GoSem.ClaimJoined
import GoSem.ClaimMapViews
import Derived.JoinedTies
import Derived.KernelRfl
namespace Go.Proofs.Ythmifhkbbbchaaa
/- THE CELL 'sum', in the pinned program and in every row, IS THE sha256 OF THE DUMP (.gsa) THAT YthmifhkbbbchaaaProg.lean LOADS. Nothing in Lean hashes anything: it is a label: what it is worth is what the hold of that sum in a sandbox is worth. -/
noncomputable def Try.pinned : Pinned := { name := "ythmifhkbbbchaaa", sum := "61bcf8afa7c5e8028605bb19a6907993a122901da89762fa058477c187ece495", checked := Try.checked }
namespace Rows
def none {H : Type} : Left H := { results := [], args := [] }

/-- 'laws.FnRulesMore': WHATEVER THE INPUT: true; the input reads as it did. -/
def fnRulesMoreSpec : ChangeSpec := { name := "fnRulesMore", fn := fun _ => fun
  | [d1, d2] => { results := [.lit (.bool true)], args := [d1, d2] }
  | _ => none }
def fnRulesMoreRow : OpenClaim := { program := "ythmifhkbbbchaaa", sum := "61bcf8afa7c5e8028605bb19a6907993a122901da89762fa058477c187ece495", func := "loop.example/carding/laws.FnRulesMore", spec := "fnRulesMore", recurses := true, apart := false }
def FnRulesMoreSaid : Prop := fnRulesMoreRow.holds Try.pinned (OpenSpec.ofChange fnRulesMoreSpec)

/-- ITS FALSE NEIGHBOUR: 'it returns false'. Refute it at one input. -/
def fnRulesMoreWrong : ChangeSpec := { name := "fnRulesMore", fn := fun _ => fun
  | [d1, d2] => { results := [.lit (.bool false)], args := [d1, d2] }
  | _ => none }
def FnRulesMoreWrongFalsely : Prop := fnRulesMoreRow.holds Try.pinned (OpenSpec.ofChange fnRulesMoreWrong)

/-- 'laws.FnRulesFirst': WHATEVER THE INPUT: true; the input reads as it did. -/
def fnRulesFirstSpec : ChangeSpec := { name := "fnRulesFirst", fn := fun _ => fun
  | [d] => { results := [.lit (.bool true)], args := [d] }
  | _ => none }
def fnRulesFirstRow : OpenClaim := { program := "ythmifhkbbbchaaa", sum := "61bcf8afa7c5e8028605bb19a6907993a122901da89762fa058477c187ece495", func := "loop.example/carding/laws.FnRulesFirst", spec := "fnRulesFirst", recurses := true, apart := false }
def FnRulesFirstSaid : Prop := fnRulesFirstRow.holds Try.pinned (OpenSpec.ofChange fnRulesFirstSpec)

/-- ITS FALSE NEIGHBOUR: 'it returns false'. Refute it at one input. -/
def fnRulesFirstWrong : ChangeSpec := { name := "fnRulesFirst", fn := fun _ => fun
  | [d] => { results := [.lit (.bool false)], args := [d] }
  | _ => none }
def FnRulesFirstWrongFalsely : Prop := fnRulesFirstRow.holds Try.pinned (OpenSpec.ofChange fnRulesFirstWrong)

/-- 'laws.FnLexMore': WHATEVER THE INPUT: true; the input reads as it did. -/
def fnLexMoreSpec : ChangeSpec := { name := "fnLexMore", fn := fun _ => fun
  | [d] => { results := [.lit (.bool true)], args := [d] }
  | _ => none }
def fnLexMoreRow : OpenClaim := { program := "ythmifhkbbbchaaa", sum := "61bcf8afa7c5e8028605bb19a6907993a122901da89762fa058477c187ece495", func := "loop.example/carding/laws.FnLexMore", spec := "fnLexMore", recurses := true, apart := false }
def FnLexMoreSaid : Prop := fnLexMoreRow.holds Try.pinned (OpenSpec.ofChange fnLexMoreSpec)

/-- ITS FALSE NEIGHBOUR: 'it returns false'. Refute it at one input. -/
def fnLexMoreWrong : ChangeSpec := { name := "fnLexMore", fn := fun _ => fun
  | [d] => { results := [.lit (.bool false)], args := [d] }
  | _ => none }
def FnLexMoreWrongFalsely : Prop := fnLexMoreRow.holds Try.pinned (OpenSpec.ofChange fnLexMoreWrong)

/- THE SECOND FORM. 'bulk': how many values and letters a reading holds, each counted each time it is reached (what is shared counts as often as it is met; a slice's spare places count too). A statement '..UptoSaid' is the law's where the arguments, and the package variables that the reading takes, are together of bulk at most 1048576: NARROWER than '..Said'. Prove '..Said' where nothing that the law and all that it calls make is longer than what came in: it says more and counts as full. Else prove '..UptoSaid'. A law counts once. -/
mutual
def uptoBulk {H : Type} : DataW H → Nat
  | .lit (.string bytes) => bytes.length + 1
  | .lit _ => 1
  | .nil => 1
  | .ptr d => uptoBulk d + 1
  | .slice elems spare => uptoBulkAll elems + uptoBulkAll spare + 1
  | .agg parts => uptoBulkAll parts + 1
  | .iface _ d => uptoBulk d + 1
  | .map entries => uptoBulkEntries entries + 1
  | .held _ => 1
def uptoBulkAll {H : Type} : List (DataW H) → Nat
  | [] => 0
  | d :: r => uptoBulk d + uptoBulkAll r
def uptoBulkEntries {H : Type} : List (Lit × DataW H) → Nat
  | [] => 0
  | x :: r => uptoBulkEntry x + uptoBulkEntries r
def uptoBulkEntry {H : Type} : Lit × DataW H → Nat
  | (.string bytes, d) => bytes.length + uptoBulk d + 1
  | (_, d) => uptoBulk d + 1
 end
def uptoSmall : (H : Type) → List (DataW H) → Bool := fun _ ds => decide (uptoBulkAll ds ≤ 1048576)
def OpenSpec.upto (s : _root_.Go.ChangeSpec) : _root_.Go.OpenSpec := { _root_.Go.OpenSpec.ofChange s with cond := some uptoSmall }

/-- 'laws.FnRulesMore', WHERE WHAT IT READS IS OF BULK AT MOST 1048576: true; the input reads as it did. -/
def fnRulesMoreUptoRow : OpenClaim := { program := "ythmifhkbbbchaaa", sum := "61bcf8afa7c5e8028605bb19a6907993a122901da89762fa058477c187ece495", func := "loop.example/carding/laws.FnRulesMore", spec := "fnRulesMore", recurses := true, apart := false, narrowed := true }
def FnRulesMoreUptoSaid : Prop := fnRulesMoreUptoRow.holds Try.pinned (OpenSpec.upto fnRulesMoreSpec)

/-- 'laws.FnRulesFirst', WHERE WHAT IT READS IS OF BULK AT MOST 1048576: true; the input reads as it did. -/
def fnRulesFirstUptoRow : OpenClaim := { program := "ythmifhkbbbchaaa", sum := "61bcf8afa7c5e8028605bb19a6907993a122901da89762fa058477c187ece495", func := "loop.example/carding/laws.FnRulesFirst", spec := "fnRulesFirst", recurses := true, apart := false, narrowed := true }
def FnRulesFirstUptoSaid : Prop := fnRulesFirstUptoRow.holds Try.pinned (OpenSpec.upto fnRulesFirstSpec)

/-- 'laws.FnLexMore', WHERE WHAT IT READS IS OF BULK AT MOST 1048576: true; the input reads as it did. -/
def fnLexMoreUptoRow : OpenClaim := { program := "ythmifhkbbbchaaa", sum := "61bcf8afa7c5e8028605bb19a6907993a122901da89762fa058477c187ece495", func := "loop.example/carding/laws.FnLexMore", spec := "fnLexMore", recurses := true, apart := false, narrowed := true }
def FnLexMoreUptoSaid : Prop := fnLexMoreUptoRow.holds Try.pinned (OpenSpec.upto fnLexMoreSpec)

end Rows
end Go.Proofs.Ythmifhkbbbchaaa
