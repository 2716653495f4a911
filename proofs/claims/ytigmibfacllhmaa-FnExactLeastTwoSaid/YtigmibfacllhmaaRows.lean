/-
  NARROWER THAN 'FOR EVERY INPUT', by the rows' own cells (each row's printed sentence says how): FnExactRulesFirst: loops · FnExactLexMeans: loops.
  DERIVED. THE GIVEN ROWS OF THIS SEAT. 10 by the template 'for every input the law returns true; each argument reads behind the call as it read before'; 0 by the template 'total and deterministic' (their statements: YtigmibfacllhmaaTotals.lean).
  GIVEN WITH THE SEED: the statements are not yours to turn. If you find one false, say at which input.
  Laid BY PROGRAM, IN A SANDBOX (cutbox-rows.mjs): the forced cells as the released guide's own fill.sh prints them over the translation 57d8bcb7b52e975e… (all of the seat's roots in one cut). By AI agents, Wed Nov 11 2026. No macro, syntax, notation, axiom, sorry.
-/
import Derived.Test.YtigmibfacllhmaaChecked
import GoSem.Claim
import GoSem.ClaimJoined
import GoSem.ClaimMapViews
import Derived.JoinedTies
import Derived.KernelRfl
namespace Go.Proofs.Ytigmibfacllhmaa
/- THE CELL 'sum', in the pinned program and in every row, IS THE sha256 OF THE DUMP (.gsa) THAT YtigmibfacllhmaaProg.lean LOADS. Nothing in Lean hashes anything: it is a label: what it is worth is what the hold of that sum in a sandbox is worth. -/
noncomputable def Try.pinned : Pinned := { name := "ytigmibfacllhmaa", sum := "57d8bcb7b52e975e92f0f899c5889422b2f045c0afb765988992659e03f80e2b", checked := Try.checked }
namespace Rows
def none {H : Type} : Left H := { results := [], args := [] }

/-- 'laws.FnExactDfaRun': WHATEVER THE INPUT: true; the input reads as it did. -/
def fnExactDfaRunSpec : ChangeSpec := { name := "fnExactDfaRun", fn := fun _ => fun
  | [d1, d2] => { results := [.lit (.bool true)], args := [d1, d2] }
  | _ => none }
def fnExactDfaRunRow : OpenClaim := { program := "ytigmibfacllhmaa", sum := "57d8bcb7b52e975e92f0f899c5889422b2f045c0afb765988992659e03f80e2b", func := "loop.example/carding/laws.FnExactDfaRun", spec := "fnExactDfaRun", plainKeys := false, apart := false }
def FnExactDfaRunSaid : Prop := fnExactDfaRunRow.holds Try.pinned (OpenSpec.ofChange fnExactDfaRunSpec)

/-- ITS FALSE NEIGHBOUR: 'it returns false'. Refute it at one input. -/
def fnExactDfaRunWrong : ChangeSpec := { name := "fnExactDfaRun", fn := fun _ => fun
  | [d1, d2] => { results := [.lit (.bool false)], args := [d1, d2] }
  | _ => none }
def FnExactDfaRunWrongFalsely : Prop := fnExactDfaRunRow.holds Try.pinned (OpenSpec.ofChange fnExactDfaRunWrong)

/-- 'laws.FnExactDfaRule': WHATEVER THE INPUT: true; the input reads as it did. -/
def fnExactDfaRuleSpec : ChangeSpec := { name := "fnExactDfaRule", fn := fun _ => fun
  | [d1, d2] => { results := [.lit (.bool true)], args := [d1, d2] }
  | _ => none }
def fnExactDfaRuleRow : OpenClaim := { program := "ytigmibfacllhmaa", sum := "57d8bcb7b52e975e92f0f899c5889422b2f045c0afb765988992659e03f80e2b", func := "loop.example/carding/laws.FnExactDfaRule", spec := "fnExactDfaRule", plainKeys := false, apart := false }
def FnExactDfaRuleSaid : Prop := fnExactDfaRuleRow.holds Try.pinned (OpenSpec.ofChange fnExactDfaRuleSpec)

/-- ITS FALSE NEIGHBOUR: 'it returns false'. Refute it at one input. -/
def fnExactDfaRuleWrong : ChangeSpec := { name := "fnExactDfaRule", fn := fun _ => fun
  | [d1, d2] => { results := [.lit (.bool false)], args := [d1, d2] }
  | _ => none }
def FnExactDfaRuleWrongFalsely : Prop := fnExactDfaRuleRow.holds Try.pinned (OpenSpec.ofChange fnExactDfaRuleWrong)

/-- 'laws.FnExactLexAt': WHATEVER THE INPUT: true; the input reads as it did. -/
def fnExactLexAtSpec : ChangeSpec := { name := "fnExactLexAt", fn := fun _ => fun
  | [d1, d2, d3] => { results := [.lit (.bool true)], args := [d1, d2, d3] }
  | _ => none }
def fnExactLexAtRow : OpenClaim := { program := "ytigmibfacllhmaa", sum := "57d8bcb7b52e975e92f0f899c5889422b2f045c0afb765988992659e03f80e2b", func := "loop.example/carding/laws.FnExactLexAt", spec := "fnExactLexAt", plainKeys := false, apart := false }
def FnExactLexAtSaid : Prop := fnExactLexAtRow.holds Try.pinned (OpenSpec.ofChange fnExactLexAtSpec)

/-- ITS FALSE NEIGHBOUR: 'it returns false'. Refute it at one input. -/
def fnExactLexAtWrong : ChangeSpec := { name := "fnExactLexAt", fn := fun _ => fun
  | [d1, d2, d3] => { results := [.lit (.bool false)], args := [d1, d2, d3] }
  | _ => none }
def FnExactLexAtWrongFalsely : Prop := fnExactLexAtRow.holds Try.pinned (OpenSpec.ofChange fnExactLexAtWrong)

/-- 'laws.FnExactLeastTwo': WHATEVER THE INPUT: true; the input reads as it did. -/
def fnExactLeastTwoSpec : ChangeSpec := { name := "fnExactLeastTwo", fn := fun _ => fun
  | [d1, d2, d3] => { results := [.lit (.bool true)], args := [d1, d2, d3] }
  | _ => none }
def fnExactLeastTwoRow : OpenClaim := { program := "ytigmibfacllhmaa", sum := "57d8bcb7b52e975e92f0f899c5889422b2f045c0afb765988992659e03f80e2b", func := "loop.example/carding/laws.FnExactLeastTwo", spec := "fnExactLeastTwo", unfollowed := true, recurses := true, plainKeys := false, apart := false }
def FnExactLeastTwoSaid : Prop := fnExactLeastTwoRow.holds Try.pinned (OpenSpec.ofChange fnExactLeastTwoSpec)

/-- ITS FALSE NEIGHBOUR: 'it returns false'. Refute it at one input. -/
def fnExactLeastTwoWrong : ChangeSpec := { name := "fnExactLeastTwo", fn := fun _ => fun
  | [d1, d2, d3] => { results := [.lit (.bool false)], args := [d1, d2, d3] }
  | _ => none }
def FnExactLeastTwoWrongFalsely : Prop := fnExactLeastTwoRow.holds Try.pinned (OpenSpec.ofChange fnExactLeastTwoWrong)

/-- 'laws.FnExactRulesFirst': WHATEVER THE INPUT: true; the input reads as it did. -/
def fnExactRulesFirstSpec : ChangeSpec := { name := "fnExactRulesFirst", fn := fun _ => fun
  | [d1, d2] => { results := [.lit (.bool true)], args := [d1, d2] }
  | _ => none }
def fnExactRulesFirstRow : OpenClaim := { program := "ytigmibfacllhmaa", sum := "57d8bcb7b52e975e92f0f899c5889422b2f045c0afb765988992659e03f80e2b", func := "loop.example/carding/laws.FnExactRulesFirst", spec := "fnExactRulesFirst", recurses := true, loops := true, plainKeys := false, apart := false }
def FnExactRulesFirstSaid : Prop := fnExactRulesFirstRow.holds Try.pinned (OpenSpec.ofChange fnExactRulesFirstSpec)

/-- ITS FALSE NEIGHBOUR: 'it returns false'. Refute it at one input. -/
def fnExactRulesFirstWrong : ChangeSpec := { name := "fnExactRulesFirst", fn := fun _ => fun
  | [d1, d2] => { results := [.lit (.bool false)], args := [d1, d2] }
  | _ => none }
def FnExactRulesFirstWrongFalsely : Prop := fnExactRulesFirstRow.holds Try.pinned (OpenSpec.ofChange fnExactRulesFirstWrong)

/-- 'laws.FnExactLeastLive': WHATEVER THE INPUT: true; the input reads as it did. -/
def fnExactLeastLiveSpec : ChangeSpec := { name := "fnExactLeastLive", fn := fun _ => fun
  | [d] => { results := [.lit (.bool true)], args := [d] }
  | _ => none }
def fnExactLeastLiveRow : OpenClaim := { program := "ytigmibfacllhmaa", sum := "57d8bcb7b52e975e92f0f899c5889422b2f045c0afb765988992659e03f80e2b", func := "loop.example/carding/laws.FnExactLeastLive", spec := "fnExactLeastLive", plainKeys := false, apart := false }
def FnExactLeastLiveSaid : Prop := fnExactLeastLiveRow.holds Try.pinned (OpenSpec.ofChange fnExactLeastLiveSpec)

/-- ITS FALSE NEIGHBOUR: 'it returns false'. Refute it at one input. -/
def fnExactLeastLiveWrong : ChangeSpec := { name := "fnExactLeastLive", fn := fun _ => fun
  | [d] => { results := [.lit (.bool false)], args := [d] }
  | _ => none }
def FnExactLeastLiveWrongFalsely : Prop := fnExactLeastLiveRow.holds Try.pinned (OpenSpec.ofChange fnExactLeastLiveWrong)

/-- 'laws.FnExactLexRun': WHATEVER THE INPUT: true; the input reads as it did. -/
def fnExactLexRunSpec : ChangeSpec := { name := "fnExactLexRun", fn := fun _ => fun
  | [d1, d2] => { results := [.lit (.bool true)], args := [d1, d2] }
  | _ => none }
def fnExactLexRunRow : OpenClaim := { program := "ytigmibfacllhmaa", sum := "57d8bcb7b52e975e92f0f899c5889422b2f045c0afb765988992659e03f80e2b", func := "loop.example/carding/laws.FnExactLexRun", spec := "fnExactLexRun", plainKeys := false, apart := false }
def FnExactLexRunSaid : Prop := fnExactLexRunRow.holds Try.pinned (OpenSpec.ofChange fnExactLexRunSpec)

/-- ITS FALSE NEIGHBOUR: 'it returns false'. Refute it at one input. -/
def fnExactLexRunWrong : ChangeSpec := { name := "fnExactLexRun", fn := fun _ => fun
  | [d1, d2] => { results := [.lit (.bool false)], args := [d1, d2] }
  | _ => none }
def FnExactLexRunWrongFalsely : Prop := fnExactLexRunRow.holds Try.pinned (OpenSpec.ofChange fnExactLexRunWrong)

/-- 'laws.FnExactLeastKinds': WHATEVER THE INPUT: true; the input reads as it did. -/
def fnExactLeastKindsSpec : ChangeSpec := { name := "fnExactLeastKinds", fn := fun _ => fun
  | [d] => { results := [.lit (.bool true)], args := [d] }
  | _ => none }
def fnExactLeastKindsRow : OpenClaim := { program := "ytigmibfacllhmaa", sum := "57d8bcb7b52e975e92f0f899c5889422b2f045c0afb765988992659e03f80e2b", func := "loop.example/carding/laws.FnExactLeastKinds", spec := "fnExactLeastKinds", unfollowed := true, recurses := true, plainKeys := false, apart := false }
def FnExactLeastKindsSaid : Prop := fnExactLeastKindsRow.holds Try.pinned (OpenSpec.ofChange fnExactLeastKindsSpec)

/-- ITS FALSE NEIGHBOUR: 'it returns false'. Refute it at one input. -/
def fnExactLeastKindsWrong : ChangeSpec := { name := "fnExactLeastKinds", fn := fun _ => fun
  | [d] => { results := [.lit (.bool false)], args := [d] }
  | _ => none }
def FnExactLeastKindsWrongFalsely : Prop := fnExactLeastKindsRow.holds Try.pinned (OpenSpec.ofChange fnExactLeastKindsWrong)

/-- 'laws.FnExactLexMeans': WHATEVER THE INPUT: true; the input reads as it did. -/
def fnExactLexMeansSpec : ChangeSpec := { name := "fnExactLexMeans", fn := fun _ => fun
  | [d1, d2] => { results := [.lit (.bool true)], args := [d1, d2] }
  | _ => none }
def fnExactLexMeansRow : OpenClaim := { program := "ytigmibfacllhmaa", sum := "57d8bcb7b52e975e92f0f899c5889422b2f045c0afb765988992659e03f80e2b", func := "loop.example/carding/laws.FnExactLexMeans", spec := "fnExactLexMeans", recurses := true, loops := true, plainKeys := false, apart := false }
def FnExactLexMeansSaid : Prop := fnExactLexMeansRow.holds Try.pinned (OpenSpec.ofChange fnExactLexMeansSpec)

/-- ITS FALSE NEIGHBOUR: 'it returns false'. Refute it at one input. -/
def fnExactLexMeansWrong : ChangeSpec := { name := "fnExactLexMeans", fn := fun _ => fun
  | [d1, d2] => { results := [.lit (.bool false)], args := [d1, d2] }
  | _ => none }
def FnExactLexMeansWrongFalsely : Prop := fnExactLexMeansRow.holds Try.pinned (OpenSpec.ofChange fnExactLexMeansWrong)

/-- 'laws.FnExactLeastOf': WHATEVER THE INPUT: true; the input reads as it did. -/
def fnExactLeastOfSpec : ChangeSpec := { name := "fnExactLeastOf", fn := fun _ => fun
  | [d] => { results := [.lit (.bool true)], args := [d] }
  | _ => none }
def fnExactLeastOfRow : OpenClaim := { program := "ytigmibfacllhmaa", sum := "57d8bcb7b52e975e92f0f899c5889422b2f045c0afb765988992659e03f80e2b", func := "loop.example/carding/laws.FnExactLeastOf", spec := "fnExactLeastOf", unfollowed := true, recurses := true, plainKeys := false, apart := false }
def FnExactLeastOfSaid : Prop := fnExactLeastOfRow.holds Try.pinned (OpenSpec.ofChange fnExactLeastOfSpec)

/-- ITS FALSE NEIGHBOUR: 'it returns false'. Refute it at one input. -/
def fnExactLeastOfWrong : ChangeSpec := { name := "fnExactLeastOf", fn := fun _ => fun
  | [d] => { results := [.lit (.bool false)], args := [d] }
  | _ => none }
def FnExactLeastOfWrongFalsely : Prop := fnExactLeastOfRow.holds Try.pinned (OpenSpec.ofChange fnExactLeastOfWrong)

/- THE SECOND FORM. 'bulk': how many values and letters a reading holds, each counted each time it is reached (what is shared counts as often as it is met; a slice's spare places count too). A statement '..UptoSaid' is the law's where the arguments, and the package variables that the reading takes, are together of bulk at most 1048576: NARROWER than '..Said'. Prove '..Said' where nothing that the law and all that it calls make is longer than what came in: it says more and counts as full. Else prove '..UptoSaid'. A law counts once. -/
mutual
def uptoBulk {H : Type} : DataW H → Nat
  | .lit (.string bytes) => bytes.length + 1
  | .lit _ => 1
  | .nil => 1
  | .ptr d => uptoBulk d + 1
  | .slice elems spare => uptoBulkAll elems + uptoBulkAll spare + 1
  | .agg parts => uptoBulkAll parts + 1
  | .iface _ d => uptoBulk d + 1
  | .map entries => uptoBulkEntries entries + 1
  | .held _ => 1
def uptoBulkAll {H : Type} : List (DataW H) → Nat
  | [] => 0
  | d :: r => uptoBulk d + uptoBulkAll r
def uptoBulkEntries {H : Type} : List (Lit × DataW H) → Nat
  | [] => 0
  | x :: r => uptoBulkEntry x + uptoBulkEntries r
def uptoBulkEntry {H : Type} : Lit × DataW H → Nat
  | (.string bytes, d) => bytes.length + uptoBulk d + 1
  | (_, d) => uptoBulk d + 1
 end
def uptoSmall : (H : Type) → List (DataW H) → Bool := fun _ ds => decide (uptoBulkAll ds ≤ 1048576)
def OpenSpec.upto (s : _root_.Go.ChangeSpec) : _root_.Go.OpenSpec := { _root_.Go.OpenSpec.ofChange s with cond := some uptoSmall }

/-- 'laws.FnExactDfaRun', WHERE WHAT IT READS IS OF BULK AT MOST 1048576: true; the input reads as it did. -/
def fnExactDfaRunUptoRow : OpenClaim := { program := "ytigmibfacllhmaa", sum := "57d8bcb7b52e975e92f0f899c5889422b2f045c0afb765988992659e03f80e2b", func := "loop.example/carding/laws.FnExactDfaRun", spec := "fnExactDfaRun", plainKeys := false, apart := false, narrowed := true }
def FnExactDfaRunUptoSaid : Prop := fnExactDfaRunUptoRow.holds Try.pinned (OpenSpec.upto fnExactDfaRunSpec)

/-- 'laws.FnExactDfaRule', WHERE WHAT IT READS IS OF BULK AT MOST 1048576: true; the input reads as it did. -/
def fnExactDfaRuleUptoRow : OpenClaim := { program := "ytigmibfacllhmaa", sum := "57d8bcb7b52e975e92f0f899c5889422b2f045c0afb765988992659e03f80e2b", func := "loop.example/carding/laws.FnExactDfaRule", spec := "fnExactDfaRule", plainKeys := false, apart := false, narrowed := true }
def FnExactDfaRuleUptoSaid : Prop := fnExactDfaRuleUptoRow.holds Try.pinned (OpenSpec.upto fnExactDfaRuleSpec)

/-- 'laws.FnExactLexAt', WHERE WHAT IT READS IS OF BULK AT MOST 1048576: true; the input reads as it did. -/
def fnExactLexAtUptoRow : OpenClaim := { program := "ytigmibfacllhmaa", sum := "57d8bcb7b52e975e92f0f899c5889422b2f045c0afb765988992659e03f80e2b", func := "loop.example/carding/laws.FnExactLexAt", spec := "fnExactLexAt", plainKeys := false, apart := false, narrowed := true }
def FnExactLexAtUptoSaid : Prop := fnExactLexAtUptoRow.holds Try.pinned (OpenSpec.upto fnExactLexAtSpec)

/-- 'laws.FnExactLeastTwo', WHERE WHAT IT READS IS OF BULK AT MOST 1048576: true; the input reads as it did. -/
def fnExactLeastTwoUptoRow : OpenClaim := { program := "ytigmibfacllhmaa", sum := "57d8bcb7b52e975e92f0f899c5889422b2f045c0afb765988992659e03f80e2b", func := "loop.example/carding/laws.FnExactLeastTwo", spec := "fnExactLeastTwo", unfollowed := true, recurses := true, plainKeys := false, apart := false, narrowed := true }
def FnExactLeastTwoUptoSaid : Prop := fnExactLeastTwoUptoRow.holds Try.pinned (OpenSpec.upto fnExactLeastTwoSpec)

/-- 'laws.FnExactRulesFirst', WHERE WHAT IT READS IS OF BULK AT MOST 1048576: true; the input reads as it did. -/
def fnExactRulesFirstUptoRow : OpenClaim := { program := "ytigmibfacllhmaa", sum := "57d8bcb7b52e975e92f0f899c5889422b2f045c0afb765988992659e03f80e2b", func := "loop.example/carding/laws.FnExactRulesFirst", spec := "fnExactRulesFirst", recurses := true, loops := true, plainKeys := false, apart := false, narrowed := true }
def FnExactRulesFirstUptoSaid : Prop := fnExactRulesFirstUptoRow.holds Try.pinned (OpenSpec.upto fnExactRulesFirstSpec)

/-- 'laws.FnExactLeastLive', WHERE WHAT IT READS IS OF BULK AT MOST 1048576: true; the input reads as it did. -/
def fnExactLeastLiveUptoRow : OpenClaim := { program := "ytigmibfacllhmaa", sum := "57d8bcb7b52e975e92f0f899c5889422b2f045c0afb765988992659e03f80e2b", func := "loop.example/carding/laws.FnExactLeastLive", spec := "fnExactLeastLive", plainKeys := false, apart := false, narrowed := true }
def FnExactLeastLiveUptoSaid : Prop := fnExactLeastLiveUptoRow.holds Try.pinned (OpenSpec.upto fnExactLeastLiveSpec)

/-- 'laws.FnExactLexRun', WHERE WHAT IT READS IS OF BULK AT MOST 1048576: true; the input reads as it did. -/
def fnExactLexRunUptoRow : OpenClaim := { program := "ytigmibfacllhmaa", sum := "57d8bcb7b52e975e92f0f899c5889422b2f045c0afb765988992659e03f80e2b", func := "loop.example/carding/laws.FnExactLexRun", spec := "fnExactLexRun", plainKeys := false, apart := false, narrowed := true }
def FnExactLexRunUptoSaid : Prop := fnExactLexRunUptoRow.holds Try.pinned (OpenSpec.upto fnExactLexRunSpec)

/-- 'laws.FnExactLeastKinds', WHERE WHAT IT READS IS OF BULK AT MOST 1048576: true; the input reads as it did. -/
def fnExactLeastKindsUptoRow : OpenClaim := { program := "ytigmibfacllhmaa", sum := "57d8bcb7b52e975e92f0f899c5889422b2f045c0afb765988992659e03f80e2b", func := "loop.example/carding/laws.FnExactLeastKinds", spec := "fnExactLeastKinds", unfollowed := true, recurses := true, plainKeys := false, apart := false, narrowed := true }
def FnExactLeastKindsUptoSaid : Prop := fnExactLeastKindsUptoRow.holds Try.pinned (OpenSpec.upto fnExactLeastKindsSpec)

/-- 'laws.FnExactLexMeans', WHERE WHAT IT READS IS OF BULK AT MOST 1048576: true; the input reads as it did. -/
def fnExactLexMeansUptoRow : OpenClaim := { program := "ytigmibfacllhmaa", sum := "57d8bcb7b52e975e92f0f899c5889422b2f045c0afb765988992659e03f80e2b", func := "loop.example/carding/laws.FnExactLexMeans", spec := "fnExactLexMeans", recurses := true, loops := true, plainKeys := false, apart := false, narrowed := true }
def FnExactLexMeansUptoSaid : Prop := fnExactLexMeansUptoRow.holds Try.pinned (OpenSpec.upto fnExactLexMeansSpec)

/-- 'laws.FnExactLeastOf', WHERE WHAT IT READS IS OF BULK AT MOST 1048576: true; the input reads as it did. -/
def fnExactLeastOfUptoRow : OpenClaim := { program := "ytigmibfacllhmaa", sum := "57d8bcb7b52e975e92f0f899c5889422b2f045c0afb765988992659e03f80e2b", func := "loop.example/carding/laws.FnExactLeastOf", spec := "fnExactLeastOf", unfollowed := true, recurses := true, plainKeys := false, apart := false, narrowed := true }
def FnExactLeastOfUptoSaid : Prop := fnExactLeastOfUptoRow.holds Try.pinned (OpenSpec.upto fnExactLeastOfSpec)

end Rows
end Go.Proofs.Ytigmibfacllhmaa
