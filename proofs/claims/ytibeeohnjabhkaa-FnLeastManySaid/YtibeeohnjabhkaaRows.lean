/-
  No cell of these rows narrows 'for every input' (looked for: loops, veiled, ifaces, maps, wideKeys, modest, calm, conditions, laid).
  DERIVED. THE GIVEN ROWS OF THIS SEAT. 8 by the template 'for every input the law returns true; each argument reads behind the call as it read before'; 0 by the template 'total and deterministic' (their statements: YtibeeohnjabhkaaTotals.lean).
  GIVEN WITH THE SEED: the statements are not yours to turn. If you find one false, say at which input.
  Laid BY PROGRAM, IN A SANDBOX (cutbox-rows.mjs): the forced cells as the released guide's own fill.sh prints them over the translation af9cc71e8f8e5e81… (all of the seat's roots in one cut). By AI agents, Wed Nov 11 2026. No macro, syntax, notation, axiom, sorry.
-/
import Derived.Test.YtibeeohnjabhkaaChecked
import GoSem.Claim
import GoSem.ClaimJoined
import GoSem.ClaimMapViews
import Derived.JoinedTies
import Derived.KernelRfl
namespace Go.Proofs.Ytibeeohnjabhkaa
/- THE CELL 'sum', in the pinned program and in every row, IS THE sha256 OF THE DUMP (.gsa) THAT YtibeeohnjabhkaaProg.lean LOADS. Nothing in Lean hashes anything: it is a label: what it is worth is what the hold of that sum in a sandbox is worth. -/
noncomputable def Try.pinned : Pinned := { name := "ytibeeohnjabhkaa", sum := "af9cc71e8f8e5e8156ba55ef88b36c1fb99b377ebe95985bf4e2d72144d206d8", checked := Try.checked }
namespace Rows
def none {H : Type} : Left H := { results := [], args := [] }

/-- 'laws.FnDfaOk': WHATEVER THE INPUT: true; the input reads as it did. -/
def fnDfaOkSpec : ChangeSpec := { name := "fnDfaOk", fn := fun _ => fun
  | [d] => { results := [.lit (.bool true)], args := [d] }
  | _ => none }
def fnDfaOkRow : OpenClaim := { program := "ytibeeohnjabhkaa", sum := "af9cc71e8f8e5e8156ba55ef88b36c1fb99b377ebe95985bf4e2d72144d206d8", func := "loop.example/carding/laws.FnDfaOk", spec := "fnDfaOk", recurses := true, plainKeys := false, apart := false }
def FnDfaOkSaid : Prop := fnDfaOkRow.holds Try.pinned (OpenSpec.ofChange fnDfaOkSpec)

/-- ITS FALSE NEIGHBOUR: 'it returns false'. Refute it at one input. -/
def fnDfaOkWrong : ChangeSpec := { name := "fnDfaOk", fn := fun _ => fun
  | [d] => { results := [.lit (.bool false)], args := [d] }
  | _ => none }
def FnDfaOkWrongFalsely : Prop := fnDfaOkRow.holds Try.pinned (OpenSpec.ofChange fnDfaOkWrong)

/-- 'laws.FnDfaRun': WHATEVER THE INPUT: true; the input reads as it did. -/
def fnDfaRunSpec : ChangeSpec := { name := "fnDfaRun", fn := fun _ => fun
  | [d1, d2] => { results := [.lit (.bool true)], args := [d1, d2] }
  | _ => none }
def fnDfaRunRow : OpenClaim := { program := "ytibeeohnjabhkaa", sum := "af9cc71e8f8e5e8156ba55ef88b36c1fb99b377ebe95985bf4e2d72144d206d8", func := "loop.example/carding/laws.FnDfaRun", spec := "fnDfaRun", recurses := true, plainKeys := false, apart := false }
def FnDfaRunSaid : Prop := fnDfaRunRow.holds Try.pinned (OpenSpec.ofChange fnDfaRunSpec)

/-- ITS FALSE NEIGHBOUR: 'it returns false'. Refute it at one input. -/
def fnDfaRunWrong : ChangeSpec := { name := "fnDfaRun", fn := fun _ => fun
  | [d1, d2] => { results := [.lit (.bool false)], args := [d1, d2] }
  | _ => none }
def FnDfaRunWrongFalsely : Prop := fnDfaRunRow.holds Try.pinned (OpenSpec.ofChange fnDfaRunWrong)

/-- 'laws.FnLeastWay': WHATEVER THE INPUT: true; the input reads as it did. -/
def fnLeastWaySpec : ChangeSpec := { name := "fnLeastWay", fn := fun _ => fun
  | [d1, d2] => { results := [.lit (.bool true)], args := [d1, d2] }
  | _ => none }
def fnLeastWayRow : OpenClaim := { program := "ytibeeohnjabhkaa", sum := "af9cc71e8f8e5e8156ba55ef88b36c1fb99b377ebe95985bf4e2d72144d206d8", func := "loop.example/carding/laws.FnLeastWay", spec := "fnLeastWay", unfollowed := true, recurses := true, plainKeys := false, apart := false }
def FnLeastWaySaid : Prop := fnLeastWayRow.holds Try.pinned (OpenSpec.ofChange fnLeastWaySpec)

/-- ITS FALSE NEIGHBOUR: 'it returns false'. Refute it at one input. -/
def fnLeastWayWrong : ChangeSpec := { name := "fnLeastWay", fn := fun _ => fun
  | [d1, d2] => { results := [.lit (.bool false)], args := [d1, d2] }
  | _ => none }
def FnLeastWayWrongFalsely : Prop := fnLeastWayRow.holds Try.pinned (OpenSpec.ofChange fnLeastWayWrong)

/-- 'laws.FnDfaNext': WHATEVER THE INPUT: true; the input reads as it did. -/
def fnDfaNextSpec : ChangeSpec := { name := "fnDfaNext", fn := fun _ => fun
  | [d] => { results := [.lit (.bool true)], args := [d] }
  | _ => none }
def fnDfaNextRow : OpenClaim := { program := "ytibeeohnjabhkaa", sum := "af9cc71e8f8e5e8156ba55ef88b36c1fb99b377ebe95985bf4e2d72144d206d8", func := "loop.example/carding/laws.FnDfaNext", spec := "fnDfaNext", recurses := true, plainKeys := false, apart := false }
def FnDfaNextSaid : Prop := fnDfaNextRow.holds Try.pinned (OpenSpec.ofChange fnDfaNextSpec)

/-- ITS FALSE NEIGHBOUR: 'it returns false'. Refute it at one input. -/
def fnDfaNextWrong : ChangeSpec := { name := "fnDfaNext", fn := fun _ => fun
  | [d] => { results := [.lit (.bool false)], args := [d] }
  | _ => none }
def FnDfaNextWrongFalsely : Prop := fnDfaNextRow.holds Try.pinned (OpenSpec.ofChange fnDfaNextWrong)

/-- 'laws.FnLexAt': WHATEVER THE INPUT: true; the input reads as it did. -/
def fnLexAtSpec : ChangeSpec := { name := "fnLexAt", fn := fun _ => fun
  | [d] => { results := [.lit (.bool true)], args := [d] }
  | _ => none }
def fnLexAtRow : OpenClaim := { program := "ytibeeohnjabhkaa", sum := "af9cc71e8f8e5e8156ba55ef88b36c1fb99b377ebe95985bf4e2d72144d206d8", func := "loop.example/carding/laws.FnLexAt", spec := "fnLexAt", recurses := true, plainKeys := false, apart := false }
def FnLexAtSaid : Prop := fnLexAtRow.holds Try.pinned (OpenSpec.ofChange fnLexAtSpec)

/-- ITS FALSE NEIGHBOUR: 'it returns false'. Refute it at one input. -/
def fnLexAtWrong : ChangeSpec := { name := "fnLexAt", fn := fun _ => fun
  | [d] => { results := [.lit (.bool false)], args := [d] }
  | _ => none }
def FnLexAtWrongFalsely : Prop := fnLexAtRow.holds Try.pinned (OpenSpec.ofChange fnLexAtWrong)

/-- 'laws.FnLeastLive': WHATEVER THE INPUT: true; the input reads as it did. -/
def fnLeastLiveSpec : ChangeSpec := { name := "fnLeastLive", fn := fun _ => fun
  | [d] => { results := [.lit (.bool true)], args := [d] }
  | _ => none }
def fnLeastLiveRow : OpenClaim := { program := "ytibeeohnjabhkaa", sum := "af9cc71e8f8e5e8156ba55ef88b36c1fb99b377ebe95985bf4e2d72144d206d8", func := "loop.example/carding/laws.FnLeastLive", spec := "fnLeastLive", unfollowed := true, recurses := true, plainKeys := false, apart := false }
def FnLeastLiveSaid : Prop := fnLeastLiveRow.holds Try.pinned (OpenSpec.ofChange fnLeastLiveSpec)

/-- ITS FALSE NEIGHBOUR: 'it returns false'. Refute it at one input. -/
def fnLeastLiveWrong : ChangeSpec := { name := "fnLeastLive", fn := fun _ => fun
  | [d] => { results := [.lit (.bool false)], args := [d] }
  | _ => none }
def FnLeastLiveWrongFalsely : Prop := fnLeastLiveRow.holds Try.pinned (OpenSpec.ofChange fnLeastLiveWrong)

/-- 'laws.FnLeastTwo': WHATEVER THE INPUT: true; the input reads as it did. -/
def fnLeastTwoSpec : ChangeSpec := { name := "fnLeastTwo", fn := fun _ => fun
  | [d1, d2] => { results := [.lit (.bool true)], args := [d1, d2] }
  | _ => none }
def fnLeastTwoRow : OpenClaim := { program := "ytibeeohnjabhkaa", sum := "af9cc71e8f8e5e8156ba55ef88b36c1fb99b377ebe95985bf4e2d72144d206d8", func := "loop.example/carding/laws.FnLeastTwo", spec := "fnLeastTwo", unfollowed := true, recurses := true, plainKeys := false, apart := false }
def FnLeastTwoSaid : Prop := fnLeastTwoRow.holds Try.pinned (OpenSpec.ofChange fnLeastTwoSpec)

/-- ITS FALSE NEIGHBOUR: 'it returns false'. Refute it at one input. -/
def fnLeastTwoWrong : ChangeSpec := { name := "fnLeastTwo", fn := fun _ => fun
  | [d1, d2] => { results := [.lit (.bool false)], args := [d1, d2] }
  | _ => none }
def FnLeastTwoWrongFalsely : Prop := fnLeastTwoRow.holds Try.pinned (OpenSpec.ofChange fnLeastTwoWrong)

/-- 'laws.FnLeastMany': WHATEVER THE INPUT: true; the input reads as it did. -/
def fnLeastManySpec : ChangeSpec := { name := "fnLeastMany", fn := fun _ => fun
  | [d] => { results := [.lit (.bool true)], args := [d] }
  | _ => none }
def fnLeastManyRow : OpenClaim := { program := "ytibeeohnjabhkaa", sum := "af9cc71e8f8e5e8156ba55ef88b36c1fb99b377ebe95985bf4e2d72144d206d8", func := "loop.example/carding/laws.FnLeastMany", spec := "fnLeastMany", unfollowed := true, recurses := true, plainKeys := false, apart := false }
def FnLeastManySaid : Prop := fnLeastManyRow.holds Try.pinned (OpenSpec.ofChange fnLeastManySpec)

/-- ITS FALSE NEIGHBOUR: 'it returns false'. Refute it at one input. -/
def fnLeastManyWrong : ChangeSpec := { name := "fnLeastMany", fn := fun _ => fun
  | [d] => { results := [.lit (.bool false)], args := [d] }
  | _ => none }
def FnLeastManyWrongFalsely : Prop := fnLeastManyRow.holds Try.pinned (OpenSpec.ofChange fnLeastManyWrong)

/- THE SECOND FORM. 'bulk': how many values and letters a reading holds, each counted each time it is reached (what is shared counts as often as it is met; a slice's spare places count too). A statement '..UptoSaid' is the law's where the arguments, and the package variables that the reading takes, are together of bulk at most 1048576: NARROWER than '..Said'. Prove '..Said' where nothing that the law and all that it calls make is longer than what came in: it says more and counts as full. Else prove '..UptoSaid'. A law counts once. -/
mutual
def uptoBulk {H : Type} : DataW H → Nat
  | .lit (.string bytes) => bytes.length + 1
  | .lit _ => 1
  | .nil => 1
  | .ptr d => uptoBulk d + 1
  | .slice elems spare => uptoBulkAll elems + uptoBulkAll spare + 1
  | .agg parts => uptoBulkAll parts + 1
  | .iface _ d => uptoBulk d + 1
  | .map entries => uptoBulkEntries entries + 1
  | .held _ => 1
def uptoBulkAll {H : Type} : List (DataW H) → Nat
  | [] => 0
  | d :: r => uptoBulk d + uptoBulkAll r
def uptoBulkEntries {H : Type} : List (Lit × DataW H) → Nat
  | [] => 0
  | x :: r => uptoBulkEntry x + uptoBulkEntries r
def uptoBulkEntry {H : Type} : Lit × DataW H → Nat
  | (.string bytes, d) => bytes.length + uptoBulk d + 1
  | (_, d) => uptoBulk d + 1
 end
def uptoSmall : (H : Type) → List (DataW H) → Bool := fun _ ds => decide (uptoBulkAll ds ≤ 1048576)
def OpenSpec.upto (s : _root_.Go.ChangeSpec) : _root_.Go.OpenSpec := { _root_.Go.OpenSpec.ofChange s with cond := some uptoSmall }

/-- 'laws.FnDfaOk', WHERE WHAT IT READS IS OF BULK AT MOST 1048576: true; the input reads as it did. -/
def fnDfaOkUptoRow : OpenClaim := { program := "ytibeeohnjabhkaa", sum := "af9cc71e8f8e5e8156ba55ef88b36c1fb99b377ebe95985bf4e2d72144d206d8", func := "loop.example/carding/laws.FnDfaOk", spec := "fnDfaOk", recurses := true, plainKeys := false, apart := false, narrowed := true }
def FnDfaOkUptoSaid : Prop := fnDfaOkUptoRow.holds Try.pinned (OpenSpec.upto fnDfaOkSpec)

/-- 'laws.FnDfaRun', WHERE WHAT IT READS IS OF BULK AT MOST 1048576: true; the input reads as it did. -/
def fnDfaRunUptoRow : OpenClaim := { program := "ytibeeohnjabhkaa", sum := "af9cc71e8f8e5e8156ba55ef88b36c1fb99b377ebe95985bf4e2d72144d206d8", func := "loop.example/carding/laws.FnDfaRun", spec := "fnDfaRun", recurses := true, plainKeys := false, apart := false, narrowed := true }
def FnDfaRunUptoSaid : Prop := fnDfaRunUptoRow.holds Try.pinned (OpenSpec.upto fnDfaRunSpec)

/-- 'laws.FnLeastWay', WHERE WHAT IT READS IS OF BULK AT MOST 1048576: true; the input reads as it did. -/
def fnLeastWayUptoRow : OpenClaim := { program := "ytibeeohnjabhkaa", sum := "af9cc71e8f8e5e8156ba55ef88b36c1fb99b377ebe95985bf4e2d72144d206d8", func := "loop.example/carding/laws.FnLeastWay", spec := "fnLeastWay", unfollowed := true, recurses := true, plainKeys := false, apart := false, narrowed := true }
def FnLeastWayUptoSaid : Prop := fnLeastWayUptoRow.holds Try.pinned (OpenSpec.upto fnLeastWaySpec)

/-- 'laws.FnDfaNext', WHERE WHAT IT READS IS OF BULK AT MOST 1048576: true; the input reads as it did. -/
def fnDfaNextUptoRow : OpenClaim := { program := "ytibeeohnjabhkaa", sum := "af9cc71e8f8e5e8156ba55ef88b36c1fb99b377ebe95985bf4e2d72144d206d8", func := "loop.example/carding/laws.FnDfaNext", spec := "fnDfaNext", recurses := true, plainKeys := false, apart := false, narrowed := true }
def FnDfaNextUptoSaid : Prop := fnDfaNextUptoRow.holds Try.pinned (OpenSpec.upto fnDfaNextSpec)

/-- 'laws.FnLexAt', WHERE WHAT IT READS IS OF BULK AT MOST 1048576: true; the input reads as it did. -/
def fnLexAtUptoRow : OpenClaim := { program := "ytibeeohnjabhkaa", sum := "af9cc71e8f8e5e8156ba55ef88b36c1fb99b377ebe95985bf4e2d72144d206d8", func := "loop.example/carding/laws.FnLexAt", spec := "fnLexAt", recurses := true, plainKeys := false, apart := false, narrowed := true }
def FnLexAtUptoSaid : Prop := fnLexAtUptoRow.holds Try.pinned (OpenSpec.upto fnLexAtSpec)

/-- 'laws.FnLeastLive', WHERE WHAT IT READS IS OF BULK AT MOST 1048576: true; the input reads as it did. -/
def fnLeastLiveUptoRow : OpenClaim := { program := "ytibeeohnjabhkaa", sum := "af9cc71e8f8e5e8156ba55ef88b36c1fb99b377ebe95985bf4e2d72144d206d8", func := "loop.example/carding/laws.FnLeastLive", spec := "fnLeastLive", unfollowed := true, recurses := true, plainKeys := false, apart := false, narrowed := true }
def FnLeastLiveUptoSaid : Prop := fnLeastLiveUptoRow.holds Try.pinned (OpenSpec.upto fnLeastLiveSpec)

/-- 'laws.FnLeastTwo', WHERE WHAT IT READS IS OF BULK AT MOST 1048576: true; the input reads as it did. -/
def fnLeastTwoUptoRow : OpenClaim := { program := "ytibeeohnjabhkaa", sum := "af9cc71e8f8e5e8156ba55ef88b36c1fb99b377ebe95985bf4e2d72144d206d8", func := "loop.example/carding/laws.FnLeastTwo", spec := "fnLeastTwo", unfollowed := true, recurses := true, plainKeys := false, apart := false, narrowed := true }
def FnLeastTwoUptoSaid : Prop := fnLeastTwoUptoRow.holds Try.pinned (OpenSpec.upto fnLeastTwoSpec)

/-- 'laws.FnLeastMany', WHERE WHAT IT READS IS OF BULK AT MOST 1048576: true; the input reads as it did. -/
def fnLeastManyUptoRow : OpenClaim := { program := "ytibeeohnjabhkaa", sum := "af9cc71e8f8e5e8156ba55ef88b36c1fb99b377ebe95985bf4e2d72144d206d8", func := "loop.example/carding/laws.FnLeastMany", spec := "fnLeastMany", unfollowed := true, recurses := true, plainKeys := false, apart := false, narrowed := true }
def FnLeastManyUptoSaid : Prop := fnLeastManyUptoRow.holds Try.pinned (OpenSpec.upto fnLeastManySpec)

end Rows
end Go.Proofs.Ytibeeohnjabhkaa
