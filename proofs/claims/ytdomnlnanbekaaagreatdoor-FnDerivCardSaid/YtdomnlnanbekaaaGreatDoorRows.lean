/-
  NARROWER THAN 'FOR EVERY INPUT', by the rows' own cells (each row's printed sentence says how): FnDfaReach: laid · FnExactDfaOf: loops, laid · FnLeastRules: laid · FnDeriv: laid · FnDerivText: laid · FnDerivAll: laid · FnExactDerivAll: loops, laid · FnLex: laid · FnDfa: laid.
  DERIVED. THE GIVEN ROWS OF THIS SEAT. 9 by the template 'for every input the law returns true; each argument reads behind the call as it read before'; 0 by the template 'total and deterministic' (their statements: YtdomnlnanbekaaaGreatDoorTotals.lean).
  GIVEN WITH THE SEED: the statements are not yours to turn. If you find one false, say at which input.
  Laid BY PROGRAM, IN A SANDBOX (cutbox-rows.mjs): the forced cells as the released guide's own fill.sh prints them over the translation 4d121707f9873265… (all of the seat's roots in one cut). By AI agents, Wed Nov 11 2026. No macro, syntax, notation, axiom, sorry.
-/
import Derived.Test.YtdomnlnanbekaaaGreatDoorChecked
import GoSem.Claim
import GoSem.ClaimJoined
import GoSem.ClaimMapViews
import Derived.JoinedTies
import Derived.KernelRfl
namespace Go.Proofs.YtdomnlnanbekaaaGreatDoor
/- THE CELL 'sum', in the pinned program and in every row, IS THE sha256 OF THE DUMP (.gsa) THAT YtdomnlnanbekaaaGreatDoorProg.lean LOADS. Nothing in Lean hashes anything: it is a label: what it is worth is what the hold of that sum in a sandbox is worth. -/
noncomputable def Tryz.pinned : Pinned := { name := "ytdomnlnanbekaaagreatdoor", sum := "4d121707f98732650bf1538d226df56b24abc110c5d20202fe51cdfa275ece67", checked := Tryz.checked }
namespace Rows
def none {H : Type} : Left H := { results := [], args := [] }

/- WHAT THE LISTED PACKAGE-LEVEL VARIABLES READ AS WHEN THE CALL BEGINS. Each datum BY PROGRAM (the guide's laid-datum.mjs) off the statement by which the dump's own 'gosem.cut.vars' lays the variable. In a bare row this is a premise. The card (YtdomnlnanbekaaaGreatDoorCards.lean) ties it to the program's text. -/
def laid_math_bits_deBruijn32tab {H : Type} : DataW H := .agg [.lit (.int .u8 0), .lit (.int .u8 1), .lit (.int .u8 28), .lit (.int .u8 2), .lit (.int .u8 29), .lit (.int .u8 14), .lit (.int .u8 24), .lit (.int .u8 3), .lit (.int .u8 30), .lit (.int .u8 22), .lit (.int .u8 20), .lit (.int .u8 15), .lit (.int .u8 25), .lit (.int .u8 17), .lit (.int .u8 4), .lit (.int .u8 8), .lit (.int .u8 31), .lit (.int .u8 27), .lit (.int .u8 13), .lit (.int .u8 23), .lit (.int .u8 21), .lit (.int .u8 19), .lit (.int .u8 16), .lit (.int .u8 7), .lit (.int .u8 26), .lit (.int .u8 12), .lit (.int .u8 18), .lit (.int .u8 6), .lit (.int .u8 11), .lit (.int .u8 5), .lit (.int .u8 10), .lit (.int .u8 9)]
def laid_math_bits_deBruijn64tab {H : Type} : DataW H := .agg [.lit (.int .u8 0), .lit (.int .u8 1), .lit (.int .u8 56), .lit (.int .u8 2), .lit (.int .u8 57), .lit (.int .u8 49), .lit (.int .u8 28), .lit (.int .u8 3), .lit (.int .u8 61), .lit (.int .u8 58), .lit (.int .u8 42), .lit (.int .u8 50), .lit (.int .u8 38), .lit (.int .u8 29), .lit (.int .u8 17), .lit (.int .u8 4), .lit (.int .u8 62), .lit (.int .u8 47), .lit (.int .u8 59), .lit (.int .u8 36), .lit (.int .u8 45), .lit (.int .u8 43), .lit (.int .u8 51), .lit (.int .u8 22), .lit (.int .u8 53), .lit (.int .u8 39), .lit (.int .u8 33), .lit (.int .u8 30), .lit (.int .u8 24), .lit (.int .u8 18), .lit (.int .u8 12), .lit (.int .u8 5), .lit (.int .u8 63), .lit (.int .u8 55), .lit (.int .u8 48), .lit (.int .u8 27), .lit (.int .u8 60), .lit (.int .u8 41), .lit (.int .u8 37), .lit (.int .u8 16), .lit (.int .u8 46), .lit (.int .u8 35), .lit (.int .u8 44), .lit (.int .u8 21), .lit (.int .u8 52), .lit (.int .u8 32), .lit (.int .u8 23), .lit (.int .u8 11), .lit (.int .u8 54), .lit (.int .u8 26), .lit (.int .u8 40), .lit (.int .u8 15), .lit (.int .u8 34), .lit (.int .u8 20), .lit (.int .u8 31), .lit (.int .u8 10), .lit (.int .u8 25), .lit (.int .u8 14), .lit (.int .u8 19), .lit (.int .u8 9), .lit (.int .u8 13), .lit (.int .u8 8), .lit (.int .u8 7), .lit (.int .u8 6)]
def laid_internal_strconv_uint64pow10 {H : Type} : DataW H := .agg [.lit (.int .u64 1), .lit (.int .u64 10), .lit (.int .u64 100), .lit (.int .u64 1000), .lit (.int .u64 10000), .lit (.int .u64 100000), .lit (.int .u64 1000000), .lit (.int .u64 10000000), .lit (.int .u64 100000000), .lit (.int .u64 1000000000), .lit (.int .u64 10000000000), .lit (.int .u64 100000000000), .lit (.int .u64 1000000000000), .lit (.int .u64 10000000000000), .lit (.int .u64 100000000000000), .lit (.int .u64 1000000000000000), .lit (.int .u64 10000000000000000), .lit (.int .u64 100000000000000000), .lit (.int .u64 1000000000000000000), .lit (.int .u64 10000000000000000000)]

/-- 'laws.FnDfaReach': WHATEVER THE INPUT: true; the input reads as it did. -/
def fnDfaReachSpec : ChangeSpec := { name := "fnDfaReach", fn := fun _ => fun
  | [d1, d2] => { results := [.lit (.bool true)], args := [d1, d2] }
  | _ => none }
def fnDfaReachRow : OpenClaim := { program := "ytdomnlnanbekaaagreatdoor", sum := "4d121707f98732650bf1538d226df56b24abc110c5d20202fe51cdfa275ece67", func := "loop.example/carding/laws.FnDfaReach", spec := "fnDfaReach", inPlace := ["internal/abi.NoEscape", "internal/bytealg.MakeNoZero"], recurses := true, named := ["internal/strconv.uint64pow10", "math/bits.deBruijn32tab", "math/bits.deBruijn64tab"], apart := false, laid := [("math/bits.deBruijn32tab", laid_math_bits_deBruijn32tab), ("math/bits.deBruijn64tab", laid_math_bits_deBruijn64tab), ("internal/strconv.uint64pow10", laid_internal_strconv_uint64pow10)] }
def FnDfaReachSaid : Prop := fnDfaReachRow.holds Tryz.pinned (OpenSpec.ofChange fnDfaReachSpec)

/-- ITS FALSE NEIGHBOUR: 'it returns false'. Refute it at one input. -/
def fnDfaReachWrong : ChangeSpec := { name := "fnDfaReach", fn := fun _ => fun
  | [d1, d2] => { results := [.lit (.bool false)], args := [d1, d2] }
  | _ => none }
def FnDfaReachWrongFalsely : Prop := fnDfaReachRow.holds Tryz.pinned (OpenSpec.ofChange fnDfaReachWrong)

/-- 'laws.FnExactDfaOf': WHATEVER THE INPUT: true; the input reads as it did. -/
def fnExactDfaOfSpec : ChangeSpec := { name := "fnExactDfaOf", fn := fun _ => fun
  | [d] => { results := [.lit (.bool true)], args := [d] }
  | _ => none }
def fnExactDfaOfRow : OpenClaim := { program := "ytdomnlnanbekaaagreatdoor", sum := "4d121707f98732650bf1538d226df56b24abc110c5d20202fe51cdfa275ece67", func := "loop.example/carding/laws.FnExactDfaOf", spec := "fnExactDfaOf", inPlace := ["internal/abi.NoEscape", "internal/bytealg.MakeNoZero"], recurses := true, named := ["internal/strconv.uint64pow10", "math/bits.deBruijn32tab", "math/bits.deBruijn64tab"], loops := true, apart := false, laid := [("math/bits.deBruijn32tab", laid_math_bits_deBruijn32tab), ("math/bits.deBruijn64tab", laid_math_bits_deBruijn64tab), ("internal/strconv.uint64pow10", laid_internal_strconv_uint64pow10)] }
def FnExactDfaOfSaid : Prop := fnExactDfaOfRow.holds Tryz.pinned (OpenSpec.ofChange fnExactDfaOfSpec)

/-- ITS FALSE NEIGHBOUR: 'it returns false'. Refute it at one input. -/
def fnExactDfaOfWrong : ChangeSpec := { name := "fnExactDfaOf", fn := fun _ => fun
  | [d] => { results := [.lit (.bool false)], args := [d] }
  | _ => none }
def FnExactDfaOfWrongFalsely : Prop := fnExactDfaOfRow.holds Tryz.pinned (OpenSpec.ofChange fnExactDfaOfWrong)

/-- 'laws.FnLeastRules': WHATEVER THE INPUT: true; the input reads as it did. -/
def fnLeastRulesSpec : ChangeSpec := { name := "fnLeastRules", fn := fun _ => fun
  | [d1, d2] => { results := [.lit (.bool true)], args := [d1, d2] }
  | _ => none }
def fnLeastRulesRow : OpenClaim := { program := "ytdomnlnanbekaaagreatdoor", sum := "4d121707f98732650bf1538d226df56b24abc110c5d20202fe51cdfa275ece67", func := "loop.example/carding/laws.FnLeastRules", spec := "fnLeastRules", inPlace := ["internal/abi.NoEscape", "internal/bytealg.MakeNoZero"], unfollowed := true, recurses := true, named := ["internal/strconv.uint64pow10", "math/bits.deBruijn32tab", "math/bits.deBruijn64tab"], apart := false, laid := [("math/bits.deBruijn32tab", laid_math_bits_deBruijn32tab), ("math/bits.deBruijn64tab", laid_math_bits_deBruijn64tab), ("internal/strconv.uint64pow10", laid_internal_strconv_uint64pow10)] }
def FnLeastRulesSaid : Prop := fnLeastRulesRow.holds Tryz.pinned (OpenSpec.ofChange fnLeastRulesSpec)

/-- ITS FALSE NEIGHBOUR: 'it returns false'. Refute it at one input. -/
def fnLeastRulesWrong : ChangeSpec := { name := "fnLeastRules", fn := fun _ => fun
  | [d1, d2] => { results := [.lit (.bool false)], args := [d1, d2] }
  | _ => none }
def FnLeastRulesWrongFalsely : Prop := fnLeastRulesRow.holds Tryz.pinned (OpenSpec.ofChange fnLeastRulesWrong)

/-- 'laws.FnDeriv': WHATEVER THE INPUT: true; the input reads as it did. -/
def fnDerivSpec : ChangeSpec := { name := "fnDeriv", fn := fun _ => fun
  | [d1, d2] => { results := [.lit (.bool true)], args := [d1, d2] }
  | _ => none }
def fnDerivRow : OpenClaim := { program := "ytdomnlnanbekaaagreatdoor", sum := "4d121707f98732650bf1538d226df56b24abc110c5d20202fe51cdfa275ece67", func := "loop.example/carding/laws.FnDeriv", spec := "fnDeriv", inPlace := ["internal/abi.NoEscape", "internal/bytealg.MakeNoZero"], recurses := true, named := ["internal/strconv.uint64pow10", "math/bits.deBruijn32tab", "math/bits.deBruijn64tab"], apart := false, laid := [("math/bits.deBruijn32tab", laid_math_bits_deBruijn32tab), ("math/bits.deBruijn64tab", laid_math_bits_deBruijn64tab), ("internal/strconv.uint64pow10", laid_internal_strconv_uint64pow10)] }
def FnDerivSaid : Prop := fnDerivRow.holds Tryz.pinned (OpenSpec.ofChange fnDerivSpec)

/-- ITS FALSE NEIGHBOUR: 'it returns false'. Refute it at one input. -/
def fnDerivWrong : ChangeSpec := { name := "fnDeriv", fn := fun _ => fun
  | [d1, d2] => { results := [.lit (.bool false)], args := [d1, d2] }
  | _ => none }
def FnDerivWrongFalsely : Prop := fnDerivRow.holds Tryz.pinned (OpenSpec.ofChange fnDerivWrong)

/-- 'laws.FnDerivText': WHATEVER THE INPUT: true; the input reads as it did. -/
def fnDerivTextSpec : ChangeSpec := { name := "fnDerivText", fn := fun _ => fun
  | [d1, d2] => { results := [.lit (.bool true)], args := [d1, d2] }
  | _ => none }
def fnDerivTextRow : OpenClaim := { program := "ytdomnlnanbekaaagreatdoor", sum := "4d121707f98732650bf1538d226df56b24abc110c5d20202fe51cdfa275ece67", func := "loop.example/carding/laws.FnDerivText", spec := "fnDerivText", inPlace := ["internal/abi.NoEscape", "internal/bytealg.MakeNoZero"], recurses := true, named := ["internal/strconv.uint64pow10", "math/bits.deBruijn32tab", "math/bits.deBruijn64tab"], apart := false, laid := [("math/bits.deBruijn32tab", laid_math_bits_deBruijn32tab), ("math/bits.deBruijn64tab", laid_math_bits_deBruijn64tab), ("internal/strconv.uint64pow10", laid_internal_strconv_uint64pow10)] }
def FnDerivTextSaid : Prop := fnDerivTextRow.holds Tryz.pinned (OpenSpec.ofChange fnDerivTextSpec)

/-- ITS FALSE NEIGHBOUR: 'it returns false'. Refute it at one input. -/
def fnDerivTextWrong : ChangeSpec := { name := "fnDerivText", fn := fun _ => fun
  | [d1, d2] => { results := [.lit (.bool false)], args := [d1, d2] }
  | _ => none }
def FnDerivTextWrongFalsely : Prop := fnDerivTextRow.holds Tryz.pinned (OpenSpec.ofChange fnDerivTextWrong)

/-- 'laws.FnDerivAll': WHATEVER THE INPUT: true; the input reads as it did. -/
def fnDerivAllSpec : ChangeSpec := { name := "fnDerivAll", fn := fun _ => fun
  | [d] => { results := [.lit (.bool true)], args := [d] }
  | _ => none }
def fnDerivAllRow : OpenClaim := { program := "ytdomnlnanbekaaagreatdoor", sum := "4d121707f98732650bf1538d226df56b24abc110c5d20202fe51cdfa275ece67", func := "loop.example/carding/laws.FnDerivAll", spec := "fnDerivAll", inPlace := ["internal/abi.NoEscape", "internal/bytealg.MakeNoZero"], recurses := true, named := ["internal/strconv.uint64pow10", "math/bits.deBruijn32tab", "math/bits.deBruijn64tab"], apart := false, laid := [("math/bits.deBruijn32tab", laid_math_bits_deBruijn32tab), ("math/bits.deBruijn64tab", laid_math_bits_deBruijn64tab), ("internal/strconv.uint64pow10", laid_internal_strconv_uint64pow10)] }
def FnDerivAllSaid : Prop := fnDerivAllRow.holds Tryz.pinned (OpenSpec.ofChange fnDerivAllSpec)

/-- ITS FALSE NEIGHBOUR: 'it returns false'. Refute it at one input. -/
def fnDerivAllWrong : ChangeSpec := { name := "fnDerivAll", fn := fun _ => fun
  | [d] => { results := [.lit (.bool false)], args := [d] }
  | _ => none }
def FnDerivAllWrongFalsely : Prop := fnDerivAllRow.holds Tryz.pinned (OpenSpec.ofChange fnDerivAllWrong)

/-- 'laws.FnExactDerivAll': WHATEVER THE INPUT: true; the input reads as it did. -/
def fnExactDerivAllSpec : ChangeSpec := { name := "fnExactDerivAll", fn := fun _ => fun
  | [d1, d2] => { results := [.lit (.bool true)], args := [d1, d2] }
  | _ => none }
def fnExactDerivAllRow : OpenClaim := { program := "ytdomnlnanbekaaagreatdoor", sum := "4d121707f98732650bf1538d226df56b24abc110c5d20202fe51cdfa275ece67", func := "loop.example/carding/laws.FnExactDerivAll", spec := "fnExactDerivAll", inPlace := ["internal/abi.NoEscape", "internal/bytealg.MakeNoZero"], recurses := true, named := ["internal/strconv.uint64pow10", "math/bits.deBruijn32tab", "math/bits.deBruijn64tab"], loops := true, apart := false, laid := [("math/bits.deBruijn32tab", laid_math_bits_deBruijn32tab), ("math/bits.deBruijn64tab", laid_math_bits_deBruijn64tab), ("internal/strconv.uint64pow10", laid_internal_strconv_uint64pow10)] }
def FnExactDerivAllSaid : Prop := fnExactDerivAllRow.holds Tryz.pinned (OpenSpec.ofChange fnExactDerivAllSpec)

/-- ITS FALSE NEIGHBOUR: 'it returns false'. Refute it at one input. -/
def fnExactDerivAllWrong : ChangeSpec := { name := "fnExactDerivAll", fn := fun _ => fun
  | [d1, d2] => { results := [.lit (.bool false)], args := [d1, d2] }
  | _ => none }
def FnExactDerivAllWrongFalsely : Prop := fnExactDerivAllRow.holds Tryz.pinned (OpenSpec.ofChange fnExactDerivAllWrong)

/-- 'laws.FnLex': WHATEVER THE INPUT: true; the input reads as it did. -/
def fnLexSpec : ChangeSpec := { name := "fnLex", fn := fun _ => fun
  | [d] => { results := [.lit (.bool true)], args := [d] }
  | _ => none }
def fnLexRow : OpenClaim := { program := "ytdomnlnanbekaaagreatdoor", sum := "4d121707f98732650bf1538d226df56b24abc110c5d20202fe51cdfa275ece67", func := "loop.example/carding/laws.FnLex", spec := "fnLex", inPlace := ["internal/abi.NoEscape", "internal/bytealg.MakeNoZero"], unfollowed := true, recurses := true, named := ["internal/strconv.uint64pow10", "math/bits.deBruijn32tab", "math/bits.deBruijn64tab"], apart := false, laid := [("math/bits.deBruijn32tab", laid_math_bits_deBruijn32tab), ("math/bits.deBruijn64tab", laid_math_bits_deBruijn64tab), ("internal/strconv.uint64pow10", laid_internal_strconv_uint64pow10)] }
def FnLexSaid : Prop := fnLexRow.holds Tryz.pinned (OpenSpec.ofChange fnLexSpec)

/-- ITS FALSE NEIGHBOUR: 'it returns false'. Refute it at one input. -/
def fnLexWrong : ChangeSpec := { name := "fnLex", fn := fun _ => fun
  | [d] => { results := [.lit (.bool false)], args := [d] }
  | _ => none }
def FnLexWrongFalsely : Prop := fnLexRow.holds Tryz.pinned (OpenSpec.ofChange fnLexWrong)

/-- 'laws.FnDfa': WHATEVER THE INPUT: true; the input reads as it did. -/
def fnDfaSpec : ChangeSpec := { name := "fnDfa", fn := fun _ => fun
  | [d1, d2] => { results := [.lit (.bool true)], args := [d1, d2] }
  | _ => none }
def fnDfaRow : OpenClaim := { program := "ytdomnlnanbekaaagreatdoor", sum := "4d121707f98732650bf1538d226df56b24abc110c5d20202fe51cdfa275ece67", func := "loop.example/carding/laws.FnDfa", spec := "fnDfa", inPlace := ["internal/abi.NoEscape", "internal/bytealg.MakeNoZero"], recurses := true, named := ["internal/strconv.uint64pow10", "math/bits.deBruijn32tab", "math/bits.deBruijn64tab"], apart := false, laid := [("math/bits.deBruijn32tab", laid_math_bits_deBruijn32tab), ("math/bits.deBruijn64tab", laid_math_bits_deBruijn64tab), ("internal/strconv.uint64pow10", laid_internal_strconv_uint64pow10)] }
def FnDfaSaid : Prop := fnDfaRow.holds Tryz.pinned (OpenSpec.ofChange fnDfaSpec)

/-- ITS FALSE NEIGHBOUR: 'it returns false'. Refute it at one input. -/
def fnDfaWrong : ChangeSpec := { name := "fnDfa", fn := fun _ => fun
  | [d1, d2] => { results := [.lit (.bool false)], args := [d1, d2] }
  | _ => none }
def FnDfaWrongFalsely : Prop := fnDfaRow.holds Tryz.pinned (OpenSpec.ofChange fnDfaWrong)

/- THE SECOND FORM. 'bulk': how many values and letters a reading holds, each counted each time it is reached (what is shared counts as often as it is met; a slice's spare places count too). A statement '..UptoSaid' is the law's where the arguments, and the package variables that the reading takes, are together of bulk at most 1048576: NARROWER than '..Said'. Prove '..Said' where nothing that the law and all that it calls make is longer than what came in: it says more and counts as full. Else prove '..UptoSaid'. A law counts once. -/
mutual
def uptoBulk {H : Type} : DataW H → Nat
  | .lit (.string bytes) => bytes.length + 1
  | .lit _ => 1
  | .nil => 1
  | .ptr d => uptoBulk d + 1
  | .slice elems spare => uptoBulkAll elems + uptoBulkAll spare + 1
  | .agg parts => uptoBulkAll parts + 1
  | .iface _ d => uptoBulk d + 1
  | .map entries => uptoBulkEntries entries + 1
  | .held _ => 1
def uptoBulkAll {H : Type} : List (DataW H) → Nat
  | [] => 0
  | d :: r => uptoBulk d + uptoBulkAll r
def uptoBulkEntries {H : Type} : List (Lit × DataW H) → Nat
  | [] => 0
  | x :: r => uptoBulkEntry x + uptoBulkEntries r
def uptoBulkEntry {H : Type} : Lit × DataW H → Nat
  | (.string bytes, d) => bytes.length + uptoBulk d + 1
  | (_, d) => uptoBulk d + 1
 end
def uptoSmall : (H : Type) → List (DataW H) → Bool := fun _ ds => decide (uptoBulkAll ds ≤ 1048576)
def OpenSpec.upto (s : _root_.Go.ChangeSpec) : _root_.Go.OpenSpec := { _root_.Go.OpenSpec.ofChange s with cond := some uptoSmall }

/-- 'laws.FnDfaReach', WHERE WHAT IT READS IS OF BULK AT MOST 1048576: true; the input reads as it did. -/
def fnDfaReachUptoRow : OpenClaim := { program := "ytdomnlnanbekaaagreatdoor", sum := "4d121707f98732650bf1538d226df56b24abc110c5d20202fe51cdfa275ece67", func := "loop.example/carding/laws.FnDfaReach", spec := "fnDfaReach", inPlace := ["internal/abi.NoEscape", "internal/bytealg.MakeNoZero"], recurses := true, named := ["internal/strconv.uint64pow10", "math/bits.deBruijn32tab", "math/bits.deBruijn64tab"], apart := false, laid := [("math/bits.deBruijn32tab", laid_math_bits_deBruijn32tab), ("math/bits.deBruijn64tab", laid_math_bits_deBruijn64tab), ("internal/strconv.uint64pow10", laid_internal_strconv_uint64pow10)], narrowed := true }
def FnDfaReachUptoSaid : Prop := fnDfaReachUptoRow.holds Tryz.pinned (OpenSpec.upto fnDfaReachSpec)

/-- 'laws.FnExactDfaOf', WHERE WHAT IT READS IS OF BULK AT MOST 1048576: true; the input reads as it did. -/
def fnExactDfaOfUptoRow : OpenClaim := { program := "ytdomnlnanbekaaagreatdoor", sum := "4d121707f98732650bf1538d226df56b24abc110c5d20202fe51cdfa275ece67", func := "loop.example/carding/laws.FnExactDfaOf", spec := "fnExactDfaOf", inPlace := ["internal/abi.NoEscape", "internal/bytealg.MakeNoZero"], recurses := true, named := ["internal/strconv.uint64pow10", "math/bits.deBruijn32tab", "math/bits.deBruijn64tab"], loops := true, apart := false, laid := [("math/bits.deBruijn32tab", laid_math_bits_deBruijn32tab), ("math/bits.deBruijn64tab", laid_math_bits_deBruijn64tab), ("internal/strconv.uint64pow10", laid_internal_strconv_uint64pow10)], narrowed := true }
def FnExactDfaOfUptoSaid : Prop := fnExactDfaOfUptoRow.holds Tryz.pinned (OpenSpec.upto fnExactDfaOfSpec)

/-- 'laws.FnLeastRules', WHERE WHAT IT READS IS OF BULK AT MOST 1048576: true; the input reads as it did. -/
def fnLeastRulesUptoRow : OpenClaim := { program := "ytdomnlnanbekaaagreatdoor", sum := "4d121707f98732650bf1538d226df56b24abc110c5d20202fe51cdfa275ece67", func := "loop.example/carding/laws.FnLeastRules", spec := "fnLeastRules", inPlace := ["internal/abi.NoEscape", "internal/bytealg.MakeNoZero"], unfollowed := true, recurses := true, named := ["internal/strconv.uint64pow10", "math/bits.deBruijn32tab", "math/bits.deBruijn64tab"], apart := false, laid := [("math/bits.deBruijn32tab", laid_math_bits_deBruijn32tab), ("math/bits.deBruijn64tab", laid_math_bits_deBruijn64tab), ("internal/strconv.uint64pow10", laid_internal_strconv_uint64pow10)], narrowed := true }
def FnLeastRulesUptoSaid : Prop := fnLeastRulesUptoRow.holds Tryz.pinned (OpenSpec.upto fnLeastRulesSpec)

/-- 'laws.FnDeriv', WHERE WHAT IT READS IS OF BULK AT MOST 1048576: true; the input reads as it did. -/
def fnDerivUptoRow : OpenClaim := { program := "ytdomnlnanbekaaagreatdoor", sum := "4d121707f98732650bf1538d226df56b24abc110c5d20202fe51cdfa275ece67", func := "loop.example/carding/laws.FnDeriv", spec := "fnDeriv", inPlace := ["internal/abi.NoEscape", "internal/bytealg.MakeNoZero"], recurses := true, named := ["internal/strconv.uint64pow10", "math/bits.deBruijn32tab", "math/bits.deBruijn64tab"], apart := false, laid := [("math/bits.deBruijn32tab", laid_math_bits_deBruijn32tab), ("math/bits.deBruijn64tab", laid_math_bits_deBruijn64tab), ("internal/strconv.uint64pow10", laid_internal_strconv_uint64pow10)], narrowed := true }
def FnDerivUptoSaid : Prop := fnDerivUptoRow.holds Tryz.pinned (OpenSpec.upto fnDerivSpec)

/-- 'laws.FnDerivText', WHERE WHAT IT READS IS OF BULK AT MOST 1048576: true; the input reads as it did. -/
def fnDerivTextUptoRow : OpenClaim := { program := "ytdomnlnanbekaaagreatdoor", sum := "4d121707f98732650bf1538d226df56b24abc110c5d20202fe51cdfa275ece67", func := "loop.example/carding/laws.FnDerivText", spec := "fnDerivText", inPlace := ["internal/abi.NoEscape", "internal/bytealg.MakeNoZero"], recurses := true, named := ["internal/strconv.uint64pow10", "math/bits.deBruijn32tab", "math/bits.deBruijn64tab"], apart := false, laid := [("math/bits.deBruijn32tab", laid_math_bits_deBruijn32tab), ("math/bits.deBruijn64tab", laid_math_bits_deBruijn64tab), ("internal/strconv.uint64pow10", laid_internal_strconv_uint64pow10)], narrowed := true }
def FnDerivTextUptoSaid : Prop := fnDerivTextUptoRow.holds Tryz.pinned (OpenSpec.upto fnDerivTextSpec)

/-- 'laws.FnDerivAll', WHERE WHAT IT READS IS OF BULK AT MOST 1048576: true; the input reads as it did. -/
def fnDerivAllUptoRow : OpenClaim := { program := "ytdomnlnanbekaaagreatdoor", sum := "4d121707f98732650bf1538d226df56b24abc110c5d20202fe51cdfa275ece67", func := "loop.example/carding/laws.FnDerivAll", spec := "fnDerivAll", inPlace := ["internal/abi.NoEscape", "internal/bytealg.MakeNoZero"], recurses := true, named := ["internal/strconv.uint64pow10", "math/bits.deBruijn32tab", "math/bits.deBruijn64tab"], apart := false, laid := [("math/bits.deBruijn32tab", laid_math_bits_deBruijn32tab), ("math/bits.deBruijn64tab", laid_math_bits_deBruijn64tab), ("internal/strconv.uint64pow10", laid_internal_strconv_uint64pow10)], narrowed := true }
def FnDerivAllUptoSaid : Prop := fnDerivAllUptoRow.holds Tryz.pinned (OpenSpec.upto fnDerivAllSpec)

/-- 'laws.FnExactDerivAll', WHERE WHAT IT READS IS OF BULK AT MOST 1048576: true; the input reads as it did. -/
def fnExactDerivAllUptoRow : OpenClaim := { program := "ytdomnlnanbekaaagreatdoor", sum := "4d121707f98732650bf1538d226df56b24abc110c5d20202fe51cdfa275ece67", func := "loop.example/carding/laws.FnExactDerivAll", spec := "fnExactDerivAll", inPlace := ["internal/abi.NoEscape", "internal/bytealg.MakeNoZero"], recurses := true, named := ["internal/strconv.uint64pow10", "math/bits.deBruijn32tab", "math/bits.deBruijn64tab"], loops := true, apart := false, laid := [("math/bits.deBruijn32tab", laid_math_bits_deBruijn32tab), ("math/bits.deBruijn64tab", laid_math_bits_deBruijn64tab), ("internal/strconv.uint64pow10", laid_internal_strconv_uint64pow10)], narrowed := true }
def FnExactDerivAllUptoSaid : Prop := fnExactDerivAllUptoRow.holds Tryz.pinned (OpenSpec.upto fnExactDerivAllSpec)

/-- 'laws.FnLex', WHERE WHAT IT READS IS OF BULK AT MOST 1048576: true; the input reads as it did. -/
def fnLexUptoRow : OpenClaim := { program := "ytdomnlnanbekaaagreatdoor", sum := "4d121707f98732650bf1538d226df56b24abc110c5d20202fe51cdfa275ece67", func := "loop.example/carding/laws.FnLex", spec := "fnLex", inPlace := ["internal/abi.NoEscape", "internal/bytealg.MakeNoZero"], unfollowed := true, recurses := true, named := ["internal/strconv.uint64pow10", "math/bits.deBruijn32tab", "math/bits.deBruijn64tab"], apart := false, laid := [("math/bits.deBruijn32tab", laid_math_bits_deBruijn32tab), ("math/bits.deBruijn64tab", laid_math_bits_deBruijn64tab), ("internal/strconv.uint64pow10", laid_internal_strconv_uint64pow10)], narrowed := true }
def FnLexUptoSaid : Prop := fnLexUptoRow.holds Tryz.pinned (OpenSpec.upto fnLexSpec)

/-- 'laws.FnDfa', WHERE WHAT IT READS IS OF BULK AT MOST 1048576: true; the input reads as it did. -/
def fnDfaUptoRow : OpenClaim := { program := "ytdomnlnanbekaaagreatdoor", sum := "4d121707f98732650bf1538d226df56b24abc110c5d20202fe51cdfa275ece67", func := "loop.example/carding/laws.FnDfa", spec := "fnDfa", inPlace := ["internal/abi.NoEscape", "internal/bytealg.MakeNoZero"], recurses := true, named := ["internal/strconv.uint64pow10", "math/bits.deBruijn32tab", "math/bits.deBruijn64tab"], apart := false, laid := [("math/bits.deBruijn32tab", laid_math_bits_deBruijn32tab), ("math/bits.deBruijn64tab", laid_math_bits_deBruijn64tab), ("internal/strconv.uint64pow10", laid_internal_strconv_uint64pow10)], narrowed := true }
def FnDfaUptoSaid : Prop := fnDfaUptoRow.holds Tryz.pinned (OpenSpec.upto fnDfaSpec)

end Rows
end Go.Proofs.YtdomnlnanbekaaaGreatDoor
