-- PRINTED BY print.sh 35421559b90ae4d0a3588c463048766b98c2df88dd9212a6774a882060cdf62d: not written by this session
import Derived.Test.YtljaoggbfoimfaaProg
import Derived.Below
import Derived.Deep.Draws
import Derived.Deep.AppendLies
import Derived.Maps.AppendAt
import Derived.OwnWalk
import Derived.Laws.BytesArg
import Derived.Laws.MakeOwn
import Derived.Laws.OwnMore
import Derived.Deep.OwnRows
import Derived.Tactics
import Derived.Lib.ConvBytes
import Derived.Laws.Slices
import Derived.WalkKit
import Derived.KernelRfl
import Derived.RowKit3
import Derived.Deep.LoopGhost
import Derived.Deep.QuietTactic
import Derived.BigQuiet
import Derived.WideLaws
import Derived.Deep.DeepCutAuto
import Derived.Deep.CutBlock
import Derived.Deep.RegionHeld3
import Derived.Laws.Rows
import Derived.Lib.AppendStr
import Derived.ArgAppend
import Derived.Laws.IdiomCopy
import Derived.OrdersHeld
import Derived.Laws.BitsLemmas
import Derived.RowKit
import Derived.Test.YtljaoggbfoimfaaWWords
import Derived.Test.YtljaoggbfoimfaaWLast
import Derived.Test.YtljaoggbfoimfaaWTab
import Derived.Test.YtljaoggbfoimfaaWFour
import Derived.Test.YtljaoggbfoimfaaWQPut
import Derived.Test.YtljaoggbfoimfaaWApart
import Derived.Test.YtljaoggbfoimfaaWArr
import Derived.Test.YtljaoggbfoimfaaWZeros
import Derived.Test.YtljaoggbfoimfaaWFoot
import Derived.Test.YtljaoggbfoimfaaWKept
import Derived.Test.YtljaoggbfoimfaaWShare
import Derived.Test.YtljaoggbfoimfaaWN
import Derived.Test.YtljaoggbfoimfaaWFootNe
import Derived.Test.YtljaoggbfoimfaaWAt
import Derived.Test.YtljaoggbfoimfaaWEqStruct
import Derived.Test.YtljaoggbfoimfaaWRepsOne
import Derived.Test.YtljaoggbfoimfaaWInv
import Derived.Test.YtljaoggbfoimfaaWInvWords
import Derived.Test.YtljaoggbfoimfaaWGuard
import Derived.Test.YtljaoggbfoimfaaWNEv
import Derived.Test.YtljaoggbfoimfaaWMore
namespace Go.Proofs.Ytljaoggbfoimfaa.PFnExactRuleWord
open Go.RowKit Go.Proofs.YtljaoggbfoimfaaW.PrintWords Go.Proofs.YtljaoggbfoimfaaW.PrintLast Go.Proofs.YtljaoggbfoimfaaW.PrintMore
attribute [local go_sem] max2_int min2_int max_two min_two max_three min_three max_four min_four   -- for this text's walks alone
set_option linter.unusedVariables false
set_option linter.unusedSimpArgs false



def errW : Option Int → Value
  | none => .nilIface
  | some c => .iface 0 (.int .i64 c)
theorem errW_none : errW none = .nilIface := rfl
theorem errW_some (c : Int) : errW (some c) = .iface 0 (.int .i64 c) := rfl

-- the values' own types

end Go.Proofs.Ytljaoggbfoimfaa.PFnExactRuleWord
