-- Written by this session's own program (xprint.py) over the kit's print.
import Derived.Test.YtcfogkmnmabfiaaProg
import Derived.Below
import Derived.Deep.Draws
import Derived.Deep.AppendLies
import Derived.Maps.AppendAt
import Derived.OwnWalk
import Derived.Laws.BytesArg
import Derived.Laws.MakeOwn
import Derived.Laws.OwnMore
import Derived.Deep.OwnRows
import Derived.Tactics
import Derived.Lib.ConvBytes
import Derived.Laws.Slices
import Derived.WalkKit
import Derived.KernelRfl
import Derived.RowKit3
import Derived.Deep.LoopGhost
import Derived.Deep.QuietTactic
import Derived.BigQuiet
import Derived.WideLaws
import Derived.Deep.DeepCutAuto
import Derived.Deep.CutBlock
import Derived.Deep.RegionHeld3
import Derived.Laws.Rows
import Derived.Lib.AppendStr
import Derived.ArgAppend
import Derived.Laws.IdiomCopy
import Derived.OrdersHeld
import Derived.Laws.BitsLemmas
import Derived.RowKit
import Derived.Test.YtcfogkmnmabfiaaWWords
import Derived.Test.YtcfogkmnmabfiaaWLast
import Derived.Test.YtcfogkmnmabfiaaWTab
import Derived.Test.YtcfogkmnmabfiaaWFour
import Derived.Test.YtcfogkmnmabfiaaWQPut
import Derived.Test.YtcfogkmnmabfiaaWApart
import Derived.Test.YtcfogkmnmabfiaaWArr
import Derived.Test.YtcfogkmnmabfiaaWZeros
import Derived.Test.YtcfogkmnmabfiaaWFoot
import Derived.Test.YtcfogkmnmabfiaaWKept
import Derived.Test.YtcfogkmnmabfiaaWShare
import Derived.Test.YtcfogkmnmabfiaaWN
import Derived.Test.YtcfogkmnmabfiaaWFootNe
import Derived.Test.YtcfogkmnmabfiaaWAt
import Derived.Test.YtcfogkmnmabfiaaWEqStruct
import Derived.Test.YtcfogkmnmabfiaaWRepsOne
import Derived.Test.YtcfogkmnmabfiaaWInv
import Derived.Test.YtcfogkmnmabfiaaWInvWords
import Derived.Test.YtcfogkmnmabfiaaWGuard
import Derived.Test.YtcfogkmnmabfiaaWNEv
import Derived.Test.YtcfogkmnmabfiaaWMore
import Derived.Test.YtcfogkmnmabfiaaStop
import Derived.Test.YtcfogkmnmabfiaaStop2
import Derived.Test.YtcfogkmnmabfiaaExtra
namespace Go.Proofs.Ytcfogkmnmabfiaa.XFnExactStatusText
open Go.RowKit Go.Proofs.YtcfogkmnmabfiaaW.PrintWords Go.Proofs.YtcfogkmnmabfiaaW.PrintLast Go.Proofs.YtcfogkmnmabfiaaW.PrintMore
attribute [local go_sem] max2_int min2_int max_two min_two max_three min_three max_four min_four   -- for this text's walks alone
set_option linter.unusedVariables false
set_option linter.unusedSimpArgs false



def errW : Option Int → Value
  | none => .nilIface
  | some c => .iface 0 (.int .i64 c)
theorem errW_none : errW none = .nilIface := rfl
theorem errW_some (c : Int) : errW (some c) = .iface 0 (.int .i64 c) := rfl

-- the values' own types

end Go.Proofs.Ytcfogkmnmabfiaa.XFnExactStatusText
