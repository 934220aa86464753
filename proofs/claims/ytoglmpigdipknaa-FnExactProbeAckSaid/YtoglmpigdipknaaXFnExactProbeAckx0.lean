-- Written by this session's own program (xprint.py) over the kit's print.
import Derived.Test.YtoglmpigdipknaaProg
import Derived.Below
import Derived.Deep.Draws
import Derived.Deep.AppendLies
import Derived.Maps.AppendAt
import Derived.OwnWalk
import Derived.Laws.BytesArg
import Derived.Laws.MakeOwn
import Derived.Laws.OwnMore
import Derived.Deep.OwnRows
import Derived.Tactics
import Derived.Lib.ConvBytes
import Derived.Laws.Slices
import Derived.WalkKit
import Derived.KernelRfl
import Derived.RowKit3
import Derived.Deep.LoopGhost
import Derived.Deep.QuietTactic
import Derived.BigQuiet
import Derived.WideLaws
import Derived.Deep.DeepCutAuto
import Derived.Deep.CutBlock
import Derived.Deep.RegionHeld3
import Derived.Laws.Rows
import Derived.Lib.AppendStr
import Derived.ArgAppend
import Derived.Laws.IdiomCopy
import Derived.OrdersHeld
import Derived.Laws.BitsLemmas
import Derived.RowKit
import Derived.Test.YtoglmpigdipknaaWWords
import Derived.Test.YtoglmpigdipknaaWLast
import Derived.Test.YtoglmpigdipknaaWTab
import Derived.Test.YtoglmpigdipknaaWFour
import Derived.Test.YtoglmpigdipknaaWQPut
import Derived.Test.YtoglmpigdipknaaWApart
import Derived.Test.YtoglmpigdipknaaWArr
import Derived.Test.YtoglmpigdipknaaWZeros
import Derived.Test.YtoglmpigdipknaaWFoot
import Derived.Test.YtoglmpigdipknaaWKept
import Derived.Test.YtoglmpigdipknaaWShare
import Derived.Test.YtoglmpigdipknaaWN
import Derived.Test.YtoglmpigdipknaaWFootNe
import Derived.Test.YtoglmpigdipknaaWAt
import Derived.Test.YtoglmpigdipknaaWEqStruct
import Derived.Test.YtoglmpigdipknaaWRepsOne
import Derived.Test.YtoglmpigdipknaaWInv
import Derived.Test.YtoglmpigdipknaaWInvWords
import Derived.Test.YtoglmpigdipknaaWGuard
import Derived.Test.YtoglmpigdipknaaWNEv
import Derived.Test.YtoglmpigdipknaaWMore
import Derived.Test.YtoglmpigdipknaaStop
import Derived.Test.YtoglmpigdipknaaStop2
namespace Go.Proofs.Ytoglmpigdipknaa.XFnExactProbeAck
open Go.RowKit Go.Proofs.YtoglmpigdipknaaW.PrintWords Go.Proofs.YtoglmpigdipknaaW.PrintLast Go.Proofs.YtoglmpigdipknaaW.PrintMore
attribute [local go_sem] max2_int min2_int max_two min_two max_three min_three max_four min_four   -- for this text's walks alone
set_option linter.unusedVariables false
set_option linter.unusedSimpArgs false



def errW : Option Int → Value
  | none => .nilIface
  | some c => .iface 0 (.int .i64 c)
theorem errW_none : errW none = .nilIface := rfl
theorem errW_some (c : Int) : errW (some c) = .iface 0 (.int .i64 c) := rfl

theorem info3 : (Try.prog.info? 3).map (fun i => (i.zero, i.size, i.bytes)) = some (some (.int .i64 0), 1, 8) := by kernel_rfl
-- the values' own types

end Go.Proofs.Ytoglmpigdipknaa.XFnExactProbeAck
