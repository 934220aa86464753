-- Written by this session's own program (xprint.py) over the kit's print.
import Derived.Test.YtoglmpigdipknaaXFnExactProbeAckx0
import Derived.Test.YtoglmpigdipknaaXFnExactProbeAckx1
import Derived.Test.YtoglmpigdipknaaXFnExactProbeAckx2
import Derived.Test.YtoglmpigdipknaaXFnExactProbeAckx3
import Derived.Test.YtoglmpigdipknaaXFnExactProbeAckx4
import Derived.Test.YtoglmpigdipknaaXFnExactProbeAckx5
import Derived.Test.YtoglmpigdipknaaXFnExactProbeAckx6
namespace Go.Proofs.Ytoglmpigdipknaa.XFnExactProbeAck
open Go.RowKit Go.Proofs.YtoglmpigdipknaaW.PrintWords Go.Proofs.YtoglmpigdipknaaW.PrintLast Go.Proofs.YtoglmpigdipknaaW.PrintMore
attribute [local go_sem] max2_int min2_int max_two min_two max_three min_three max_four min_four   -- for this text's walks alone
set_option linter.unusedVariables false
set_option linter.unusedSimpArgs false

end Go.Proofs.Ytoglmpigdipknaa.XFnExactProbeAck
