-- Written by this session's own program (xprint.py) over the kit's print.
import Derived.Test.YtigoajblljolcaaXFnExactWheelStopx0
import Derived.Test.YtigoajblljolcaaXFnExactWheelStopx1
import Derived.Test.YtigoajblljolcaaXFnExactWheelStopx2
import Derived.Test.YtigoajblljolcaaXFnExactWheelStopx3
import Derived.Test.YtigoajblljolcaaXFnExactWheelStopx4
import Derived.Test.YtigoajblljolcaaXFnExactWheelStopx5
import Derived.Test.YtigoajblljolcaaXFnExactWheelStopx6
import Derived.Test.YtigoajblljolcaaXFnExactWheelStopx7
import Derived.Test.YtigoajblljolcaaXFnExactWheelStopx8
namespace Go.Proofs.Ytigoajblljolcaa.XFnExactWheelStop
open Go.RowKit Go.Proofs.YtigoajblljolcaaW.PrintWords Go.Proofs.YtigoajblljolcaaW.PrintLast Go.Proofs.YtigoajblljolcaaW.PrintMore
attribute [local go_sem] max2_int min2_int max_two min_two max_three min_three max_four min_four   -- for this text's walks alone
set_option linter.unusedVariables false
set_option linter.unusedSimpArgs false

end Go.Proofs.Ytigoajblljolcaa.XFnExactWheelStop
