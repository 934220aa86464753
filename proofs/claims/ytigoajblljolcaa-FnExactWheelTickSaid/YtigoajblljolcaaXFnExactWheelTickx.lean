-- Written by this session's own program (xprint.py) over the kit's print.
import Derived.Test.YtigoajblljolcaaXFnExactWheelTickx0
import Derived.Test.YtigoajblljolcaaXFnExactWheelTickx1
import Derived.Test.YtigoajblljolcaaXFnExactWheelTickx2
import Derived.Test.YtigoajblljolcaaXFnExactWheelTickx3
import Derived.Test.YtigoajblljolcaaXFnExactWheelTickx4
import Derived.Test.YtigoajblljolcaaXFnExactWheelTickx5
import Derived.Test.YtigoajblljolcaaXFnExactWheelTickx6
import Derived.Test.YtigoajblljolcaaXFnExactWheelTickx7
import Derived.Test.YtigoajblljolcaaXFnExactWheelTickx8
namespace Go.Proofs.Ytigoajblljolcaa.XFnExactWheelTick
open Go.RowKit Go.Proofs.YtigoajblljolcaaW.PrintWords Go.Proofs.YtigoajblljolcaaW.PrintLast Go.Proofs.YtigoajblljolcaaW.PrintMore
attribute [local go_sem] max2_int min2_int max_two min_two max_three min_three max_four min_four   -- for this text's walks alone
set_option linter.unusedVariables false
set_option linter.unusedSimpArgs false

end Go.Proofs.Ytigoajblljolcaa.XFnExactWheelTick
