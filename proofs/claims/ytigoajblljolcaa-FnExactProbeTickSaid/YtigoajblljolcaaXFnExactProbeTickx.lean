-- Written by this session's own program (xprint.py) over the kit's print.
import Derived.Test.YtigoajblljolcaaXFnExactProbeTickx0
import Derived.Test.YtigoajblljolcaaXFnExactProbeTickx1
import Derived.Test.YtigoajblljolcaaXFnExactProbeTickx2
import Derived.Test.YtigoajblljolcaaXFnExactProbeTickx3
import Derived.Test.YtigoajblljolcaaXFnExactProbeTickx4
import Derived.Test.YtigoajblljolcaaXFnExactProbeTickx5
import Derived.Test.YtigoajblljolcaaXFnExactProbeTickx6
import Derived.Test.YtigoajblljolcaaXFnExactProbeTickx7
import Derived.Test.YtigoajblljolcaaXFnExactProbeTickx8
import Derived.Test.YtigoajblljolcaaXFnExactProbeTickx9
import Derived.Test.YtigoajblljolcaaXFnExactProbeTickx10
import Derived.Test.YtigoajblljolcaaXFnExactProbeTickx11
import Derived.Test.YtigoajblljolcaaXFnExactProbeTickx12
import Derived.Test.YtigoajblljolcaaXFnExactProbeTickx13
namespace Go.Proofs.Ytigoajblljolcaa.XFnExactProbeTick
open Go.RowKit Go.Proofs.YtigoajblljolcaaW.PrintWords Go.Proofs.YtigoajblljolcaaW.PrintLast Go.Proofs.YtigoajblljolcaaW.PrintMore
attribute [local go_sem] max2_int min2_int max_two min_two max_three min_three max_four min_four   -- for this text's walks alone
set_option linter.unusedVariables false
set_option linter.unusedSimpArgs false

end Go.Proofs.Ytigoajblljolcaa.XFnExactProbeTick
