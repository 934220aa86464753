-- Written by this session's own program (xprint.py) over the kit's print.
import Derived.Test.YtigoajblljolcaaXFnExactNextProbex0
import Derived.Test.YtigoajblljolcaaXFnExactNextProbex1
import Derived.Test.YtigoajblljolcaaXFnExactNextProbex2
import Derived.Test.YtigoajblljolcaaXFnExactNextProbex3
import Derived.Test.YtigoajblljolcaaXFnExactNextProbex4
import Derived.Test.YtigoajblljolcaaXFnExactNextProbex5
import Derived.Test.YtigoajblljolcaaXFnExactNextProbex6
import Derived.Test.YtigoajblljolcaaXFnExactNextProbex7
import Derived.Test.YtigoajblljolcaaXFnExactNextProbex8
import Derived.Test.YtigoajblljolcaaXFnExactNextProbex9
import Derived.Test.YtigoajblljolcaaXFnExactNextProbex10
import Derived.Test.YtigoajblljolcaaXFnExactNextProbex11
import Derived.Test.YtigoajblljolcaaXFnExactNextProbex12
namespace Go.Proofs.Ytigoajblljolcaa.XFnExactNextProbe
open Go.RowKit Go.Proofs.YtigoajblljolcaaW.PrintWords Go.Proofs.YtigoajblljolcaaW.PrintLast Go.Proofs.YtigoajblljolcaaW.PrintMore
attribute [local go_sem] max2_int min2_int max_two min_two max_three min_three max_four min_four   -- for this text's walks alone
set_option linter.unusedVariables false
set_option linter.unusedSimpArgs false

end Go.Proofs.Ytigoajblljolcaa.XFnExactNextProbe
