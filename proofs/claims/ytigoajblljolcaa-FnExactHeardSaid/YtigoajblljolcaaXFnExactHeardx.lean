-- Written by this session's own program (xprint.py) over the kit's print.
import Derived.Test.YtigoajblljolcaaXFnExactHeardx0
import Derived.Test.YtigoajblljolcaaXFnExactHeardx1
import Derived.Test.YtigoajblljolcaaXFnExactHeardx2
import Derived.Test.YtigoajblljolcaaXFnExactHeardx3
import Derived.Test.YtigoajblljolcaaXFnExactHeardx4
import Derived.Test.YtigoajblljolcaaXFnExactHeardx5
import Derived.Test.YtigoajblljolcaaXFnExactHeardx6
import Derived.Test.YtigoajblljolcaaXFnExactHeardx7
import Derived.Test.YtigoajblljolcaaXFnExactHeardx8
import Derived.Test.YtigoajblljolcaaXFnExactHeardx9
namespace Go.Proofs.Ytigoajblljolcaa.XFnExactHeard
open Go.RowKit Go.Proofs.YtigoajblljolcaaW.PrintWords Go.Proofs.YtigoajblljolcaaW.PrintLast Go.Proofs.YtigoajblljolcaaW.PrintMore
attribute [local go_sem] max2_int min2_int max_two min_two max_three min_three max_four min_four   -- for this text's walks alone
set_option linter.unusedVariables false
set_option linter.unusedSimpArgs false

end Go.Proofs.Ytigoajblljolcaa.XFnExactHeard
