-- Written by this session's own program (xprint.py) over the kit's print.
import Derived.Test.YtigoajblljolcaaXFnExactLeavex0
import Derived.Test.YtigoajblljolcaaXFnExactLeavex1
import Derived.Test.YtigoajblljolcaaXFnExactLeavex2
import Derived.Test.YtigoajblljolcaaXFnExactLeavex3
import Derived.Test.YtigoajblljolcaaXFnExactLeavex4
import Derived.Test.YtigoajblljolcaaXFnExactLeavex5
import Derived.Test.YtigoajblljolcaaXFnExactLeavex6
import Derived.Test.YtigoajblljolcaaXFnExactLeavex7
namespace Go.Proofs.Ytigoajblljolcaa.XFnExactLeave
open Go.RowKit Go.Proofs.YtigoajblljolcaaW.PrintWords Go.Proofs.YtigoajblljolcaaW.PrintLast Go.Proofs.YtigoajblljolcaaW.PrintMore
attribute [local go_sem] max2_int min2_int max_two min_two max_three min_three max_four min_four   -- for this text's walks alone
set_option linter.unusedVariables false
set_option linter.unusedSimpArgs false

end Go.Proofs.Ytigoajblljolcaa.XFnExactLeave
