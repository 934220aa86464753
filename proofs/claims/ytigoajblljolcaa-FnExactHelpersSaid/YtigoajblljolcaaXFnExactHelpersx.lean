-- Written by this session's own program (xprint.py) over the kit's print.
import Derived.Test.YtigoajblljolcaaXFnExactHelpersx0
import Derived.Test.YtigoajblljolcaaXFnExactHelpersx1
import Derived.Test.YtigoajblljolcaaXFnExactHelpersx2
import Derived.Test.YtigoajblljolcaaXFnExactHelpersx3
import Derived.Test.YtigoajblljolcaaXFnExactHelpersx4
import Derived.Test.YtigoajblljolcaaXFnExactHelpersx5
import Derived.Test.YtigoajblljolcaaXFnExactHelpersx6
import Derived.Test.YtigoajblljolcaaXFnExactHelpersx7
import Derived.Test.YtigoajblljolcaaXFnExactHelpersx8
import Derived.Test.YtigoajblljolcaaXFnExactHelpersx9
import Derived.Test.YtigoajblljolcaaXFnExactHelpersx10
import Derived.Test.YtigoajblljolcaaXFnExactHelpersx11
import Derived.Test.YtigoajblljolcaaXFnExactHelpersx12
namespace Go.Proofs.Ytigoajblljolcaa.XFnExactHelpers
open Go.RowKit Go.Proofs.YtigoajblljolcaaW.PrintWords Go.Proofs.YtigoajblljolcaaW.PrintLast Go.Proofs.YtigoajblljolcaaW.PrintMore
attribute [local go_sem] max2_int min2_int max_two min_two max_three min_three max_four min_four   -- for this text's walks alone
set_option linter.unusedVariables false
set_option linter.unusedSimpArgs false

end Go.Proofs.Ytigoajblljolcaa.XFnExactHelpers
