-- Written by this session's own program (xprint.py) over the kit's print.
import Derived.Test.YtigoajblljolcaaXFnExactBuryx0
import Derived.Test.YtigoajblljolcaaXFnExactBuryx1
import Derived.Test.YtigoajblljolcaaXFnExactBuryx2
import Derived.Test.YtigoajblljolcaaXFnExactBuryx3
import Derived.Test.YtigoajblljolcaaXFnExactBuryx4
import Derived.Test.YtigoajblljolcaaXFnExactBuryx5
import Derived.Test.YtigoajblljolcaaXFnExactBuryx6
import Derived.Test.YtigoajblljolcaaXFnExactBuryx7
namespace Go.Proofs.Ytigoajblljolcaa.XFnExactBury
open Go.RowKit Go.Proofs.YtigoajblljolcaaW.PrintWords Go.Proofs.YtigoajblljolcaaW.PrintLast Go.Proofs.YtigoajblljolcaaW.PrintMore
attribute [local go_sem] max2_int min2_int max_two min_two max_three min_three max_four min_four   -- for this text's walks alone
set_option linter.unusedVariables false
set_option linter.unusedSimpArgs false

end Go.Proofs.Ytigoajblljolcaa.XFnExactBury
