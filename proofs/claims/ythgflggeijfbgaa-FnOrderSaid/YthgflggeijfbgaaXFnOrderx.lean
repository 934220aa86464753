-- Written by this session's own program (xprint.py) over the kit's print.
import Derived.Test.YthgflggeijfbgaaXFnOrderx0
import Derived.Test.YthgflggeijfbgaaXFnOrderx1
import Derived.Test.YthgflggeijfbgaaXFnOrderx2
import Derived.Test.YthgflggeijfbgaaXFnOrderx3
import Derived.Test.YthgflggeijfbgaaXFnOrderx4
namespace Go.Proofs.Ythgflggeijfbgaa.XFnOrder
open Go.RowKit Go.Proofs.YthgflggeijfbgaaW.PrintWords Go.Proofs.YthgflggeijfbgaaW.PrintLast Go.Proofs.YthgflggeijfbgaaW.PrintMore
attribute [local go_sem] max2_int min2_int max_two min_two max_three min_three max_four min_four   -- for this text's walks alone
set_option linter.unusedVariables false
set_option linter.unusedSimpArgs false

end Go.Proofs.Ythgflggeijfbgaa.XFnOrder
