-- Written by this session's own program (xprint.py) over the kit's print.
import Derived.Test.YtkeplodbjldaiaaXFnExactLocalOkx0
import Derived.Test.YtkeplodbjldaiaaXFnExactLocalOkx1
import Derived.Test.YtkeplodbjldaiaaXFnExactLocalOkx2
import Derived.Test.YtkeplodbjldaiaaXFnExactLocalOkx3
import Derived.Test.YtkeplodbjldaiaaXFnExactLocalOkx4
import Derived.Test.YtkeplodbjldaiaaXFnExactLocalOkx5
import Derived.Test.YtkeplodbjldaiaaXFnExactLocalOkx6
import Derived.Test.YtkeplodbjldaiaaXFnExactLocalOkx7
import Derived.Test.YtkeplodbjldaiaaXFnExactLocalOkx8
namespace Go.Proofs.Ytkeplodbjldaiaa.XFnExactLocalOk
open Go.RowKit Go.Proofs.YtkeplodbjldaiaaW.PrintWords Go.Proofs.YtkeplodbjldaiaaW.PrintLast Go.Proofs.YtkeplodbjldaiaaW.PrintMore
attribute [local go_sem] max2_int min2_int max_two min_two max_three min_three max_four min_four   -- for this text's walks alone
set_option linter.unusedVariables false
set_option linter.unusedSimpArgs false

end Go.Proofs.Ytkeplodbjldaiaa.XFnExactLocalOk
