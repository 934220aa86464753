-- Written by this session's own program (xprint.py) over the kit's print.
import Derived.Test.YtoglmpigdipknaaXFnExactDutyOkx0
import Derived.Test.YtoglmpigdipknaaXFnExactDutyOkx1
import Derived.Test.YtoglmpigdipknaaXFnExactDutyOkx2
import Derived.Test.YtoglmpigdipknaaXFnExactDutyOkx3
import Derived.Test.YtoglmpigdipknaaXFnExactDutyOkx4
import Derived.Test.YtoglmpigdipknaaXFnExactDutyOkx5
import Derived.Test.YtoglmpigdipknaaXFnExactDutyOkx6
namespace Go.Proofs.Ytoglmpigdipknaa.XFnExactDutyOk
open Go.RowKit Go.Proofs.YtoglmpigdipknaaW.PrintWords Go.Proofs.YtoglmpigdipknaaW.PrintLast Go.Proofs.YtoglmpigdipknaaW.PrintMore
attribute [local go_sem] max2_int min2_int max_two min_two max_three min_three max_four min_four   -- for this text's walks alone
set_option linter.unusedVariables false
set_option linter.unusedSimpArgs false

end Go.Proofs.Ytoglmpigdipknaa.XFnExactDutyOk
