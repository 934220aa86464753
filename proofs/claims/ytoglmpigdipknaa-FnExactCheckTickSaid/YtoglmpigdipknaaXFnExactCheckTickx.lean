-- Written by this session's own program (xprint.py) over the kit's print.
import Derived.Test.YtoglmpigdipknaaXFnExactCheckTickx0
import Derived.Test.YtoglmpigdipknaaXFnExactCheckTickx1
import Derived.Test.YtoglmpigdipknaaXFnExactCheckTickx2
import Derived.Test.YtoglmpigdipknaaXFnExactCheckTickx3
import Derived.Test.YtoglmpigdipknaaXFnExactCheckTickx4
import Derived.Test.YtoglmpigdipknaaXFnExactCheckTickx5
import Derived.Test.YtoglmpigdipknaaXFnExactCheckTickx6
import Derived.Test.YtoglmpigdipknaaXFnExactCheckTickx7
namespace Go.Proofs.Ytoglmpigdipknaa.XFnExactCheckTick
open Go.RowKit Go.Proofs.YtoglmpigdipknaaW.PrintWords Go.Proofs.YtoglmpigdipknaaW.PrintLast Go.Proofs.YtoglmpigdipknaaW.PrintMore
attribute [local go_sem] max2_int min2_int max_two min_two max_three min_three max_four min_four   -- for this text's walks alone
set_option linter.unusedVariables false
set_option linter.unusedSimpArgs false

end Go.Proofs.Ytoglmpigdipknaa.XFnExactCheckTick
