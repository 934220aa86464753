-- Written by this session's own program (xprint.py) over the kit's print.
import Derived.Test.YtgkoinnjpcpccaaXFnChecksx0
import Derived.Test.YtgkoinnjpcpccaaXFnChecksx1
import Derived.Test.YtgkoinnjpcpccaaXFnChecksx2
import Derived.Test.YtgkoinnjpcpccaaXFnChecksx3
import Derived.Test.YtgkoinnjpcpccaaXFnChecksx4
import Derived.Test.YtgkoinnjpcpccaaXFnChecksx5
import Derived.Test.YtgkoinnjpcpccaaXFnChecksx6
import Derived.Test.YtgkoinnjpcpccaaXFnChecksx7
import Derived.Test.YtgkoinnjpcpccaaXFnChecksx8
import Derived.Test.YtgkoinnjpcpccaaXFnChecksx9
namespace Go.Proofs.Ytgkoinnjpcpccaa.XFnChecks
open Go.RowKit Go.Proofs.YtgkoinnjpcpccaaW.PrintWords Go.Proofs.YtgkoinnjpcpccaaW.PrintLast Go.Proofs.YtgkoinnjpcpccaaW.PrintMore
attribute [local go_sem] max2_int min2_int max_two min_two max_three min_three max_four min_four   -- for this text's walks alone
set_option linter.unusedVariables false
set_option linter.unusedSimpArgs false

end Go.Proofs.Ytgkoinnjpcpccaa.XFnChecks
