-- Written by this session's own program (xprint.py) over the kit's print.
import Derived.Test.YtpoedoefbeabkaaXFnRoundsx0
import Derived.Test.YtpoedoefbeabkaaXFnRoundsx1
import Derived.Test.YtpoedoefbeabkaaXFnRoundsx2
import Derived.Test.YtpoedoefbeabkaaXFnRoundsx3
import Derived.Test.YtpoedoefbeabkaaXFnRoundsx4
import Derived.Test.YtpoedoefbeabkaaXFnRoundsx5
import Derived.Test.YtpoedoefbeabkaaXFnRoundsx6
import Derived.Test.YtpoedoefbeabkaaXFnRoundsx7
import Derived.Test.YtpoedoefbeabkaaXFnRoundsx8
import Derived.Test.YtpoedoefbeabkaaXFnRoundsx9
import Derived.Test.YtpoedoefbeabkaaXFnRoundsx10
import Derived.Test.YtpoedoefbeabkaaXFnRoundsx11
import Derived.Test.YtpoedoefbeabkaaXFnRoundsx12
import Derived.Test.YtpoedoefbeabkaaXFnRoundsx13
import Derived.Test.YtpoedoefbeabkaaXFnRoundsx14
import Derived.Test.YtpoedoefbeabkaaXFnRoundsx15
namespace Go.Proofs.Ytpoedoefbeabkaa.XFnRounds
open Go.RowKit Go.Proofs.YtpoedoefbeabkaaW.PrintWords Go.Proofs.YtpoedoefbeabkaaW.PrintLast Go.Proofs.YtpoedoefbeabkaaW.PrintMore
attribute [local go_sem] max2_int min2_int max_two min_two max_three min_three max_four min_four   -- for this text's walks alone
set_option linter.unusedVariables false
set_option linter.unusedSimpArgs false

end Go.Proofs.Ytpoedoefbeabkaa.XFnRounds
