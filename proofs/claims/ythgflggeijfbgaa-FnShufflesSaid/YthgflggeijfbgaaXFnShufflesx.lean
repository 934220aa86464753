-- Written by this session's own program (xprint.py) over the kit's print.
import Derived.Test.YthgflggeijfbgaaXFnShufflesx0
import Derived.Test.YthgflggeijfbgaaXFnShufflesx1
import Derived.Test.YthgflggeijfbgaaXFnShufflesx2
import Derived.Test.YthgflggeijfbgaaXFnShufflesx3
namespace Go.Proofs.Ythgflggeijfbgaa.XFnShuffles
open Go.RowKit Go.Proofs.YthgflggeijfbgaaW.PrintWords Go.Proofs.YthgflggeijfbgaaW.PrintLast Go.Proofs.YthgflggeijfbgaaW.PrintMore
attribute [local go_sem] max2_int min2_int max_two min_two max_three min_three max_four min_four   -- for this text's walks alone
set_option linter.unusedVariables false
set_option linter.unusedSimpArgs false

end Go.Proofs.Ythgflggeijfbgaa.XFnShuffles
