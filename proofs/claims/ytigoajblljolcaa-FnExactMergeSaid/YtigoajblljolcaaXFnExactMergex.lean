-- Written by this session's own program (xprint.py) over the kit's print.
import Derived.Test.YtigoajblljolcaaXFnExactMergex0
import Derived.Test.YtigoajblljolcaaXFnExactMergex1
import Derived.Test.YtigoajblljolcaaXFnExactMergex2
import Derived.Test.YtigoajblljolcaaXFnExactMergex3
import Derived.Test.YtigoajblljolcaaXFnExactMergex4
import Derived.Test.YtigoajblljolcaaXFnExactMergex5
import Derived.Test.YtigoajblljolcaaXFnExactMergex6
import Derived.Test.YtigoajblljolcaaXFnExactMergex7
import Derived.Test.YtigoajblljolcaaXFnExactMergex8
import Derived.Test.YtigoajblljolcaaXFnExactMergex9
import Derived.Test.YtigoajblljolcaaXFnExactMergex10
namespace Go.Proofs.Ytigoajblljolcaa.XFnExactMerge
open Go.RowKit Go.Proofs.YtigoajblljolcaaW.PrintWords Go.Proofs.YtigoajblljolcaaW.PrintLast Go.Proofs.YtigoajblljolcaaW.PrintMore
attribute [local go_sem] max2_int min2_int max_two min_two max_three min_three max_four min_four   -- for this text's walks alone
set_option linter.unusedVariables false
set_option linter.unusedSimpArgs false

end Go.Proofs.Ytigoajblljolcaa.XFnExactMerge
