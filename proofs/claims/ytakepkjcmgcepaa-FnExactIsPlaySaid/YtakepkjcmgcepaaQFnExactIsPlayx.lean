/- The functions that the law FnExactIsPlay reaches, as plain functions, and the walks that show that the machine's calls answer so. Written by a program of this session (wip/myprint.py) on the kit's print. -/
import Derived.Test.YtakepkjcmgcepaaQFnExactIsPlayx0
import Derived.Test.YtakepkjcmgcepaaQFnExactIsPlayx1
import Derived.Test.YtakepkjcmgcepaaQFnExactIsPlayx2
import Derived.Test.YtakepkjcmgcepaaQFnExactIsPlayx3
import Derived.Test.YtakepkjcmgcepaaQFnExactIsPlayx4
import Derived.Test.YtakepkjcmgcepaaQFnExactIsPlayx5
import Derived.Test.YtakepkjcmgcepaaQFnExactIsPlayx6
import Derived.Test.YtakepkjcmgcepaaQFnExactIsPlayx7
import Derived.Test.YtakepkjcmgcepaaQFnExactIsPlayx8
import Derived.Test.YtakepkjcmgcepaaQFnExactIsPlayx9
import Derived.Test.YtakepkjcmgcepaaQFnExactIsPlayx10
import Derived.Test.YtakepkjcmgcepaaQFnExactIsPlayx11
namespace Go.Proofs.Ytakepkjcmgcepaa.QFnExactIsPlay
open Go.RowKit Go.Proofs.YtakepkjcmgcepaaW.PrintWords Go.Proofs.YtakepkjcmgcepaaW.PrintLast Go.Proofs.YtakepkjcmgcepaaW.PrintMore
attribute [local go_sem] max2_int min2_int max_two min_two max_three min_three max_four min_four   -- for this text's walks alone
set_option linter.unusedVariables false
set_option linter.unusedSimpArgs false

end Go.Proofs.Ytakepkjcmgcepaa.QFnExactIsPlay
