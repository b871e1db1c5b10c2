/- The functions that the law FnExactTurnOf reaches, as plain functions, and the walks that show that the machine's calls answer so. Written by a program of this session (wip/myprint.py) on the kit's print. -/
import Derived.Test.YtakepkjcmgcepaaQFnExactTurnOfx0
import Derived.Test.YtakepkjcmgcepaaQFnExactTurnOfx1
import Derived.Test.YtakepkjcmgcepaaQFnExactTurnOfx2
import Derived.Test.YtakepkjcmgcepaaQFnExactTurnOfx3
import Derived.Test.YtakepkjcmgcepaaQFnExactTurnOfx4
import Derived.Test.YtakepkjcmgcepaaQFnExactTurnOfx5
import Derived.Test.YtakepkjcmgcepaaQFnExactTurnOfx6
import Derived.Test.YtakepkjcmgcepaaQFnExactTurnOfx7
import Derived.Test.YtakepkjcmgcepaaQFnExactTurnOfx8
import Derived.Test.YtakepkjcmgcepaaQFnExactTurnOfx9
import Derived.Test.YtakepkjcmgcepaaQFnExactTurnOfx10
import Derived.Test.YtakepkjcmgcepaaQFnExactTurnOfx11
namespace Go.Proofs.Ytakepkjcmgcepaa.QFnExactTurnOf
open Go.RowKit Go.Proofs.YtakepkjcmgcepaaW.PrintWords Go.Proofs.YtakepkjcmgcepaaW.PrintLast Go.Proofs.YtakepkjcmgcepaaW.PrintMore
attribute [local go_sem] max2_int min2_int max_two min_two max_three min_three max_four min_four   -- for this text's walks alone
set_option linter.unusedVariables false
set_option linter.unusedSimpArgs false

end Go.Proofs.Ytakepkjcmgcepaa.QFnExactTurnOf
