/- The functions that the law FnExactTrickLeaders reaches, as plain functions, and the walks that show that the machine's calls answer so. Written by a program of this session (wip/myprint.py) on the kit's print. -/
import Derived.Test.YtakepkjcmgcepaaQFnExactTrickLeadersx0
import Derived.Test.YtakepkjcmgcepaaQFnExactTrickLeadersx1
import Derived.Test.YtakepkjcmgcepaaQFnExactTrickLeadersx2
import Derived.Test.YtakepkjcmgcepaaQFnExactTrickLeadersx3
import Derived.Test.YtakepkjcmgcepaaQFnExactTrickLeadersx4
namespace Go.Proofs.Ytakepkjcmgcepaa.QFnExactTrickLeaders
open Go.RowKit Go.Proofs.YtakepkjcmgcepaaW.PrintWords Go.Proofs.YtakepkjcmgcepaaW.PrintLast Go.Proofs.YtakepkjcmgcepaaW.PrintMore
attribute [local go_sem] max2_int min2_int max_two min_two max_three min_three max_four min_four   -- for this text's walks alone
set_option linter.unusedVariables false
set_option linter.unusedSimpArgs false

end Go.Proofs.Ytakepkjcmgcepaa.QFnExactTrickLeaders
