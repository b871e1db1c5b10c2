/- The functions that the law FnExactTricksOfSides reaches, as plain functions, and the walks that show that the machine's calls answer so. Written by a program of this session (wip/myprint.py) on the kit's print. -/
import Derived.Test.YtakepkjcmgcepaaQFnExactTricksOfSidesx0
import Derived.Test.YtakepkjcmgcepaaQFnExactTricksOfSidesx1
import Derived.Test.YtakepkjcmgcepaaQFnExactTricksOfSidesx2
import Derived.Test.YtakepkjcmgcepaaQFnExactTricksOfSidesx3
import Derived.Test.YtakepkjcmgcepaaQFnExactTricksOfSidesx4
import Derived.Test.YtakepkjcmgcepaaQFnExactTricksOfSidesx5
namespace Go.Proofs.Ytakepkjcmgcepaa.QFnExactTricksOfSides
open Go.RowKit Go.Proofs.YtakepkjcmgcepaaW.PrintWords Go.Proofs.YtakepkjcmgcepaaW.PrintLast Go.Proofs.YtakepkjcmgcepaaW.PrintMore
attribute [local go_sem] max2_int min2_int max_two min_two max_three min_three max_four min_four   -- for this text's walks alone
set_option linter.unusedVariables false
set_option linter.unusedSimpArgs false

end Go.Proofs.Ytakepkjcmgcepaa.QFnExactTricksOfSides
