/- The functions that the law FnExactIsClaim reaches, as plain functions, and the walks that show that the machine's calls answer so. Written by a program of this session (wip/myprint.py) on the kit's print. -/
import Derived.Test.YtakepkjcmgcepaaQFnExactIsClaimx0
import Derived.Test.YtakepkjcmgcepaaQFnExactIsClaimx1
import Derived.Test.YtakepkjcmgcepaaQFnExactIsClaimx2
import Derived.Test.YtakepkjcmgcepaaQFnExactIsClaimx3
import Derived.Test.YtakepkjcmgcepaaQFnExactIsClaimx4
import Derived.Test.YtakepkjcmgcepaaQFnExactIsClaimx5
import Derived.Test.YtakepkjcmgcepaaQFnExactIsClaimx6
import Derived.Test.YtakepkjcmgcepaaQFnExactIsClaimx7
import Derived.Test.YtakepkjcmgcepaaQFnExactIsClaimx8
import Derived.Test.YtakepkjcmgcepaaQFnExactIsClaimx9
import Derived.Test.YtakepkjcmgcepaaQFnExactIsClaimx10
import Derived.Test.YtakepkjcmgcepaaQFnExactIsClaimx11
import Derived.Test.YtakepkjcmgcepaaQFnExactIsClaimx12
namespace Go.Proofs.Ytakepkjcmgcepaa.QFnExactIsClaim
open Go.RowKit Go.Proofs.YtakepkjcmgcepaaW.PrintWords Go.Proofs.YtakepkjcmgcepaaW.PrintLast Go.Proofs.YtakepkjcmgcepaaW.PrintMore
attribute [local go_sem] max2_int min2_int max_two min_two max_three min_three max_four min_four   -- for this text's walks alone
set_option linter.unusedVariables false
set_option linter.unusedSimpArgs false

end Go.Proofs.Ytakepkjcmgcepaa.QFnExactIsClaim
