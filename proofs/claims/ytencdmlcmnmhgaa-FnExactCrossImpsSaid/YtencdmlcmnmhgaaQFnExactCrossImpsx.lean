/- The functions that the law FnExactCrossImps reaches, as plain functions, and the walks that show that the machine's calls answer so. Written by a program of this session (wip/myprint.py) on the kit's print. -/
import Derived.Test.YtencdmlcmnmhgaaQFnExactCrossImpsx0
import Derived.Test.YtencdmlcmnmhgaaQFnExactCrossImpsx1
import Derived.Test.YtencdmlcmnmhgaaQFnExactCrossImpsx2
import Derived.Test.YtencdmlcmnmhgaaQFnExactCrossImpsx3
import Derived.Test.YtencdmlcmnmhgaaQFnExactCrossImpsx4
namespace Go.Proofs.Ytencdmlcmnmhgaa.QFnExactCrossImps
open Go.RowKit Go.Proofs.YtencdmlcmnmhgaaW.PrintWords Go.Proofs.YtencdmlcmnmhgaaW.PrintLast Go.Proofs.YtencdmlcmnmhgaaW.PrintMore
attribute [local go_sem] max2_int min2_int max_two min_two max_three min_three max_four min_four   -- for this text's walks alone
set_option linter.unusedVariables false
set_option linter.unusedSimpArgs false

end Go.Proofs.Ytencdmlcmnmhgaa.QFnExactCrossImps
