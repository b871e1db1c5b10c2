/- The functions that the law FnFractions reaches, as plain functions, and the walks that show that the machine's calls answer so. Written by a program of this session (wip/myprint.py) on the kit's print. -/
import Derived.Test.YtnkdjddnppajaaaQFnFractionsx0
import Derived.Test.YtnkdjddnppajaaaQFnFractionsx1
import Derived.Test.YtnkdjddnppajaaaQFnFractionsx2
import Derived.Test.YtnkdjddnppajaaaQFnFractionsx3
import Derived.Test.YtnkdjddnppajaaaQFnFractionsx4
import Derived.Test.YtnkdjddnppajaaaQFnFractionsx5
import Derived.Test.YtnkdjddnppajaaaQFnFractionsx6
namespace Go.Proofs.Ytnkdjddnppajaaa.QFnFractions
open Go.RowKit Go.Proofs.YtnkdjddnppajaaaW.PrintWords Go.Proofs.YtnkdjddnppajaaaW.PrintLast Go.Proofs.YtnkdjddnppajaaaW.PrintMore
attribute [local go_sem] max2_int min2_int max_two min_two max_three min_three max_four min_four   -- for this text's walks alone
set_option linter.unusedVariables false
set_option linter.unusedSimpArgs false

end Go.Proofs.Ytnkdjddnppajaaa.QFnFractions
