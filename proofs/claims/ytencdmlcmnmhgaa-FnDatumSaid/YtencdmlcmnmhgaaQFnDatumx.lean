/- The functions that the law FnDatum reaches, as plain functions, and the walks that show that the machine's calls answer so. Written by a program of this session (wip/myprint.py) on the kit's print. -/
import Derived.Test.YtencdmlcmnmhgaaQFnDatumx0
import Derived.Test.YtencdmlcmnmhgaaQFnDatumx1
import Derived.Test.YtencdmlcmnmhgaaQFnDatumx2
import Derived.Test.YtencdmlcmnmhgaaQFnDatumx3
import Derived.Test.YtencdmlcmnmhgaaQFnDatumx4
import Derived.Test.YtencdmlcmnmhgaaQFnDatumx5
import Derived.Test.YtencdmlcmnmhgaaQFnDatumx6
namespace Go.Proofs.Ytencdmlcmnmhgaa.QFnDatum
open Go.RowKit Go.Proofs.YtencdmlcmnmhgaaW.PrintWords Go.Proofs.YtencdmlcmnmhgaaW.PrintLast Go.Proofs.YtencdmlcmnmhgaaW.PrintMore
attribute [local go_sem] max2_int min2_int max_two min_two max_three min_three max_four min_four   -- for this text's walks alone
set_option linter.unusedVariables false
set_option linter.unusedSimpArgs false

end Go.Proofs.Ytencdmlcmnmhgaa.QFnDatum
