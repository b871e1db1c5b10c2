/- The functions that the law FnExactButlerImps reaches, as plain functions, and the walks that show that the machine's calls answer so. Written by a program of this session (wip/myprint.py) on the kit's print. -/
import Derived.Test.YtencdmlcmnmhgaaProg
import Derived.Below
import Derived.Deep.Draws
import Derived.Deep.AppendLies
import Derived.Maps.AppendAt
import Derived.OwnWalk
import Derived.Laws.BytesArg
import Derived.Laws.MakeOwn
import Derived.Laws.OwnMore
import Derived.Deep.OwnRows
import Derived.Tactics
import Derived.Lib.ConvBytes
import Derived.Laws.Slices
import Derived.WalkKit
import Derived.KernelRfl
import Derived.RowKit3
import Derived.Deep.LoopGhost
import Derived.Deep.QuietTactic
import Derived.BigQuiet
import Derived.WideLaws
import Derived.Deep.DeepCutAuto
import Derived.Deep.CutBlock
import Derived.Deep.RegionHeld3
import Derived.Laws.Rows
import Derived.Lib.AppendStr
import Derived.ArgAppend
import Derived.Laws.IdiomCopy
import Derived.OrdersHeld
import Derived.Laws.BitsLemmas
import Derived.RowKit
import Derived.Shelf.Abstract
import Derived.Lib.LazyBuf
import Derived.Test.YtencdmlcmnmhgaaWWords
import Derived.Test.YtencdmlcmnmhgaaWLast
import Derived.Test.YtencdmlcmnmhgaaWTab
import Derived.Test.YtencdmlcmnmhgaaWFour
import Derived.Test.YtencdmlcmnmhgaaWQPut
import Derived.Test.YtencdmlcmnmhgaaWApart
import Derived.Test.YtencdmlcmnmhgaaWArr
import Derived.Test.YtencdmlcmnmhgaaWZeros
import Derived.Test.YtencdmlcmnmhgaaWFoot
import Derived.Test.YtencdmlcmnmhgaaWKept
import Derived.Test.YtencdmlcmnmhgaaWShare
import Derived.Test.YtencdmlcmnmhgaaWN
import Derived.Test.YtencdmlcmnmhgaaWFootNe
import Derived.Test.YtencdmlcmnmhgaaWAt
import Derived.Test.YtencdmlcmnmhgaaWEqStruct
import Derived.Test.YtencdmlcmnmhgaaWRepsOne
import Derived.Test.YtencdmlcmnmhgaaWInv
import Derived.Test.YtencdmlcmnmhgaaWInvWords
import Derived.Test.YtencdmlcmnmhgaaWGuard
import Derived.Test.YtencdmlcmnmhgaaWNEv
import Derived.Test.YtencdmlcmnmhgaaWMore
import Derived.Test.YtencdmlcmnmhgaaShelfSort
import Derived.Sort.OwnSortedInts
namespace Go.Proofs.Ytencdmlcmnmhgaa.QFnExactButlerImps
open Go.RowKit Go.Proofs.YtencdmlcmnmhgaaW.PrintWords Go.Proofs.YtencdmlcmnmhgaaW.PrintLast Go.Proofs.YtencdmlcmnmhgaaW.PrintMore
attribute [local go_sem] max2_int min2_int max_two min_two max_three min_three max_four min_four   -- for this text's walks alone
set_option linter.unusedVariables false
set_option linter.unusedSimpArgs false



def errW : Option Int → Value
 | none => .nilIface
 | some c => .iface 0 (.int .i64 c)
theorem errW_none : errW none = .nilIface := rfl
theorem errW_some (c : Int) : errW (some c) = .iface 0 (.int .i64 c) := rfl

theorem info2 : (Try.prog.info? 2).map (fun i => (i.zero, i.size, i.bytes)) = some (some (.int .i64 0), 1, 8) := by kernel_rfl
-- the values' own types

end Go.Proofs.Ytencdmlcmnmhgaa.QFnExactButlerImps
