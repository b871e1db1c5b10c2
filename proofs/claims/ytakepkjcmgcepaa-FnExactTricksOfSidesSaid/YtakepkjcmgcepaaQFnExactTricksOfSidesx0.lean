/- The functions that the law FnExactTricksOfSides reaches, as plain functions, and the walks that show that the machine's calls answer so. Written by a program of this session (wip/myprint.py) on the kit's print. -/
import Derived.Test.YtakepkjcmgcepaaProg
import Derived.Below
import Derived.Deep.Draws
import Derived.Deep.AppendLies
import Derived.Maps.AppendAt
import Derived.OwnWalk
import Derived.Laws.BytesArg
import Derived.Laws.MakeOwn
import Derived.Laws.OwnMore
import Derived.Deep.OwnRows
import Derived.Tactics
import Derived.Lib.ConvBytes
import Derived.Laws.Slices
import Derived.WalkKit
import Derived.KernelRfl
import Derived.RowKit3
import Derived.Deep.LoopGhost
import Derived.Deep.QuietTactic
import Derived.BigQuiet
import Derived.WideLaws
import Derived.Deep.DeepCutAuto
import Derived.Deep.CutBlock
import Derived.Deep.RegionHeld3
import Derived.Laws.Rows
import Derived.Lib.AppendStr
import Derived.ArgAppend
import Derived.Laws.IdiomCopy
import Derived.OrdersHeld
import Derived.Laws.BitsLemmas
import Derived.RowKit
import Derived.Shelf.Abstract
import Derived.Lib.LazyBuf
import Derived.Test.YtakepkjcmgcepaaWWords
import Derived.Test.YtakepkjcmgcepaaWLast
import Derived.Test.YtakepkjcmgcepaaWTab
import Derived.Test.YtakepkjcmgcepaaWFour
import Derived.Test.YtakepkjcmgcepaaWQPut
import Derived.Test.YtakepkjcmgcepaaWApart
import Derived.Test.YtakepkjcmgcepaaWArr
import Derived.Test.YtakepkjcmgcepaaWZeros
import Derived.Test.YtakepkjcmgcepaaWFoot
import Derived.Test.YtakepkjcmgcepaaWKept
import Derived.Test.YtakepkjcmgcepaaWShare
import Derived.Test.YtakepkjcmgcepaaWN
import Derived.Test.YtakepkjcmgcepaaWFootNe
import Derived.Test.YtakepkjcmgcepaaWAt
import Derived.Test.YtakepkjcmgcepaaWEqStruct
import Derived.Test.YtakepkjcmgcepaaWRepsOne
import Derived.Test.YtakepkjcmgcepaaWInv
import Derived.Test.YtakepkjcmgcepaaWInvWords
import Derived.Test.YtakepkjcmgcepaaWGuard
import Derived.Test.YtakepkjcmgcepaaWNEv
import Derived.Test.YtakepkjcmgcepaaWMore
import Derived.Test.YtakepkjcmgcepaaArr52
namespace Go.Proofs.Ytakepkjcmgcepaa.QFnExactTricksOfSides
open Go.RowKit Go.Proofs.YtakepkjcmgcepaaW.PrintWords Go.Proofs.YtakepkjcmgcepaaW.PrintLast Go.Proofs.YtakepkjcmgcepaaW.PrintMore
attribute [local go_sem] max2_int min2_int max_two min_two max_three min_three max_four min_four   -- for this text's walks alone
set_option linter.unusedVariables false
set_option linter.unusedSimpArgs false



def errW : Option Int → Value
 | none => .nilIface
 | some c => .iface 0 (.int .i64 c)
theorem errW_none : errW none = .nilIface := rfl
theorem errW_some (c : Int) : errW (some c) = .iface 0 (.int .i64 c) := rfl

theorem info2 : (Try.prog.info? 2).map (fun i => (i.zero, i.size, i.bytes)) = some (some (.int .i64 0), 1, 8) := by kernel_rfl
-- the values' own types

end Go.Proofs.Ytakepkjcmgcepaa.QFnExactTricksOfSides
