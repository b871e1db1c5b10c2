/- Words of the print that this seat's texts use: lemmas on memory, rows and rounds, of no program. No condition. -/
import Derived.Test.YtakepkjcmgcepaaWInv
import Derived.Test.YtakepkjcmgcepaaWFootNe
namespace Go.Proofs.YtakepkjcmgcepaaW.PrintWords
open Go.RowKit
end Go.Proofs.YtakepkjcmgcepaaW.PrintWords
namespace Go.Proofs.YtakepkjcmgcepaaW.PrintLast
section
variable {ops : Array Oper} {a : Act} {o og : Oper} {g : Nat} {t : Tmp} {u : Bool}
end
end Go.Proofs.YtakepkjcmgcepaaW.PrintLast
