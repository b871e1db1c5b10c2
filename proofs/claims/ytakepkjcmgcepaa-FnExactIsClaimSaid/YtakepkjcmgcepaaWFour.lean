/- Words of the print that this seat's texts use: lemmas on memory, rows and rounds, of no program. No condition. -/
import Derived.Test.YtakepkjcmgcepaaWTab
namespace Go.Proofs.YtakepkjcmgcepaaW.PrintLast
section
variable {P : Program} {ops : Array Oper} {Q : Exit → Act → World → Prop} {md : Region.Mode} {S : World → Prop} {ds : List Nat} {T : Bool × List (List Nat × List Nat)}
end
end Go.Proofs.YtakepkjcmgcepaaW.PrintLast
