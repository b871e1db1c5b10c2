/- Words of the print that this seat's texts use: lemmas on memory, rows and rounds, of no program. No condition. -/
import Derived.Test.YtakepkjcmgcepaaWWords
import Derived.Laws.StructEq
namespace Go.Proofs.YtakepkjcmgcepaaW.PrintWords
open Go.RowKit
section
variable {P : Program} {d : Nat} {xs ys : Array Value} {f : Field} {fs : List Field} {a b : Value} {r s : Bool} {w : World}
end
end Go.Proofs.YtakepkjcmgcepaaW.PrintWords
