/- Words of the print that this seat's texts use: lemmas on memory, rows and rounds, of no program. No condition. -/
import Derived.Test.YtakepkjcmgcepaaWN
namespace Go.Proofs.YtakepkjcmgcepaaW.PrintWords
open Go.RowKit
namespace Kd
section
variable {α : Type} {d : Kd α} {W : World} {g n : Nat} {S ok : Nat → Prop} {A : Option Addr} {ad : Addr} {xs : List α}
end
end Kd
end Go.Proofs.YtakepkjcmgcepaaW.PrintWords
