/- A play is marked. -/
import Derived.Test.YtakepkjcmgcepaaPlayUFnExactTricksOfSides
import Derived.Test.YtakepkjcmgcepaaUtilBFnExactTricksOfSides
namespace Go.Proofs.Ytakepkjcmgcepaa.QFnExactTricksOfSides
open Go.RowKit Go.Proofs.YtakepkjcmgcepaaW.PrintWords Go.Proofs.YtakepkjcmgcepaaW.PrintLast Go.Proofs.YtakepkjcmgcepaaW.PrintMore Go.Proofs.Ytakepkjcmgcepaa.Lib
theorem markPlay_eq (a b : Int) (l : List Int) (hl : l.length ≤ 1048576) : Ev (fun k => laws_markPlay.f k a b l 1) ((1 : Int) + l.length, iota 1 l.length) :=
  Ev.bind (markI l 1 (by omega) (by omega) (by omega)) (Ev.now _)
end Go.Proofs.Ytakepkjcmgcepaa.QFnExactTricksOfSides
