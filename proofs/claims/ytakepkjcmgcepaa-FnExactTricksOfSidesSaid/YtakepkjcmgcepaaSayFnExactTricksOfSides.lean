/- The pure statement of the law FnExactTricksOfSides: about whole numbers and lists alone. -/
import Derived.Test.YtakepkjcmgcepaaQFnExactTricksOfSidesx5
import Derived.Test.YtakepkjcmgcepaaOpen
namespace Go.Proofs.Ytakepkjcmgcepaa.QFnExactTricksOfSides
open Go.RowKit Go.Proofs.YtakepkjcmgcepaaW.PrintWords Go.Proofs.YtakepkjcmgcepaaW.PrintLast Go.Proofs.YtakepkjcmgcepaaW.PrintMore
def laws_FnExactTricksOfSides.Pure : Prop := ∀ (a0_0 : Int) (a0_1 : Int) (l0_2 : List Int), (Lit.int .i64 a0_0).wf = true → (Lit.int .i64 a0_1).wf = true → Open.SliceB (fun a => (Lit.int .i64 a).wf = true) l0_2 → ∃ k, laws_FnExactTricksOfSides.f k a0_0 a0_1 l0_2 = some true
end Go.Proofs.Ytakepkjcmgcepaa.QFnExactTricksOfSides
