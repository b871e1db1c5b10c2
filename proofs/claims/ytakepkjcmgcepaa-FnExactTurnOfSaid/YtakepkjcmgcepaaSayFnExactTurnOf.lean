/- The pure statement of the law FnExactTurnOf: about whole numbers and lists alone. -/
import Derived.Test.YtakepkjcmgcepaaQFnExactTurnOfx11
import Derived.Test.YtakepkjcmgcepaaOpen
namespace Go.Proofs.Ytakepkjcmgcepaa.QFnExactTurnOf
open Go.RowKit Go.Proofs.YtakepkjcmgcepaaW.PrintWords Go.Proofs.YtakepkjcmgcepaaW.PrintLast Go.Proofs.YtakepkjcmgcepaaW.PrintMore
def laws_FnExactTurnOf.Pure : Prop := ∀ (l0_0 : List (List Int)) (a1_0 : Int) (a1_1 : Int) (l1_2 : List Int), Open.SliceB (Open.SliceB (fun a => (Lit.int .i64 a).wf = true)) l0_0 → (Lit.int .i64 a1_0).wf = true → (Lit.int .i64 a1_1).wf = true → Open.SliceB (fun a => (Lit.int .i64 a).wf = true) l1_2 → ∃ k, laws_FnExactTurnOf.f k l0_0 a1_0 a1_1 l1_2 = some true
end Go.Proofs.Ytakepkjcmgcepaa.QFnExactTurnOf
