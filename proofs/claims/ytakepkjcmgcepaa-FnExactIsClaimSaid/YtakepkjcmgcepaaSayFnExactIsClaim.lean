/- The pure statement of the law FnExactIsClaim: about whole numbers and lists alone. -/
import Derived.Test.YtakepkjcmgcepaaQFnExactIsClaimx12
import Derived.Test.YtakepkjcmgcepaaOpen
namespace Go.Proofs.Ytakepkjcmgcepaa.QFnExactIsClaim
open Go.RowKit Go.Proofs.YtakepkjcmgcepaaW.PrintWords Go.Proofs.YtakepkjcmgcepaaW.PrintLast Go.Proofs.YtakepkjcmgcepaaW.PrintMore
def laws_FnExactIsClaim.Pure : Prop := ∀ (l0_0 : List (List Int)) (a1_0 : Int) (a1_1 : Int) (l1_2 : List Int) (a2_0 : Int) (a2_1 : Int), Open.SliceB (Open.SliceB (fun a => (Lit.int .i64 a).wf = true)) l0_0 → (Lit.int .i64 a1_0).wf = true → (Lit.int .i64 a1_1).wf = true → Open.SliceB (fun a => (Lit.int .i64 a).wf = true) l1_2 → (Lit.int .i64 a2_0).wf = true → (Lit.int .i64 a2_1).wf = true → ∃ k, laws_FnExactIsClaim.f k l0_0 a1_0 a1_1 l1_2 a2_0 a2_1 = some true
end Go.Proofs.Ytakepkjcmgcepaa.QFnExactIsClaim
