/- The pure statement of the law FnExactIsPlay: about whole numbers and lists alone. -/
import Derived.Test.YtakepkjcmgcepaaQFnExactIsPlayx11
import Derived.Test.YtakepkjcmgcepaaOpen
namespace Go.Proofs.Ytakepkjcmgcepaa.QFnExactIsPlay
open Go.RowKit Go.Proofs.YtakepkjcmgcepaaW.PrintWords Go.Proofs.YtakepkjcmgcepaaW.PrintLast Go.Proofs.YtakepkjcmgcepaaW.PrintMore
def laws_FnExactIsPlay.Pure : Prop := ∀ (l0_0 : List (List Int)) (a1_0 : Int) (a1_1 : Int) (l1_2 : List Int), Open.SliceB (Open.SliceB (fun a => (Lit.int .i64 a).wf = true)) l0_0 → (Lit.int .i64 a1_0).wf = true → (Lit.int .i64 a1_1).wf = true → Open.SliceB (fun a => (Lit.int .i64 a).wf = true) l1_2 → ∃ k, laws_FnExactIsPlay.f k l0_0 a1_0 a1_1 l1_2 = some true
end Go.Proofs.Ytakepkjcmgcepaa.QFnExactIsPlay
