/- The pure statement of the law FnExactAddFractions: about whole numbers and lists alone. -/
import Derived.Test.YtnkdjddnppajaaaQFnExactAddFractionsx4
import Derived.Test.YtnkdjddnppajaaaOpen
namespace Go.Proofs.Ytnkdjddnppajaaa.QFnExactAddFractions
open Go.RowKit Go.Proofs.YtnkdjddnppajaaaW.PrintWords Go.Proofs.YtnkdjddnppajaaaW.PrintLast Go.Proofs.YtnkdjddnppajaaaW.PrintMore
def laws_FnExactAddFractions.Pure : Prop := ∀ (a0_0 : Int) (a0_1 : Int) (a1_0 : Int) (a1_1 : Int), (Lit.int .i64 a0_0).wf = true → (Lit.int .i64 a0_1).wf = true → (Lit.int .i64 a1_0).wf = true → (Lit.int .i64 a1_1).wf = true → ∃ k, laws_FnExactAddFractions.f k a0_0 a0_1 a1_0 a1_1 = some true
end Go.Proofs.Ytnkdjddnppajaaa.QFnExactAddFractions
