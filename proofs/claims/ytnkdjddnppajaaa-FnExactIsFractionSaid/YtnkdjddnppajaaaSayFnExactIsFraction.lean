/- The pure statement of the law FnExactIsFraction: about whole numbers and lists alone. -/
import Derived.Test.YtnkdjddnppajaaaQFnExactIsFractionx1
import Derived.Test.YtnkdjddnppajaaaOpen
namespace Go.Proofs.Ytnkdjddnppajaaa.QFnExactIsFraction
open Go.RowKit Go.Proofs.YtnkdjddnppajaaaW.PrintWords Go.Proofs.YtnkdjddnppajaaaW.PrintLast Go.Proofs.YtnkdjddnppajaaaW.PrintMore
def laws_FnExactIsFraction.Pure : Prop := ∀ (a0_0 : Int) (a0_1 : Int), (Lit.int .i64 a0_0).wf = true → (Lit.int .i64 a0_1).wf = true → ∃ k, laws_FnExactIsFraction.f k a0_0 a0_1 = some true
end Go.Proofs.Ytnkdjddnppajaaa.QFnExactIsFraction
