/- The pure statement of the law FnExactCompareFractions: about whole numbers and lists alone. -/
import Derived.Test.YtnkdjddnppajaaaQFnExactCompareFractionsx3
import Derived.Test.YtnkdjddnppajaaaOpen
namespace Go.Proofs.Ytnkdjddnppajaaa.QFnExactCompareFractions
open Go.RowKit Go.Proofs.YtnkdjddnppajaaaW.PrintWords Go.Proofs.YtnkdjddnppajaaaW.PrintLast Go.Proofs.YtnkdjddnppajaaaW.PrintMore
def laws_FnExactCompareFractions.Pure : Prop := ∀ (a0_0 : Int) (a0_1 : Int) (a1_0 : Int) (a1_1 : Int), (Lit.int .i64 a0_0).wf = true → (Lit.int .i64 a0_1).wf = true → (Lit.int .i64 a1_0).wf = true → (Lit.int .i64 a1_1).wf = true → ∃ k, laws_FnExactCompareFractions.f k a0_0 a0_1 a1_0 a1_1 = some true
end Go.Proofs.Ytnkdjddnppajaaa.QFnExactCompareFractions
