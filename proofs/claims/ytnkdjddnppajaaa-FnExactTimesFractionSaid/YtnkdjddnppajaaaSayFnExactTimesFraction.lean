/- The pure statement of the law FnExactTimesFraction: about whole numbers and lists alone. -/
import Derived.Test.YtnkdjddnppajaaaQFnExactTimesFractionx2
import Derived.Test.YtnkdjddnppajaaaOpen
namespace Go.Proofs.Ytnkdjddnppajaaa.QFnExactTimesFraction
open Go.RowKit Go.Proofs.YtnkdjddnppajaaaW.PrintWords Go.Proofs.YtnkdjddnppajaaaW.PrintLast Go.Proofs.YtnkdjddnppajaaaW.PrintMore
def laws_FnExactTimesFraction.Pure : Prop := ∀ (a0 : Int) (a1_0 : Int) (a1_1 : Int), (Lit.int .i64 a0).wf = true → (Lit.int .i64 a1_0).wf = true → (Lit.int .i64 a1_1).wf = true → ∃ k, laws_FnExactTimesFraction.f k a0 a1_0 a1_1 = some true
end Go.Proofs.Ytnkdjddnppajaaa.QFnExactTimesFraction
