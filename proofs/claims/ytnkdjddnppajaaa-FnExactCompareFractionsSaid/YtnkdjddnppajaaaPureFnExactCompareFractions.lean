/- The program's CompareFractions returns what the reference's returns, for all arguments: no condition. -/
import Derived.Test.YtnkdjddnppajaaaCmpSFnExactCompareFractions
import Derived.Test.YtnkdjddnppajaaaSayFnExactCompareFractions
namespace Go.Proofs.Ytnkdjddnppajaaa.Pure
open Go.RowKit Go.Proofs.Ytnkdjddnppajaaa.QFnExactCompareFractions Go.Proofs.YtnkdjddnppajaaaW.PrintWords Go.Proofs.YtnkdjddnppajaaaW.PrintLast Go.Proofs.Ytnkdjddnppajaaa.Lib

theorem FnExactCompareFractions : laws_FnExactCompareFractions.Pure := by
  intro a b c d _ _ _ _
  refine ev_true (ev_pure rfl (ev_pure rfl (Ev.bind (spec_cmp a b c d) (ev_pure rfl (ev_pure rfl (Ev.bind (impl_cmp a b c d) ?_))))))
  exact ev_one (by simp)

end Go.Proofs.Ytnkdjddnppajaaa.Pure
