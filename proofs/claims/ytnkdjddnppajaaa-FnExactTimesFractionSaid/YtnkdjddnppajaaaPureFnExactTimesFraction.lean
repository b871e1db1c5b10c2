/- The program's TimesFraction returns what the reference's returns, for all arguments: no condition. -/
import Derived.Test.YtnkdjddnppajaaaFracBFnExactTimesFraction
import Derived.Test.YtnkdjddnppajaaaSayFnExactTimesFraction
import Derived.Test.YtnkdjddnppajaaaTimesFnExactTimesFraction
namespace Go.Proofs.Ytnkdjddnppajaaa.Pure
open Go.RowKit Go.Proofs.Ytnkdjddnppajaaa.QFnExactTimesFraction Go.Proofs.YtnkdjddnppajaaaW.PrintWords Go.Proofs.YtnkdjddnppajaaaW.PrintLast Go.Proofs.Ytnkdjddnppajaaa.Lib

theorem FnExactTimesFraction : laws_FnExactTimesFraction.Pure := by
  intro n x y _ _ _
  refine ev_true (ev_pure rfl (Ev.bind (spec_times n x y) (ev_pure rfl (Ev.bind (impl_times n x y) ?_))))
  exact ev_one (by simp [laws_eqFraction.f])

end Go.Proofs.Ytnkdjddnppajaaa.Pure
