/- The program's AddFractions returns what the reference's returns, for all arguments: no condition. -/
import Derived.Test.YtnkdjddnppajaaaAddFnExactAddFractions
import Derived.Test.YtnkdjddnppajaaaSayFnExactAddFractions
namespace Go.Proofs.Ytnkdjddnppajaaa.Pure
open Go.RowKit Go.Proofs.Ytnkdjddnppajaaa.QFnExactAddFractions Go.Proofs.YtnkdjddnppajaaaW.PrintWords Go.Proofs.YtnkdjddnppajaaaW.PrintLast Go.Proofs.Ytnkdjddnppajaaa.Lib

theorem FnExactAddFractions : laws_FnExactAddFractions.Pure := by
  intro a b c d _ _ _ _
  refine ev_true (ev_pure rfl (ev_pure rfl (Ev.bind (spec_add a b c d) (ev_pure rfl (ev_pure rfl (Ev.bind (impl_add a b c d) ?_))))))
  exact ev_one (by simp [laws_eqFraction.f])

end Go.Proofs.Ytnkdjddnppajaaa.Pure
