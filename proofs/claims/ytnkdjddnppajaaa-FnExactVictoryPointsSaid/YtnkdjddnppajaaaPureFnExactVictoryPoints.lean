/- The program's VictoryPoints returns what the reference's returns, for all arguments: no condition. -/
import Derived.Test.YtnkdjddnppajaaaPFnExactVictoryPointsx1
import Derived.Test.YtnkdjddnppajaaaVpFnExactVictoryPoints
namespace Go.Proofs.Ytnkdjddnppajaaa.Pure
open Go.RowKit Go.Proofs.Ytnkdjddnppajaaa.PFnExactVictoryPoints Go.Proofs.YtnkdjddnppajaaaW.PrintWords Go.Proofs.YtnkdjddnppajaaaW.PrintLast Go.Proofs.Ytnkdjddnppajaaa.Lib

theorem FnExactVictoryPoints : laws_FnExactVictoryPoints.Pure := by
  intro x b _ _
  refine ev_true (Ev.bind (spec_vp x b) (Ev.bind (impl_vp x b) ?_))
  exact ev_if_pos rfl (ev_if_pos rfl (ev_if_pos rfl (Ev.now _)))

end Go.Proofs.Ytnkdjddnppajaaa.Pure
