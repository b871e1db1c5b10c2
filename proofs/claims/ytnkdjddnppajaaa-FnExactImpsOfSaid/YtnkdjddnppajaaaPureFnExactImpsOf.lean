/- The program's ImpsOf returns what the reference's returns, for every difference: no condition. -/
import Derived.Test.YtnkdjddnppajaaaPFnExactImpsOfx1
import Derived.Test.YtnkdjddnppajaaaImpsFnExactImpsOf
namespace Go.Proofs.Ytnkdjddnppajaaa.Pure
open Go.RowKit Go.Proofs.Ytnkdjddnppajaaa.PFnExactImpsOf Go.Proofs.YtnkdjddnppajaaaW.PrintWords Go.Proofs.YtnkdjddnppajaaaW.PrintLast Go.Proofs.Ytnkdjddnppajaaa.Lib

theorem FnExactImpsOf : laws_FnExactImpsOf.Pure := by
  intro d _
  refine ev_true (Ev.bind (spec_imps d) (Ev.bind (impl_imps d) ?_))
  exact ev_if_pos rfl (Ev.now _)

end Go.Proofs.Ytnkdjddnppajaaa.Pure
