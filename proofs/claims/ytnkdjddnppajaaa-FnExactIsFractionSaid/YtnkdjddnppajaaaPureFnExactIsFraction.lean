/- The program's IsFraction returns what the reference's returns, for every fraction: no condition. -/
import Derived.Test.YtnkdjddnppajaaaSayFnExactIsFraction
import Derived.Test.YtnkdjddnppajaaaFracAFnExactIsFraction
namespace Go.Proofs.Ytnkdjddnppajaaa.Pure
open Go.RowKit Go.Proofs.Ytnkdjddnppajaaa.QFnExactIsFraction Go.Proofs.YtnkdjddnppajaaaW.PrintWords Go.Proofs.YtnkdjddnppajaaaW.PrintLast Go.Proofs.Ytnkdjddnppajaaa.Lib

theorem FnExactIsFraction : laws_FnExactIsFraction.Pure := by
  intro n d _ _
  refine ev_true (ev_pure rfl (Ev.bind (spec_isFrac n d) (ev_pure rfl (Ev.bind (impl_isFrac n d) ?_))))
  exact Ev.congr (fun _ => by simp) (Ev.now _)

end Go.Proofs.Ytnkdjddnppajaaa.Pure
