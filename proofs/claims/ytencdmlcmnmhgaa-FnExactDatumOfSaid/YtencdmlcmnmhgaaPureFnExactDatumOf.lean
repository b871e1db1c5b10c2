/- The program's DatumOf returns what the reference's returns and leaves its arguments alone: for all arguments, no condition. -/
import Derived.Test.YtencdmlcmnmhgaaDatumIFnExactDatumOf
import Derived.Test.YtencdmlcmnmhgaaUtilAFnExactDatumOf
namespace Go.Proofs.Ytencdmlcmnmhgaa.Pure
open Go.RowKit Go.Proofs.Ytencdmlcmnmhgaa.QFnExactDatumOf Go.Proofs.YtencdmlcmnmhgaaW.PrintWords Go.Proofs.YtencdmlcmnmhgaaW.PrintLast Go.Proofs.Ytencdmlcmnmhgaa.Lib

theorem FnExactDatumOf : laws_FnExactDatumOf.Pure := by
  intro l a _ _ _ _
  by_cases ha : (l.length : Int) > 1048576
  · exact ev_true (ev_if_pos ha (Ev.now _))
  · have hs := spec_datum l a (by omega)
    have hi := impl_datum l a
    generalize datum l a = r at hs hi
    have e : (r.2 != r.2) = false := by simp
    refine ev_true (ev_if_neg ha ?_)
    refine Ev.bind (toI l (by omega)) (Ev.bind hs (Ev.bind (toI l (by omega)) (Ev.bind hi (ev_if_pos rfl ?_))))
    rw [e]
    refine Ev.step (fun k => by simp only [laws_FnExactDatumOf.j0]; rw [if_neg (by simp)]) ?_
    exact Ev.bind (toI l (by omega)) (Ev.bind (eqI_same _ (by omega)) (ev_if_pos rfl (Ev.now _)))
end Go.Proofs.Ytencdmlcmnmhgaa.Pure
