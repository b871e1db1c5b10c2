/- The program's MatchImps returns what the reference's returns and leaves its arguments alone: for all arguments, no condition. -/
import Derived.Test.YtencdmlcmnmhgaaMatchesFnExactMatchImps
import Derived.Test.YtencdmlcmnmhgaaUtilAFnExactMatchImps
namespace Go.Proofs.Ytencdmlcmnmhgaa.Pure
open Go.RowKit Go.Proofs.Ytencdmlcmnmhgaa.QFnExactMatchImps Go.Proofs.YtencdmlcmnmhgaaW.PrintWords Go.Proofs.YtencdmlcmnmhgaaW.PrintLast Go.Proofs.Ytencdmlcmnmhgaa.Lib

theorem FnExactMatchImps : laws_FnExactMatchImps.Pure := by
  intro a b _ _ _ _ _ _
  by_cases ha : (a.length : Int) > 1048576
  · exact ev_true (ev_if_pos ha (Ev.now _))
  · by_cases hb : (b.length : Int) > 1048576
    · exact ev_true (ev_if_neg ha (ev_if_pos hb (Ev.now _)))
    · have hs := spec_matches a b (by omega) (by omega)
      have hi := impl_matches a b
      generalize mi a b = r at hs hi
      have e : (r.2 != r.2) = false := by simp
      refine ev_true (ev_if_neg ha (ev_if_neg hb ?_))
      refine Ev.bind (toI a (by omega)) (Ev.bind (toI b (by omega)) (Ev.bind hs (Ev.bind (toI a (by omega)) (Ev.bind (toI b (by omega)) (Ev.bind hi ?_)))))
      refine ev_if_pos rfl ?_
      rw [e]
      refine Ev.step (fun k => by simp only [laws_FnExactMatchImps.j0]; rw [if_neg (by simp)]) ?_
      refine Ev.bind (toI a (by omega)) (Ev.bind (eqI_same _ (by omega)) (ev_if_pos rfl ?_))
      exact Ev.bind (toI b (by omega)) (Ev.bind (eqI_same _ (by omega)) (ev_if_pos rfl (Ev.now _)))

end Go.Proofs.Ytencdmlcmnmhgaa.Pure
