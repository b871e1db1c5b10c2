/- The program's CrossImps returns what the reference's returns, leaves its argument alone, and returns memory of its own: for all arguments, no condition. -/
import Derived.Test.YtencdmlcmnmhgaaCrossFnExactCrossImps
import Derived.Test.YtencdmlcmnmhgaaUtilBFnExactCrossImps
namespace Go.Proofs.Ytencdmlcmnmhgaa.Pure
open Go.RowKit Go.Proofs.Ytencdmlcmnmhgaa.QFnExactCrossImps Go.Proofs.YtencdmlcmnmhgaaW.PrintWords Go.Proofs.YtencdmlcmnmhgaaW.PrintLast Go.Proofs.Ytencdmlcmnmhgaa.Lib

theorem FnExactCrossImps : laws_FnExactCrossImps.Pure := by
  intro a _ _ _
  by_cases ha : (a.length : Int) > 1048576
  · exact ev_true (ev_if_pos ha (Ev.now _))
  · have la : a.length ≤ 1048576 := by omega
    have ll := ci_len a la
    have hs := spec_cross a la
    have hi := impl_cross a
    generalize ci a = r at ll hs hi
    have e : (r.2 != r.2) = false := by simp
    refine ev_true (ev_if_neg ha ?_)
    refine Ev.bind (toI a (by omega)) (Ev.bind hs (Ev.bind (toI a (by omega)) (Ev.bind hi ?_)))
    refine Ev.bind (eqI_same _ (by omega)) (ev_if_pos rfl ?_)
    rw [e]
    refine Ev.step (fun k => by simp only [laws_FnExactCrossImps.j0]; rw [if_neg (by simp)]) ?_
    refine Ev.bind (toI a (by omega)) (Ev.bind (eqI_same _ (by omega)) (ev_if_pos rfl ?_))
    refine Ev.bind (markI a 1 (by omega) (by omega) (by omega)) (ev_if_neg (by simp only; omega) ?_)
    refine Ev.bind (eqI_same _ (by omega)) (ev_if_pos rfl ?_)
    rw [e]
    refine Ev.step (fun k => by simp only [laws_FnExactCrossImps.j1]; rw [if_neg (by simp)]) ?_
    refine Ev.bind (markI r.1 1 (by omega) (by omega) (by omega)) (Ev.bind (heldI 1 r.1.length (by omega) (by omega) (by omega)) (ev_if_neg (by omega) (ev_if_pos rfl ?_)))
    refine Ev.bind (toI a (by omega)) (Ev.bind hi (Ev.bind (eqI_same _ (by omega)) (ev_if_pos rfl ?_)))
    rw [e]
    refine Ev.step (fun k => by simp only [laws_FnExactCrossImps.j2]; rw [if_neg (by simp)]) ?_
    exact Ev.bind (heldI 1 r.1.length (by omega) (by omega) (by omega)) (ev_if_neg (by omega) (ev_if_pos rfl (Ev.now _)))

end Go.Proofs.Ytencdmlcmnmhgaa.Pure
