/- The program's ButlerImps returns what the reference's returns, leaves its arguments alone, and shares no memory with them: for all arguments, no condition. -/
import Derived.Test.YtencdmlcmnmhgaaButlerFnExactButlerImps
import Derived.Test.YtencdmlcmnmhgaaUtilBFnExactButlerImps
namespace Go.Proofs.Ytencdmlcmnmhgaa.Pure
open Go.RowKit Go.Proofs.Ytencdmlcmnmhgaa.QFnExactButlerImps Go.Proofs.YtencdmlcmnmhgaaW.PrintWords Go.Proofs.YtencdmlcmnmhgaaW.PrintLast Go.Proofs.Ytencdmlcmnmhgaa.Lib

theorem FnExactButlerImps : laws_FnExactButlerImps.Pure := by
  intro a t _ _ _ _
  by_cases ha : (a.length : Int) > 1048576
  · exact ev_true (ev_if_pos ha (Ev.now _))
  · have la : a.length ≤ 1048576 := by omega
    have ll := butler_len a t la
    have hs := spec_butler a t la
    have hi := impl_butler a t la
    generalize butler a t = r at ll hs hi
    have e : (r.2 != r.2) = false := by simp
    refine ev_true (ev_if_neg ha ?_)
    refine Ev.bind (toI a (by omega)) (Ev.bind hs (Ev.bind (toI a (by omega)) (Ev.bind hi ?_)))
    refine Ev.bind (eqI_same _ (by omega)) (ev_if_pos rfl ?_)
    rw [e]
    refine Ev.step (fun k => by simp only [laws_FnExactButlerImps.j0]; rw [if_neg (by simp)]) ?_
    refine Ev.bind (toI a (by omega)) (Ev.bind (eqI_same _ (by omega)) (ev_if_pos rfl ?_))
    refine Ev.bind (markI a 1 (by omega) (by omega) (by omega)) (ev_if_neg (by simp only; omega) ?_)
    refine Ev.bind (eqI_same _ (by omega)) (ev_if_pos rfl ?_)
    rw [e]
    refine Ev.step (fun k => by simp only [laws_FnExactButlerImps.j1]; rw [if_neg (by simp)]) ?_
    refine Ev.bind (markI r.1 1 (by omega) (by omega) (by omega)) (Ev.bind (heldI 1 r.1.length (by omega) (by omega) (by omega)) (ev_if_neg (by omega) (ev_if_pos rfl ?_)))
    refine Ev.bind (toI a (by omega)) (Ev.bind hi (Ev.bind (eqI_same _ (by omega)) (ev_if_pos rfl ?_)))
    rw [e]
    refine Ev.step (fun k => by simp only [laws_FnExactButlerImps.j2]; rw [if_neg (by simp)]) ?_
    exact Ev.bind (heldI 1 r.1.length (by omega) (by omega) (by omega)) (ev_if_neg (by omega) (ev_if_pos rfl (Ev.now _)))

end Go.Proofs.Ytencdmlcmnmhgaa.Pure
