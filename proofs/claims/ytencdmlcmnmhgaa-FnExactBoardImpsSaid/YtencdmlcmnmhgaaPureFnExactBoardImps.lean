/- The program's BoardImps returns what the reference's returns, leaves its arguments alone, and returns memory of its own: for all arguments, no condition. -/
import Derived.Test.YtencdmlcmnmhgaaBoardsFnExactBoardImps
import Derived.Test.YtencdmlcmnmhgaaUtilBFnExactBoardImps
namespace Go.Proofs.Ytencdmlcmnmhgaa.QFnExactBoardImps
open Go.RowKit Go.Proofs.YtencdmlcmnmhgaaW.PrintWords Go.Proofs.YtencdmlcmnmhgaaW.PrintLast Go.Proofs.YtencdmlcmnmhgaaW.PrintMore Go.Proofs.Ytencdmlcmnmhgaa.Lib
theorem spec_boards (a b : List Int) (ha : a.length ≤ 1048576) (hb : b.length ≤ 1048576) : Ev (fun k => spec_BoardImps.f k a b) (bi a b) := by
  refine Ev.bind (spec_match a b (by omega) (by omega)) ?_
  unfold bi
  by_cases h : isM a b = true
  · rw [if_pos h]
    exact ev_if_pos h (Ev.bind (spec_l13 a b h) (Ev.now _))
  · rw [if_neg h]
    exact ev_if_neg h (Ev.now _)
theorem bi_len (a b : List Int) (ha : a.length ≤ 1048576) : (bi a b).1.length ≤ 1048576 := by
  unfold bi
  by_cases h : isM a b = true
  · rw [if_pos h]; have := impsOf_len a b; simp only; omega
  · rw [if_neg h]; simp
end Go.Proofs.Ytencdmlcmnmhgaa.QFnExactBoardImps
namespace Go.Proofs.Ytencdmlcmnmhgaa.Pure
open Go.RowKit Go.Proofs.Ytencdmlcmnmhgaa.QFnExactBoardImps Go.Proofs.YtencdmlcmnmhgaaW.PrintWords Go.Proofs.YtencdmlcmnmhgaaW.PrintLast Go.Proofs.Ytencdmlcmnmhgaa.Lib

theorem FnExactBoardImps : laws_FnExactBoardImps.Pure := by
  intro a b _ _ _ _ _ _
  by_cases ha : (a.length : Int) > 1048576
  · exact ev_true (ev_if_pos ha (Ev.now _))
  · by_cases hb : (b.length : Int) > 1048576
    · exact ev_true (ev_if_neg ha (ev_if_pos hb (Ev.now _)))
    · have la : a.length ≤ 1048576 := by omega
      have lb : b.length ≤ 1048576 := by omega
      have ll := bi_len a b la
      have hs := spec_boards a b la lb
      have hi := impl_boards a b
      generalize bi a b = r at ll hs hi
      have e : (r.2 != r.2) = false := by simp
      refine ev_true (ev_if_neg ha (ev_if_neg hb ?_))
      refine Ev.bind (toI a (by omega)) (Ev.bind (toI b (by omega)) (Ev.bind hs (Ev.bind (toI a (by omega)) (Ev.bind (toI b (by omega)) (Ev.bind hi ?_)))))
      refine Ev.bind (eqI_same _ (by omega)) (ev_if_pos rfl ?_)
      rw [e]
      refine Ev.step (fun k => by simp only [laws_FnExactBoardImps.j0]; rw [if_neg (by simp)]) ?_
      refine Ev.bind (toI a (by omega)) (Ev.bind (eqI_same _ (by omega)) (ev_if_pos rfl ?_))
      refine Ev.bind (toI b (by omega)) (Ev.bind (eqI_same _ (by omega)) (ev_if_pos rfl ?_))
      refine Ev.bind (markI a 1 (by omega) (by omega) (by omega)) (Ev.bind (markI b _ (by omega) (by simp only; omega) (by simp only; omega)) (ev_if_neg (by simp only; omega) ?_))
      refine Ev.bind (eqI_same _ (by omega)) (ev_if_pos rfl ?_)
      rw [e]
      refine Ev.step (fun k => by simp only [laws_FnExactBoardImps.j1]; rw [if_neg (by simp)]) ?_
      refine Ev.bind (markI r.1 1 (by omega) (by omega) (by omega)) (Ev.bind (heldI 1 r.1.length (by omega) (by omega) (by omega)) (ev_if_neg (by omega) (ev_if_pos rfl ?_)))
      refine Ev.bind (toI a (by omega)) (Ev.bind (toI b (by omega)) (Ev.bind hi (Ev.bind (eqI_same _ (by omega)) (ev_if_pos rfl ?_))))
      rw [e]
      refine Ev.step (fun k => by simp only [laws_FnExactBoardImps.j2]; rw [if_neg (by simp)]) ?_
      exact Ev.bind (heldI 1 r.1.length (by omega) (by omega) (by omega)) (ev_if_neg (by omega) (ev_if_pos rfl (Ev.now _)))

end Go.Proofs.Ytencdmlcmnmhgaa.Pure
