/- Both tests of a match are one test. -/
import Derived.Test.YtencdmlcmnmhgaaScoresFnExactMatchImps
namespace Go.Proofs.Ytencdmlcmnmhgaa.QFnExactMatchImps
open Go.RowKit Go.Proofs.YtencdmlcmnmhgaaW.PrintWords Go.Proofs.YtencdmlcmnmhgaaW.PrintLast Go.Proofs.YtencdmlcmnmhgaaW.PrintMore Go.Proofs.Ytencdmlcmnmhgaa.Lib

/-- Are these two lists a match? -/
def isM (a b : List Int) : Bool := scores 100 a && (scores 100 b && decide (a.length = b.length))
theorem isM_iff (a b : List Int) : isM a b = true ↔ scores 100 a = true ∧ scores 100 b = true ∧ a.length = b.length := by
  simp [isM]
theorem len_beq (a b : List Int) : ((a.length : Int) == (b.length : Int)) = decide (a.length = b.length) := by
  rw [Bool.eq_iff_iff]; simp; omega

theorem impl_match (a b : List Int) : impl_isMatch.f a b = some (isM a b) := by
  simp only [impl_isMatch.f, impl_scores, Option.bind_some, isM, len_beq]
  cases scores 100 a <;> cases scores 100 b <;> simp

theorem spec_match (a b : List Int) (ha : a.length ≤ 1099511627776) (hb : b.length ≤ 1099511627776) : Ev (fun k => spec_l13Match.f k a b) (isM a b) := by
  refine Ev.bind (spec_scores a ha) ?_
  unfold isM
  cases h : scores 100 a with
  | true =>
    refine ev_if_pos rfl (Ev.bind (spec_scores b hb) ?_)
    cases g : scores 100 b with
    | true => exact ev_if_pos rfl (ev_one (by rw [len_beq]; simp))
    | false => exact ev_if_neg (by simp) (Ev.now _)
  | false => exact ev_if_neg (by simp) (Ev.now _)

end Go.Proofs.Ytencdmlcmnmhgaa.QFnExactMatchImps
