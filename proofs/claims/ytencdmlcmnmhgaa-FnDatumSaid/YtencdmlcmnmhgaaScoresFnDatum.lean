/- Both tests of a list of team scores are one test. -/
import Derived.Test.YtencdmlcmnmhgaaQFnDatumx
import Derived.Test.YtencdmlcmnmhgaaLib
namespace Go.Proofs.Ytencdmlcmnmhgaa.QFnDatum
open Go.RowKit Go.Proofs.YtencdmlcmnmhgaaW.PrintWords Go.Proofs.YtencdmlcmnmhgaaW.PrintLast Go.Proofs.YtencdmlcmnmhgaaW.PrintMore Go.Proofs.Ytencdmlcmnmhgaa.Lib

theorem impl_scores (l : List Int) : impl_areTeamScores.f l = some (scores 100 l) := rfl

theorem in_sc (x : Int) : spec_l01In.f x (-100000) 100000 = some (sc x) := by
  simp only [spec_l01In.f, sc]
  by_cases h : x ≥ -100000
  · rw [if_pos h]; simp; omega
  · rw [if_neg h]; simp; omega

theorem spec_scores_l0 (l : List Int) (hl : l.length ≤ 1099511627776) : ∀ (m i : Nat), i + m = l.length → Ev (fun k => spec_l13Scores.l0 k l (i : Int)) (decide (l.length ≤ 100) && (l.drop i).all sc) := by
  intro m
  induction m with
  | zero =>
    intro i hi
    rw [List.drop_eq_nil_of_le (by omega)]
    refine Ev.step (fun k => by simp only [spec_l13Scores.l0]; rw [if_neg (by omega)]) (ev_one ?_)
    simp
    omega
  | succ m ih =>
    intro i hi
    rw [drop_rd (by omega)]
    simp only [List.all_cons]
    refine Ev.step (fun k => by simp only [spec_l13Scores.l0]; rw [if_pos (by omega), if_pos (by omega), in_sc]) ?_
    cases h : sc (rd l (i : Int)) with
    | true =>
      refine ev_pure rfl (ev_if_pos rfl ?_)
      rw [w64 (x := (i : Int) + 1) (by omega) (by omega), Bool.true_and]
      exact ih (i + 1) (by omega)
    | false =>
      refine ev_pure rfl (ev_if_neg (by simp) ?_)
      simp only [Bool.false_and, Bool.and_false]
      exact Ev.now _

theorem spec_scores (l : List Int) (hl : l.length ≤ 1099511627776) : Ev (fun k => spec_l13Scores.f k l) (scores 100 l) :=
  spec_scores_l0 l hl l.length 0 (by omega)

end Go.Proofs.Ytencdmlcmnmhgaa.QFnDatum
