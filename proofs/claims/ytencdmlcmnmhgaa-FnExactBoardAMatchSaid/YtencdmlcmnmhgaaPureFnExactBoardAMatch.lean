/- The program's BoardAMatch returns what the reference's returns and leaves its arguments alone: for all arguments, no condition. -/
import Derived.Test.YtencdmlcmnmhgaaMatchFnExactBoardAMatch
import Derived.Test.YtencdmlcmnmhgaaUtilAFnExactBoardAMatch
namespace Go.Proofs.Ytencdmlcmnmhgaa.QFnExactBoardAMatch
open Go.RowKit Go.Proofs.YtencdmlcmnmhgaaW.PrintWords Go.Proofs.YtencdmlcmnmhgaaW.PrintLast Go.Proofs.YtencdmlcmnmhgaaW.PrintMore Go.Proofs.Ytencdmlcmnmhgaa.Lib
/-- What a board counts. -/
def pt (x y : Int) : Int := if x > y then 2 else if x = y then 1 else 0
def bam (a b : List Int) : Int × Int := if isM a b = true then (total (List.zipWith pt a b), 0) else (0, 1)
theorem isM_len {a b : List Int} (h : isM a b = true) : a.length = b.length ∧ a.length ≤ 100 := by
  obtain ⟨h1, _, h3⟩ := (isM_iff a b).1 h
  exact ⟨h3, ((scores_iff 100 a).1 h1).1⟩
theorem pt_step {a b : List Int} (h : a.length = b.length) {i : Nat} (hi : i < a.length) : total (List.zipWith pt (a.take (i + 1)) (b.take (i + 1))) = total (List.zipWith pt (a.take i) (b.take i)) + pt (rd a i) (rd b i) := by
  rw [zip_take_succ hi (by omega), total_append]; simp [total]
theorem pt_bd : ∀ (a b : List Int), 0 ≤ total (List.zipWith pt a b) ∧ total (List.zipWith pt a b) ≤ 2 * a.length
  | [], _ => by simp [total]
  | _ :: _, [] => by simp [total]; omega
  | x :: xs, y :: ys => by
    have h := pt_bd xs ys
    have p : 0 ≤ pt x y ∧ pt x y ≤ 2 := by unfold pt; split <;> (try split) <;> omega
    simp only [List.zipWith_cons_cons, total, List.length_cons]
    omega
theorem impl_bam_l0 (a b : List Int) (h : isM a b = true) : ∀ (m i : Nat) (s : Int), i + m = a.length → s = total (List.zipWith pt (a.take i) (b.take i)) → Ev (fun k => impl_BoardAMatch.l0 k b s a (a.length : Int) (i : Int)) (total (List.zipWith pt a b), 0) := by
  obtain ⟨hl, h100⟩ := isM_len h
  intro m
  induction m with
  | zero =>
    intro i s hi hs
    rw [List.take_of_length_le (by omega), List.take_of_length_le (by omega)] at hs
    subst hs
    exact Ev.step (fun k => by simp only [impl_BoardAMatch.l0]; rw [if_neg (by omega)]) (Ev.now _)
  | succ m ih =>
    intro i s hi hs
    have hb := pt_bd (a.take i) (b.take i)
    rw [← hs, List.length_take] at hb
    have e5 : wrap64 ((i : Int) + 1) = ((i + 1 : Nat) : Int) := by rw [w64 (by omega) (by omega)]; omega
    have st := pt_step hl (show i < a.length by omega)
    rw [← hs] at st
    refine Ev.step (fun k => by simp only [impl_BoardAMatch.l0]; rw [if_pos (by omega), if_pos (by omega), if_pos (by omega), if_pos (by omega), e5, w64 (x := s + 2) (by omega) (by omega), w64 (x := s + 1) (by omega) (by omega)]) ?_
    by_cases c : rd a (i : Int) > rd b (i : Int)
    · refine ev_if_pos c (ih (i + 1) _ (by omega) ?_)
      rw [st]; unfold pt; rw [if_pos c]
    · refine ev_if_neg c ?_
      by_cases d : rd a (i : Int) = rd b (i : Int)
      · refine ev_if_pos d (ih (i + 1) _ (by omega) ?_)
        rw [st]; unfold pt; rw [if_neg c, if_pos d]
      · refine ev_if_neg d (ih (i + 1) _ (by omega) ?_)
        rw [st]; unfold pt; rw [if_neg c, if_neg d]; omega
theorem impl_bam (a b : List Int) : Ev (fun k => impl_BoardAMatch.f k a b) (bam a b) := by
  refine ev_pure (impl_match a b) ?_
  unfold bam
  by_cases h : isM a b = true
  · rw [if_pos h]
    exact ev_if_pos h (impl_bam_l0 a b h a.length 0 0 (by omega) (by simp [total]))
  · rw [if_neg h]
    exact ev_if_neg h (Ev.now _)
theorem spec_bam_l0 (a b : List Int) (h : isM a b = true) : ∀ (m i : Nat) (s : Int), i + m = a.length → s = total (List.zipWith pt (a.take i) (b.take i)) → Ev (fun k => spec_BoardAMatch.l0 k a b s (i : Int)) (total (List.zipWith pt a b), 0) := by
  obtain ⟨hl, h100⟩ := isM_len h
  intro m
  induction m with
  | zero =>
    intro i s hi hs
    rw [List.take_of_length_le (by omega), List.take_of_length_le (by omega)] at hs
    subst hs
    exact Ev.step (fun k => by simp only [spec_BoardAMatch.l0]; rw [if_neg (by omega)]) (Ev.now _)
  | succ m ih =>
    intro i s hi hs
    have hb := pt_bd (a.take i) (b.take i)
    rw [← hs, List.length_take] at hb
    have e5 : wrap64 ((i : Int) + 1) = ((i + 1 : Nat) : Int) := by rw [w64 (by omega) (by omega)]; omega
    have st := pt_step hl (show i < a.length by omega)
    rw [← hs] at st
    refine Ev.step (fun k => by simp only [spec_BoardAMatch.l0]; rw [if_pos (by omega), if_pos (by omega), if_pos (by omega), e5, w64 (x := s + 2) (by omega) (by omega), w64 (x := s + 1) (by omega) (by omega)]) ?_
    by_cases c : rd a (i : Int) > rd b (i : Int)
    · refine ev_if_pos c (ev_if_neg (by omega) (ih (i + 1) _ (by omega) ?_))
      rw [st]; unfold pt; rw [if_pos c]
    · refine ev_if_neg c ?_
      by_cases d : rd a (i : Int) = rd b (i : Int)
      · refine ev_if_pos d (ih (i + 1) _ (by omega) ?_)
        rw [st]; unfold pt; rw [if_neg c, if_pos d]
      · refine ev_if_neg d (ih (i + 1) _ (by omega) ?_)
        rw [st]; unfold pt; rw [if_neg c, if_neg d]; omega
theorem spec_bam (a b : List Int) (ha : a.length ≤ 1048576) (hb : b.length ≤ 1048576) : Ev (fun k => spec_BoardAMatch.f k a b) (bam a b) := by
  refine Ev.bind (spec_match a b (by omega) (by omega)) ?_
  unfold bam
  by_cases h : isM a b = true
  · rw [if_pos h]
    exact ev_if_pos h (spec_bam_l0 a b h a.length 0 0 (by omega) (by simp [total]))
  · rw [if_neg h]
    exact ev_if_neg h (Ev.now _)
end Go.Proofs.Ytencdmlcmnmhgaa.QFnExactBoardAMatch
namespace Go.Proofs.Ytencdmlcmnmhgaa.Pure
open Go.RowKit Go.Proofs.Ytencdmlcmnmhgaa.QFnExactBoardAMatch Go.Proofs.YtencdmlcmnmhgaaW.PrintWords Go.Proofs.YtencdmlcmnmhgaaW.PrintLast Go.Proofs.Ytencdmlcmnmhgaa.Lib

theorem FnExactBoardAMatch : laws_FnExactBoardAMatch.Pure := by
  intro a b _ _ _ _ _ _
  by_cases ha : (a.length : Int) > 1048576
  · exact ev_true (ev_if_pos ha (Ev.now _))
  · by_cases hb : (b.length : Int) > 1048576
    · exact ev_true (ev_if_neg ha (ev_if_pos hb (Ev.now _)))
    · have la : a.length ≤ 1048576 := by omega
      have lb : b.length ≤ 1048576 := by omega
      have hs := spec_bam a b la lb
      have hi := impl_bam a b
      generalize bam a b = r at hs hi
      have e : (r.2 != r.2) = false := by simp
      refine ev_true (ev_if_neg ha (ev_if_neg hb ?_))
      refine Ev.bind (toI a (by omega)) (Ev.bind (toI b (by omega)) (Ev.bind hs (Ev.bind (toI a (by omega)) (Ev.bind (toI b (by omega)) (Ev.bind hi ?_)))))
      refine ev_if_pos rfl ?_
      rw [e]
      refine Ev.step (fun k => by simp only [laws_FnExactBoardAMatch.j0]; rw [if_neg (by simp)]) ?_
      refine Ev.bind (toI a (by omega)) (Ev.bind (eqI_same _ (by omega)) (ev_if_pos rfl ?_))
      exact Ev.bind (toI b (by omega)) (Ev.bind (eqI_same _ (by omega)) (ev_if_pos rfl (Ev.now _)))

end Go.Proofs.Ytencdmlcmnmhgaa.Pure
