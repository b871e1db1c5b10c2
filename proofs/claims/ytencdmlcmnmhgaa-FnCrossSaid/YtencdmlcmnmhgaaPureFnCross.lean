/- Cross-IMPs add up to zero, and the greatest score has the greatest number of them: for every code of bytes, no condition. -/
import Derived.Test.YtencdmlcmnmhgaaCrossFnCross
import Derived.Test.YtencdmlcmnmhgaaDrawMFnCross
namespace Go.Proofs.Ytencdmlcmnmhgaa.QFnCross
open Go.RowKit Go.Proofs.YtencdmlcmnmhgaaW.PrintWords Go.Proofs.YtencdmlcmnmhgaaW.PrintLast Go.Proofs.YtencdmlcmnmhgaaW.PrintMore Go.Proofs.Ytencdmlcmnmhgaa.Lib
theorem draw_a {l : List Int} (hl : l.length ≤ 140737488351232) (hb : ∀ x ∈ l, (Lit.int .u8 x).wf = true) : ∃ a, a.length ≤ 1001 ∧ Ev (fun k => spec_DrawCrossImps.f k l) a := by
  obtain ⟨s, hS, h0⟩ := from_src hl hb
  obtain ⟨p, q, a', s', S', hp, hq, h⟩ := drawM hS
  exact ⟨p, hp, Ev.bind h0 (Ev.bind h (Ev.now _))⟩
theorem w5_l0 (l : List Int) (hl : l.length ≤ 100) (hb : ∀ x ∈ l, -2400 ≤ x ∧ x ≤ 2400) : ∀ (m i : Nat), i + m = l.length → Ev (fun k => laws_w5Sum.l0 k l (total (l.take i)) (i : Int)) (total l) := by
  intro m
  induction m with
  | zero =>
    intro i hi
    rw [List.take_of_length_le (by omega)]
    exact Ev.step (fun k => by simp only [laws_w5Sum.l0]; rw [if_neg (by omega)]) (Ev.now _)
  | succ m ih =>
    intro i hi
    have h1 := total_bd (l.take (i + 1)) (fun x hx => hb x (List.mem_of_mem_take hx))
    rw [List.length_take] at h1
    have e5 : wrap64 ((i : Int) + 1) = ((i + 1 : Nat) : Int) := by rw [w64 (by omega) (by omega)]; omega
    have e6 : total (l.take i) + rd l (i : Int) = total (l.take (i + 1)) := by rw [take_succ_rd (by omega), total_append]; simp [total]
    refine Ev.step (fun k => by simp only [laws_w5Sum.l0]; rw [if_pos (by omega), if_pos (by omega), e6, e5, w64 (by omega) (by omega)]) (ih (i + 1) (by omega))
theorem cross_bd {l : List Int} (hl : l.length ≤ 100) : ∀ x ∈ cross l, -2400 ≤ x ∧ x ≤ 2400 := by
  intro x hx
  obtain ⟨y, _, rfl⟩ := List.mem_map.1 hx
  have := crossOne_bd l y
  omega
theorem rd_cross {l : List Int} {i : Nat} (h : i < l.length) : rd (cross l) (i : Int) = crossOne l (rd l (i : Int)) := rd_map h _
theorem law_l1 (l : List Int) (hl : l.length ≤ 100) (i : Nat) (hi : i < l.length) (hr : Ev (fun k => laws_FnCross.l0 k l (cross l) ((i + 1 : Nat) : Int)) true) :
    ∀ (m j : Nat), j + m = l.length → Ev (fun k => laws_FnCross.l1 k l (cross l) (i : Int) (j : Int)) true := by
  have hc : (cross l).length = l.length := by simp [cross]
  intro m
  induction m with
  | zero =>
    intro j hj
    exact Ev.step (fun k => by simp only [laws_FnCross.l1]; rw [if_neg (by omega), w64 (x := (i : Int) + 1) (by omega) (by omega)]; rfl) hr
  | succ m ih =>
    intro j hj
    refine Ev.step (fun k => by simp only [laws_FnCross.l1]; rw [if_pos (by omega), if_pos (by omega), if_pos (by omega), if_pos (by omega), if_pos (by omega), w64 (x := (j : Int) + 1) (by omega) (by omega)]) ?_
    by_cases c : rd l (i : Int) > rd l (j : Int)
    · refine ev_if_pos c (ev_if_pos (by omega) (ev_if_neg ?_ (ih (j + 1) (by omega))))
      rw [rd_cross hi, rd_cross (by omega)]
      have := total_mono l (show rd l (j : Int) ≤ rd l (i : Int) by omega)
      unfold crossOne
      omega
    · exact ev_if_neg c (ih (j + 1) (by omega))
theorem law_l0 (l : List Int) (hl : l.length ≤ 100) : ∀ (m i : Nat), i + m = l.length → Ev (fun k => laws_FnCross.l0 k l (cross l) (i : Int)) true := by
  have hc : (cross l).length = l.length := by simp [cross]
  intro m
  induction m with
  | zero =>
    intro i hi
    exact Ev.step (fun k => by simp only [laws_FnCross.l0]; rw [if_neg (by omega)]) (Ev.now _)
  | succ m ih =>
    intro i hi
    exact Ev.step (fun k => by simp only [laws_FnCross.l0]; rw [if_pos (by omega)]; rfl) (law_l1 l hl i (by omega) (ih (i + 1) (by omega)) l.length 0 (by omega))
end Go.Proofs.Ytencdmlcmnmhgaa.QFnCross
namespace Go.Proofs.Ytencdmlcmnmhgaa.Pure
open Go.RowKit Go.Proofs.Ytencdmlcmnmhgaa.QFnCross Go.Proofs.YtencdmlcmnmhgaaW.PrintWords Go.Proofs.YtencdmlcmnmhgaaW.PrintLast Go.Proofs.Ytencdmlcmnmhgaa.Lib

theorem FnCross : laws_FnCross.Pure := by
  intro l _ hl hb
  obtain ⟨a, la, hd⟩ := draw_a (l := l) (by omega) hb
  by_cases big : (l.length : Int) > 4096
  · exact ev_true (ev_pure (a := true) (by simp [laws_big.f]; omega) (ev_if_pos rfl (Ev.now _)))
  · refine ev_true (ev_pure (a := false) (by simp [laws_big.f]; omega) (ev_if_neg (by simp) ?_))
    refine Ev.bind hd (Ev.bind (impl_cross a) (Ev.bind (spec_cross a (by omega)) (ev_if_pos rfl ?_)))
    unfold ci
    by_cases h : scores 100 a = true
    · have h100 := ((scores_iff 100 a).1 h).1
      rw [if_pos h]
      refine ev_if_pos rfl (ev_if_pos (by simp [cross]) ?_)
      refine Ev.bind (w5_l0 (cross a) (by simpa [cross] using h100) (cross_bd h100) (cross a).length 0 (by omega)) ?_
      rw [cross_zero]
      exact Ev.step (fun k => by simp only [laws_FnCross.j0]; rw [if_neg (by simp)]; rfl) (law_l0 a h100 a.length 0 (by omega))
    · rw [if_neg h]
      exact ev_if_neg (by simp) (Ev.now _)

end Go.Proofs.Ytencdmlcmnmhgaa.Pure
