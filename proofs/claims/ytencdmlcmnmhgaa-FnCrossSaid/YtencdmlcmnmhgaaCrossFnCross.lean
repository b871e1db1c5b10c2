/- CrossImps of the program and of the reference come to one plain function. -/
import Derived.Test.YtencdmlcmnmhgaaScoresFnCross
import Derived.Test.YtencdmlcmnmhgaaImpsFnCross
namespace Go.Proofs.Ytencdmlcmnmhgaa.QFnCross
open Go.RowKit Go.Proofs.YtencdmlcmnmhgaaW.PrintWords Go.Proofs.YtencdmlcmnmhgaaW.PrintLast Go.Proofs.YtencdmlcmnmhgaaW.PrintMore Go.Proofs.Ytencdmlcmnmhgaa.Lib

/-- What both functions return. -/
def ci (l : List Int) : List Int × Int := if scores 100 l = true then (cross l, 0) else ([], 1)
theorem sc_diff {l : List Int} (h : scores 100 l = true) {i j : Int} (h0 : 0 ≤ i) (h1 : i < (l.length : Int)) (g0 : 0 ≤ j) (g1 : j < (l.length : Int)) : wrap64 (rd l i - rd l j) = rd l i - rd l j := by
  have p := scores_rd h h0 h1
  have q := scores_rd h g0 g1
  exact w64 (by omega) (by omega)
theorem one_take {l : List Int} {j : Nat} (h : j < l.length) (x : Int) : crossOne (l.take (j + 1)) x = crossOne (l.take j) x + imps (x - rd l (j : Int)) := by
  unfold crossOne; rw [map_take_succ h (fun y => imps (x - y)), total_append]; simp [total]

theorem spec_l1 (l : List Int) (h : scores 100 l = true) (i : Nat) (hi : i < l.length) (acc : List Int) (ha : acc.length ≤ 100) (r : List Int × Int)
    (hr : Ev (fun k => spec_CrossImps.l0 k l (acc ++ [crossOne l (rd l (i : Int))]) ((i + 1 : Nat) : Int)) r) :
    ∀ (m j : Nat), j + m = l.length → Ev (fun k => spec_CrossImps.l1 k l acc (i : Int) (crossOne (l.take j) (rd l (i : Int))) (j : Int)) r := by
  have h100 := ((scores_iff 100 l).1 h).1
  intro m
  induction m with
  | zero =>
    intro j hj
    rw [List.take_of_length_le (by omega)]
    refine Ev.step (fun k => by simp only [spec_CrossImps.l1]; rw [if_neg (by omega), if_pos (by omega), w64 (x := (i : Int) + 1) (by omega) (by omega)]; rfl) hr
  | succ m ih =>
    intro j hj
    have hb := crossOne_bd (l.take (j + 1)) (rd l (i : Int))
    rw [List.length_take] at hb
    refine Ev.step (fun k => by simp only [spec_CrossImps.l1]; rw [if_pos (by omega), if_pos (by omega), if_pos (by omega), if_pos (by omega), sc_diff h (by omega) (by omega) (by omega) (by omega)]) ?_
    refine Ev.bind (spec_imps _) ?_
    rw [← one_take (by omega), w64 (x := crossOne (l.take (j + 1)) (rd l (i : Int))) (by omega) (by omega), w64 (x := (j : Int) + 1) (by omega) (by omega)]
    exact ih (j + 1) (by omega)

theorem spec_l0 (l : List Int) (h : scores 100 l = true) : ∀ (m i : Nat), i + m = l.length → Ev (fun k => spec_CrossImps.l0 k l ((l.take i).map (crossOne l)) (i : Int)) (cross l, 0) := by
  have h100 := ((scores_iff 100 l).1 h).1
  intro m
  induction m with
  | zero =>
    intro i hi
    rw [List.take_of_length_le (by omega)]
    exact Ev.step (fun k => by simp only [spec_CrossImps.l0]; rw [if_neg (by omega)]; rfl) (Ev.now _)
  | succ m ih =>
    intro i hi
    refine Ev.step (fun k => by simp only [spec_CrossImps.l0]; rw [if_pos (by omega)]) ?_
    refine spec_l1 l h i (by omega) _ (by simp; omega) _ ?_ l.length 0 (by omega)
    rw [← map_take_succ (by omega)]
    exact ih (i + 1) (by omega)

theorem spec_cross (l : List Int) (hl : l.length ≤ 1048576) : Ev (fun k => spec_CrossImps.f k l) (ci l) := by
  refine Ev.bind (spec_scores l (by omega)) ?_
  unfold ci
  by_cases h : scores 100 l = true
  · rw [if_pos h]
    exact ev_if_pos h (spec_l0 l h l.length 0 (by omega))
  · rw [if_neg h]
    exact ev_if_neg h (Ev.now _)

theorem impl_l1 (l : List Int) (h : scores 100 l = true) (i : Nat) (hi : i < l.length) (r : List Int × Int) : ∀ (m j : Nat) (x : List Int), j + m = l.length → x.length = l.length → rd x (i : Int) = crossOne (l.take j) (rd l (i : Int)) →
    Ev (fun k => impl_CrossImps.l0 k l (x.set i (crossOne l (rd l (i : Int)))) l (l.length : Int) ((i + 1 : Nat) : Int)) r →
    Ev (fun k => impl_CrossImps.l1 k l x (i : Int) (rd l (i : Int)) l (l.length : Int) (i : Int) l (l.length : Int) (j : Int)) r := by
  have h100 := ((scores_iff 100 l).1 h).1
  intro m
  induction m with
  | zero =>
    intro j x hj hx hv hr
    have e : x.set i (crossOne l (rd l (i : Int))) = x := by
      rw [List.take_of_length_le (by omega)] at hv
      rw [← hv, rd_lt (by omega)]; exact List.set_getElem_self _
    rw [e] at hr
    refine Ev.step (fun k => by simp only [impl_CrossImps.l1]; rw [if_neg (by omega), w64 (x := (i : Int) + 1) (by omega) (by omega)]; rfl) hr
  | succ m ih =>
    intro j x hj hx hv hr
    have hb := crossOne_bd (l.take (j + 1)) (rd l (i : Int))
    rw [List.length_take] at hb
    refine Ev.step (fun k => by simp only [impl_CrossImps.l1]; rw [if_pos (by omega), if_pos (by omega), if_pos (by omega), if_pos (by omega), if_pos (by omega), sc_diff h (by omega) (by omega) (by omega) (by omega)]) ?_
    refine Ev.bind (impl_imps _) ?_
    rw [hv, ← one_take (by omega), w64 (x := crossOne (l.take (j + 1)) (rd l (i : Int))) (by omega) (by omega), w64 (x := (j : Int) + 1) (by omega) (by omega), Int.toNat_natCast]
    refine ih (j + 1) _ (by omega) (by simpa using hx) (rd_set_self (by omega)) ?_
    rw [List.set_set]
    exact hr

theorem impl_l0 (l : List Int) (h : scores 100 l = true) : ∀ (m i : Nat), i + m = l.length → Ev (fun k => impl_CrossImps.l0 k l ((l.take i).map (crossOne l) ++ List.replicate m 0) l (l.length : Int) (i : Int)) (cross l, 0) := by
  have h100 := ((scores_iff 100 l).1 h).1
  intro m
  induction m with
  | zero =>
    intro i hi
    rw [List.take_of_length_le (by omega), List.replicate_zero, List.append_nil]
    exact Ev.step (fun k => by simp only [impl_CrossImps.l0]; rw [if_neg (by omega)]; rfl) (Ev.now _)
  | succ m ih =>
    intro i hi
    have hp : ((l.take i).map (crossOne l)).length = i := by simp; omega
    refine Ev.step (fun k => by simp only [impl_CrossImps.l0]; rw [if_pos (by omega), if_pos (by omega), if_pos (by omega)]) ?_
    refine impl_l1 l h i (by omega) _ l.length 0 _ (by omega) (by simp; omega) ?_ ?_
    · have := rd_append_cons (p := (l.take i).map (crossOne l)) (x := 0) (q := List.replicate m 0)
      rw [hp] at this
      rw [List.replicate_succ, this]; rfl
    · have e := set_zeros (p := (l.take i).map (crossOne l)) (m := m) (v := crossOne l (rd l (i : Int)))
      rw [hp] at e
      rw [e, ← map_take_succ (by omega)]
      exact ih (i + 1) (by omega)

theorem impl_cross (l : List Int) : Ev (fun k => impl_CrossImps.f k l) (ci l) := by
  refine ev_pure (impl_scores l) ?_
  unfold ci
  by_cases h : scores 100 l = true
  · have h100 := ((scores_iff 100 l).1 h).1
    rw [if_pos h]
    refine ev_if_pos h (ev_if_pos (by omega) (ev_if_pos (by omega) ?_))
    exact impl_l0 l h l.length 0 (by omega)
  · rw [if_neg h]
    exact ev_if_neg h (Ev.now _)

theorem ci_len (l : List Int) (hl : l.length ≤ 1048576) : (ci l).1.length ≤ 1048576 := by
  unfold ci
  by_cases h : scores 100 l = true
  · rw [if_pos h]; simpa [cross] using hl
  · rw [if_neg h]; simp

end Go.Proofs.Ytencdmlcmnmhgaa.QFnCross
