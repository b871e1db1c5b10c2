/- The program's datum is the reference's. -/
import Derived.Test.YtencdmlcmnmhgaaDatumFnDatum
namespace Go.Proofs.Ytencdmlcmnmhgaa.QFnDatum
set_option linter.unusedVariables false
open Go.RowKit Go.Proofs.YtencdmlcmnmhgaaW.PrintWords Go.Proofs.YtencdmlcmnmhgaaW.PrintLast Go.Proofs.YtencdmlcmnmhgaaW.PrintMore Go.Proofs.Ytencdmlcmnmhgaa.Lib
theorem mx_abs {S : Int} (h1 : -10000000 ≤ S) (h2 : S ≤ 10000000) : mx S (wrap64 (-S)) = if S < 0 then -S else S := by
  rw [w64 (x := -S) (by omega) (by omega)]
  unfold mx
  split <;> split <;> omega
theorem idatum_end (n t S c : Int) (k : Nat) (y : List Int) (i : Int) (hc : c = n - 2 * t) (c1 : 1 ≤ c) (c2 : c ≤ 100) (ht : 0 ≤ t) (hn : n ≤ 100) (h1 : -10000000 ≤ S) (h2 : S ≤ 10000000) (hi : ¬ i < (y.length : Int)) : impl_DatumOf.l0 (k + 1) t n S y (y.length : Int) i = some (dat S c, 0) := by
  simp only [impl_DatumOf.l0]
  rw [if_neg hi, mx_abs h1 h2, w64 (x := 2 * t) (by omega) (by omega), w64 (x := n - 2 * t) (by omega) (by omega), ← hc, w64 (x := 10 * c) (by omega) (by omega), if_neg (by omega)]
  have hd := dat_bd c1 h1 h2
  unfold dat half at hd ⊢
  have key : ∀ z : Int, 0 ≤ z → z ≤ 10000000 → Int.tdiv z (10 * c) = z / (10 * c) ∧ Int.tmod z (10 * c) = z % (10 * c) ∧ 0 ≤ z / (10 * c) ∧ z / (10 * c) ≤ z ∧ 0 ≤ z % (10 * c) ∧ z % (10 * c) < 10 * c := fun z z0 z1 =>
    ⟨Int.tdiv_eq_ediv_of_nonneg z0, Int.tmod_eq_emod_of_nonneg z0, Int.ediv_nonneg z0 (by omega), Int.ediv_le_self _ z0, Int.emod_nonneg _ (by omega), Int.emod_lt_of_pos _ (by omega)⟩
  by_cases g : S < 0
  · simp only [if_pos g] at hd ⊢
    obtain ⟨a1, a2, a3, a4, a5, a6⟩ := key (-S) (by omega) (by omega)
    rw [a1, a2, w64 (x := 2 * (-S % (10 * c))) (by omega) (by omega), w64 (x := -S / (10 * c)) (by omega) (by omega), w64 (x := -S / (10 * c) * 10) (by omega) (by omega), w64 (x := -S / (10 * c) * 10 + 10) (by omega) (by omega)]
    by_cases q : 2 * (-S % (10 * c)) > 10 * c
    · simp only [if_pos q]; rw [w64 (by omega) (by omega)]; congr 2; omega
    · simp only [if_neg q]; rw [w64 (by omega) (by omega)]; congr 2; omega
  · simp only [if_neg g] at hd ⊢
    obtain ⟨a1, a2, a3, a4, a5, a6⟩ := key S (by omega) (by omega)
    rw [a1, a2, w64 (x := 2 * (S % (10 * c))) (by omega) (by omega), w64 (x := S / (10 * c)) (by omega) (by omega), w64 (x := S / (10 * c) * 10) (by omega) (by omega), w64 (x := S / (10 * c) * 10 + 10) (by omega) (by omega)]
    by_cases q : 2 * (S % (10 * c)) > 10 * c
    · simp only [if_pos q]; congr 2; omega
    · simp only [if_neg q]; congr 2; omega
theorem idatum_l0 (n t c : Int) (y : List Int) (hy : y.length ≤ 100) (hb : ∀ x ∈ y, -100000 ≤ x ∧ x ≤ 100000) (hc : c = n - 2 * t) (c1 : 1 ≤ c) (c2 : c ≤ 100) (ht : 0 ≤ t) (hn : n ≤ 100) : ∀ (m i : Nat), i + m = y.length → Ev (fun k => impl_DatumOf.l0 k t n (total (y.take i)) y (y.length : Int) (i : Int)) (dat (total y) c, 0) := by
  intro m
  induction m with
  | zero =>
    intro i hi
    rw [List.take_of_length_le (by omega)]
    have tb := total_bd (c := 100000) y hb
    exact Ev.step (fun k => idatum_end n t (total y) c k y i hc c1 c2 ht hn (by omega) (by omega) (by omega)) (Ev.now _)
  | succ m ih =>
    intro i hi
    have e5 : wrap64 ((i : Int) + 1) = ((i + 1 : Nat) : Int) := by rw [w64 (by omega) (by omega)]; omega
    have t1 := total_bd (c := 100000) (y.take i) (fun x hx => hb x (List.mem_of_mem_take hx))
    rw [List.length_take] at t1
    have hx := hb (rd y i) (rd_mem (by omega) (by omega))
    have et : total (y.take (i + 1)) = total (y.take i) + rd y i := by rw [take_succ_rd (by omega), total_append]; simp [total]
    refine Ev.step (fun k => by simp only [impl_DatumOf.l0, e5]; rw [if_pos (by omega), if_pos (by omega), if_pos (by omega), w64 (x := total (y.take i) + rd y i) (by omega) (by omega), ← et]) (ih (i + 1) (by omega))
/-- What both return. -/
def datum (l : List Int) (t : Int) : Int × Int := if scores 100 l = true then (if 0 ≤ t ∧ 2 * t < l.length then (dat (total (mid l t.toNat)) (l.length - 2 * t), 0) else (0, 2)) else (0, 1)
theorem lim {n : Int} (h0 : 0 ≤ n) (h1 : n ≤ 100) : wrap64 (Int.tdiv (wrap64 (n - 1)) 2) = if n = 0 then 0 else (n - 1) / 2 := by
  rw [w64 (x := n - 1) (by omega) (by omega)]
  by_cases e : n = 0
  · subst e; rw [if_pos rfl, show Int.tdiv (0 - 1) 2 = 0 from rfl]; exact w64 (by omega) (by omega)
  · rw [if_neg e, Int.tdiv_eq_ediv_of_nonneg (by omega), w64 (by omega) (by omega)]
theorem impl_datum (l : List Int) (a : Int) : Ev (fun k => impl_DatumOf.f k l a) (datum l a) := by
  refine ev_pure (impl_scores l) ?_
  unfold datum
  by_cases h : scores 100 l = true
  · rw [if_pos h]
    have hs := (scores_iff 100 l).1 h
    refine ev_if_pos h ?_
    by_cases h0 : a < 0
    · rw [if_neg (by omega)]
      exact ev_if_pos h0 (Ev.now _)
    · refine ev_if_neg h0 ?_
      rw [lim (n := (l.length : Int)) (by omega) (by omega)]
      by_cases hn : (l.length : Int) = 0
      · rw [if_pos hn, if_neg (by omega)]
        by_cases ha : a > 0
        · exact ev_if_pos ha (Ev.now _)
        · exact ev_if_neg ha (ev_if_pos hn (Ev.now _))
      · rw [if_neg hn]
        by_cases ha : a > ((l.length : Int) - 1) / 2
        · rw [if_neg (by omega)]
          exact ev_if_pos ha (Ev.now _)
        · rw [if_pos (by omega)]
          refine ev_if_neg ha (ev_if_neg hn ?_)
          obtain ⟨t, rfl⟩ := Int.eq_ofNat_of_zero_le (show 0 ≤ a by omega)
          have ht : 2 * t < l.length := by omega
          have hm := mid_bd l t h ht
          have eW : wrap64 ((l.length : Int) - (t : Int)) = ((l.length - t : Nat) : Int) := by rw [w64 (by omega) (by omega)]; omega
          refine ev_pure (a := l) (by unfold slices_Clone_int64_int64.f; rw [if_pos (by omega)]) ?_
          refine ev_pure (a := srt l) (by unfold slices_Sort_int64_int64.f; rw [if_pos (by omega)]; rfl) ?_
          rw [eW, Int.toNat_natCast, Int.toNat_natCast]
          refine ev_if_pos (by omega) (ev_if_pos (by omega) (ev_if_pos (by omega) ?_))
          refine ev_pure (a := mid l t) rfl ?_
          have := idatum_l0 (l.length : Int) (t : Int) ((l.length : Int) - 2 * t) (mid l t) hm.1 hm.2 rfl (by omega) (by omega) (by omega) (by omega) (mid l t).length 0 (by omega)
          exact this
  · rw [if_neg h]
    exact ev_if_neg h (Ev.now _)
theorem in_eq (a b c : Int) : spec_l01In.f a b c = some (decide (b ≤ a) && decide (a ≤ c)) := by
  unfold spec_l01In.f
  by_cases h : a ≥ b
  · rw [if_pos h, decide_eq_true (show b ≤ a from h)]; rfl
  · rw [if_neg h, decide_eq_false (show ¬ b ≤ a from h)]; rfl
theorem spec_datum (l : List Int) (a : Int) (hl : l.length ≤ 1048576) : Ev (fun k => spec_DatumOf.f k l a) (datum l a) := by
  have hj : Ev (fun k => spec_DatumOf.j0 k l a true) ((0, 2) : Int × Int) := Ev.step (fun k => by simp only [spec_DatumOf.j0]; rw [if_pos trivial]) (Ev.now _)
  refine Ev.bind (spec_scores l (by omega)) ?_
  unfold datum
  by_cases h : scores 100 l = true
  · rw [if_pos h]
    have hs := (scores_iff 100 l).1 h
    refine ev_if_pos h (ev_pure (in_eq _ _ _) ?_)
    rw [lim (n := (l.length : Int)) (by omega) (by omega)]
    by_cases hn : (l.length : Int) = 0
    · rw [if_pos hn, if_neg (by omega), show ((l.length : Int) == 0) = true from beq_iff_eq.2 hn]
      by_cases g : (decide (0 ≤ a) && decide (a ≤ 0)) = true
      · exact ev_if_pos g hj
      · exact ev_if_neg g hj
    · rw [if_neg hn, show ((l.length : Int) == 0) = false from beq_eq_false_iff_ne.2 hn]
      by_cases g : 0 ≤ a ∧ 2 * a < (l.length : Int)
      · rw [if_pos g]
        refine ev_if_pos (by rw [Bool.and_eq_true, decide_eq_true_eq, decide_eq_true_eq]; omega) ?_
        refine Ev.step (fun k => by simp only [spec_DatumOf.j0]; rw [if_neg (by simp)]) ?_
        obtain ⟨t, rfl⟩ := Int.eq_ofNat_of_zero_le g.1
        exact Ev.bind (sorted_eq l hl) (Ev.bind (datum_eq l t h (by omega)) (Ev.now _))
      · rw [if_neg g]
        exact ev_if_neg (by rw [Bool.and_eq_true, decide_eq_true_eq, decide_eq_true_eq]; omega) hj
  · rw [if_neg h]
    exact ev_if_neg h (Ev.now _)
end Go.Proofs.Ytencdmlcmnmhgaa.QFnDatum
