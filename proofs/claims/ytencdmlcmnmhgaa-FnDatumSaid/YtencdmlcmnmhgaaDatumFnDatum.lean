/- Both programs find one datum. -/
import Derived.Test.YtencdmlcmnmhgaaSortedFnDatum
import Derived.Test.YtencdmlcmnmhgaaScoresFnDatum
namespace Go.Proofs.Ytencdmlcmnmhgaa.QFnDatum
set_option linter.unusedVariables false
open Go.RowKit Go.Proofs.YtencdmlcmnmhgaaW.PrintWords Go.Proofs.YtencdmlcmnmhgaaW.PrintLast Go.Proofs.YtencdmlcmnmhgaaW.PrintMore Go.Proofs.Ytencdmlcmnmhgaa.Lib
/-- The mean in tens: so many scores with a sum. -/
def half (z c : Int) : Int := 10 * (z / (10 * c) + if 2 * (z % (10 * c)) > 10 * c then 1 else 0)
def dat (S c : Int) : Int := if S < 0 then -(half (-S) c) else half S c
theorem half_spec {z c : Int} (hz : 0 ≤ z) (hc : 1 ≤ c) : Int.tdiv (z + 5 * c - 1) (10 * c) = z / (10 * c) + if 2 * (z % (10 * c)) > 10 * c then 1 else 0 := by
  rw [Int.tdiv_eq_ediv_of_nonneg (by omega)]
  have hT : (0 : Int) < 10 * c := by omega
  have h1 := Int.mul_ediv_add_emod z (10 * c)
  have h2 := Int.emod_nonneg z (show (10 * c : Int) ≠ 0 by omega)
  have h3 := Int.emod_lt_of_pos z hT
  generalize z / (10 * c) = q at h1 ⊢
  generalize z % (10 * c) = r at h1 h2 h3 ⊢
  have e : z + 5 * c - 1 = (r + 5 * c - 1) + (10 * c) * q := by omega
  rw [e, Int.add_mul_ediv_left _ _ (by omega)]
  by_cases g : 2 * r > 10 * c
  · rw [if_pos g, show r + 5 * c - 1 = (r + 5 * c - 1 - 10 * c) + (10 * c) * 1 by omega, Int.add_mul_ediv_left _ _ (by omega), Int.ediv_eq_zero_of_lt (by omega) (by omega)]
    omega
  · rw [if_neg g, Int.ediv_eq_zero_of_lt (by omega) (by omega)]
    omega
theorem sum_l0 (y : List Int) (hy : y.length ≤ 100) (hb : ∀ x ∈ y, -100000 ≤ x ∧ x ≤ 100000) : ∀ (m i : Nat), i + m = y.length → Ev (fun k => spec_l13Sum.l0 k y (total (y.take i)) (i : Int)) (total y) := by
  intro m
  induction m with
  | zero =>
    intro i hi
    rw [List.take_of_length_le (by omega)]
    exact Ev.step (fun k => by simp only [spec_l13Sum.l0]; rw [if_neg (by omega)]) (Ev.now _)
  | succ m ih =>
    intro i hi
    have e5 : wrap64 ((i : Int) + 1) = ((i + 1 : Nat) : Int) := by rw [w64 (by omega) (by omega)]; omega
    have t1 := total_bd (c := 100000) (y.take i) (fun x hx => hb x (List.mem_of_mem_take hx))
    rw [List.length_take] at t1
    have hx := hb (rd y i) (rd_mem (by omega) (by omega))
    have et : total (y.take (i + 1)) = total (y.take i) + rd y i := by rw [take_succ_rd (by omega), total_append]; simp [total]
    refine Ev.step (fun k => by simp only [spec_l13Sum.l0, e5]; rw [if_pos (by omega), if_pos (by omega), w64 (x := total (y.take i) + rd y i) (by omega) (by omega), ← et]) (ih (i + 1) (by omega))
theorem sum_eq (y : List Int) (hy : y.length ≤ 100) (hb : ∀ x ∈ y, -100000 ≤ x ∧ x ≤ 100000) : Ev (fun k => spec_l13Sum.f k y) (total y) :=
  sum_l0 y hy hb y.length 0 (by omega)
/-- The scores that are kept. -/
def mid (l : List Int) (t : Nat) : List Int := ((srt l).take (l.length - t)).drop t
theorem mid_mem {l : List Int} {t : Nat} {x : Int} (h : x ∈ mid l t) : x ∈ l := (srt_perm l).mem_iff.1 (List.mem_of_mem_take (List.mem_of_mem_drop h))
theorem mid_length {l : List Int} {t : Nat} (h : 2 * t < l.length) : ((mid l t).length : Int) = l.length - 2 * t := by
  unfold mid; rw [List.length_drop, List.length_take, srt_length]; omega
theorem dat_bd {S c : Int} (hc : 1 ≤ c) (h1 : -10000000 ≤ S) (h2 : S ≤ 10000000) : -100000020 ≤ dat S c ∧ dat S c ≤ 100000020 := by
  have hh : ∀ z : Int, 0 ≤ z → z ≤ 10000000 → 0 ≤ half z c ∧ half z c ≤ 100000020 := fun z z0 z1 => by
    unfold half
    have a := Int.ediv_nonneg z0 (show 0 ≤ 10 * c by omega)
    have b := Int.ediv_le_self (10 * c) z0
    split <;> omega
  unfold dat
  split
  · have := hh (-S) (by omega) (by omega); omega
  · have := hh S (by omega) (by omega); omega
section
variable (l : List Int) (t : Nat) (h : scores 100 l = true) (ht : 2 * t < l.length)
include h ht
theorem mid_bd : (mid l t).length ≤ 100 ∧ ∀ x ∈ mid l t, -100000 ≤ x ∧ x ≤ 100000 := by
  have hs := (scores_iff 100 l).1 h
  exact ⟨by have := mid_length ht; omega, fun x hx => hs.2 x (mid_mem hx)⟩
theorem total_mid_bd : -10000000 ≤ total (mid l t) ∧ total (mid l t) ≤ 10000000 := by
  have hm := mid_bd l t h ht
  have := total_bd (c := 100000) (mid l t) hm.2
  omega
theorem datum_eq : Ev (fun k => spec_l13Datum.f k (srt l) (t : Int)) (dat (total (mid l t)) (l.length - 2 * t)) := by
  have hs := (scores_iff 100 l).1 h
  have hm := mid_bd l t h ht
  have hS := total_mid_bd l t h ht
  have eW : wrap64 (((srt l).length : Int) - (t : Int)) = ((l.length - t : Nat) : Int) := by rw [srt_length, w64 (by omega) (by omega)]; omega
  have eL : ((((srt l).take (l.length - t)).drop t).length : Int) = l.length - 2 * t := mid_length ht
  have hsum : Ev (fun k => spec_l13Sum.f k (((srt l).take (l.length - t)).drop t)) (total (mid l t)) := sum_eq (mid l t) hm.1 hm.2
  generalize total (mid l t) = S at hS hsum
  obtain ⟨c, hc⟩ : ∃ c : Int, c = l.length - 2 * t := ⟨_, rfl⟩
  rw [← hc] at eL ⊢
  have c1 : 1 ≤ c := by omega
  have c2 : c ≤ 100 := by omega
  have e10 : wrap64 (10 * c) = 10 * c := w64 (by omega) (by omega)
  have e5 : wrap64 (5 * c) = 5 * c := w64 (by omega) (by omega)
  unfold spec_l13Datum.f
  simp only [eW, eL, Int.toNat_natCast, e10, e5]
  refine ev_if_pos (by omega) (ev_if_pos (by omega) (ev_if_pos (by rw [srt_length]; omega) (Ev.bind hsum ?_)))
  have hd := dat_bd c1 hS.1 hS.2
  unfold dat at hd ⊢
  by_cases g : S < 0
  · rw [if_pos g] at hd ⊢
    refine ev_if_neg (by omega) (ev_one ?_)
    have hq := half_spec (z := -S) (c := c) (by omega) c1
    have e1 : half (-S) c = 10 * Int.tdiv (-S + 5 * c - 1) (10 * c) := by rw [hq]; rfl
    rw [e1] at hd ⊢
    rw [w64 (x := -S) (by omega) (by omega), w64 (x := -S + 5 * c) (by omega) (by omega), w64 (x := -S + 5 * c - 1) (by omega) (by omega), w64 (x := Int.tdiv (-S + 5 * c - 1) (10 * c)) (by omega) (by omega), w64 (by omega) (by omega)]
    congr 1; omega
  · rw [if_neg g] at hd ⊢
    refine ev_if_neg (by omega) (ev_one ?_)
    have hq := half_spec (z := S) (c := c) (by omega) c1
    have e1 : half S c = 10 * Int.tdiv (S + 5 * c - 1) (10 * c) := by rw [hq]; rfl
    rw [e1] at hd ⊢
    rw [w64 (x := S + 5 * c) (by omega) (by omega), w64 (x := S + 5 * c - 1) (by omega) (by omega), w64 (x := Int.tdiv (S + 5 * c - 1) (10 * c)) (by omega) (by omega), w64 (by omega) (by omega)]
    congr 1; omega
end
end Go.Proofs.Ytencdmlcmnmhgaa.QFnDatum
