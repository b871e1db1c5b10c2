/- The reference's CompareFractions, by whole parts first, comes to the same as the products across. -/
import Derived.Test.YtnkdjddnppajaaaCmpIFnExactCompareFractions
namespace Go.Proofs.Ytnkdjddnppajaaa.QFnExactCompareFractions
open Go.RowKit Go.Proofs.YtnkdjddnppajaaaW.PrintWords Go.Proofs.YtnkdjddnppajaaaW.PrintLast Go.Proofs.YtnkdjddnppajaaaW.PrintMore Go.Proofs.Ytnkdjddnppajaaa.Lib

theorem floor_tdiv {n d : Int} (hd : 0 < d) : (if Int.tmod n d < 0 then Int.tdiv n d - 1 else Int.tdiv n d) = n / d := by
  by_cases hn : 0 ≤ n
  · rw [if_neg (by have := Int.tmod_nonneg d hn; omega), Int.tdiv_eq_ediv_of_nonneg hn]
  · obtain ⟨m, rfl⟩ : ∃ m, n = -m := ⟨-n, by omega⟩
    have hm : 0 ≤ m := by omega
    rw [Int.neg_tmod, Int.neg_tdiv, Int.tmod_eq_emod_of_nonneg hm, Int.tdiv_eq_ediv_of_nonneg hm]
    have e := Int.mul_ediv_add_emod m d
    have r0 := Int.emod_nonneg m (show d ≠ 0 by omega)
    have r1 := Int.emod_lt_of_pos m hd
    by_cases hz : m % d = 0
    · rw [if_neg (by omega)]
      refine (((Int.ediv_emod_unique hd (a := -m) (r := 0) (q := -(m / d))).2 ⟨?_, by omega, hd⟩).1).symm
      rw [Int.mul_neg]; omega
    · rw [if_pos (by omega)]
      refine (((Int.ediv_emod_unique hd (a := -m) (r := d - m % d) (q := -(m / d) - 1)).2 ⟨?_, by omega, by omega⟩).1).symm
      rw [Int.mul_sub, Int.mul_neg]; omega

theorem spec_floor {n d : Int} (hd : 1 ≤ d) (h1 : -1000000000000 ≤ n) (h2 : n ≤ 1000000000000) : spec_l14Floor.f n d = some (n / d) := by
  have hb := Int.natAbs_tdiv_le_natAbs n d
  have e1 : wrap64 (Int.tdiv n d) = Int.tdiv n d := w64 (by omega) (by omega)
  have e2 : wrap64 (Int.tdiv n d - 1) = Int.tdiv n d - 1 := w64 (by omega) (by omega)
  simp only [spec_l14Floor.f]
  rw [if_neg (by omega), e1, e2, ← floor_tdiv (n := n) (show 0 < d by omega)]
  split <;> rfl

theorem floor_bd {n d : Int} (hd : 1 ≤ d) : n / d * d ≤ n ∧ n < (n / d + 1) * d := by
  have e := Int.mul_ediv_add_emod n d
  have r0 := Int.emod_nonneg n (show d ≠ 0 by omega)
  have r1 := Int.emod_lt_of_pos n (show 0 < d by omega)
  rw [Int.add_mul, Int.mul_comm (n / d) d]; omega

/-- Whole parts first. -/
theorem cmp_floor {a b c d : Int} (hb : 1 ≤ b) (hd : 1 ≤ d) : (if a / b = c / d then cmp3 ((a - a / b * b) * d) ((c - c / d * d) * b) else cmp3 (a / b) (c / d)) = cmp3 (a * d) (c * b) := by
  obtain ⟨l1, u1⟩ := floor_bd (n := a) hb
  obtain ⟨l2, u2⟩ := floor_bd (n := c) hd
  by_cases h : a / b = c / d
  · rw [if_pos h, ← h, Int.sub_mul, Int.sub_mul, Int.mul_right_comm (a / b) d b]
    unfold cmp3
    generalize a / b * b * d = z
    by_cases q : a * d < c * b
    · rw [if_pos q, if_pos (by omega)]
    · rw [if_neg q, if_neg (by omega)]
      by_cases q2 : a * d > c * b
      · rw [if_pos q2, if_pos (by omega)]
      · rw [if_neg q2, if_neg (by omega)]
  · rw [if_neg h]
    generalize hp : a / b = p at *
    generalize hq : c / d = q at *
    unfold cmp3
    by_cases hlt : p < q
    · have s1 : (p + 1) * b * d ≤ q * d * b := by
        rw [Int.mul_right_comm q d b]
        exact Int.mul_le_mul_of_nonneg_right (Int.mul_le_mul_of_nonneg_right (by omega) (by omega)) (by omega)
      have s2 : a * d < (p + 1) * b * d := Int.mul_lt_mul_of_pos_right u1 (by omega)
      have s3 : q * d * b ≤ c * b := Int.mul_le_mul_of_nonneg_right l2 (by omega)
      rw [if_pos hlt, if_pos (by omega)]
    · have hgt : q < p := by omega
      have s1 : (q + 1) * d * b ≤ p * b * d := by
        rw [Int.mul_right_comm p b d]
        exact Int.mul_le_mul_of_nonneg_right (Int.mul_le_mul_of_nonneg_right (by omega) (by omega)) (by omega)
      have s2 : c * b < (q + 1) * d * b := Int.mul_lt_mul_of_pos_right u2 (by omega)
      have s3 : p * b * d ≤ a * d := Int.mul_le_mul_of_nonneg_right l1 (by omega)
      rw [if_neg hlt, if_pos (show p > q by omega), if_neg (show ¬ a * d < c * b by omega), if_pos (show a * d > c * b by omega)]

theorem spec_cmp_j0 (x y : Int) : Ev (fun k => spec_l14Compare.j0 k x y) (cmp3 x y) := by
  refine Ev.step (fun k => by simp only [spec_l14Compare.j0]; rfl) (ev_one ?_)
  unfold cmp3
  by_cases q : x < y
  · rw [if_pos q, if_pos q]
  · rw [if_neg q, if_neg q]
    by_cases q2 : x > y
    · rw [if_pos q2, if_pos q2]
    · rw [if_neg q2, if_neg q2]

theorem floor_small {n d : Int} (hd : 1 ≤ d) (h1 : -1000000 * d ≤ n) (h2 : n ≤ 1000000 * d) : -1000000 ≤ n / d ∧ n / d ≤ 1000000 ∧ 0 ≤ n - n / d * d ∧ n - n / d * d < d := by
  obtain ⟨l, u⟩ := floor_bd (n := n) hd
  rw [Int.add_mul] at u
  refine ⟨(Int.le_ediv_iff_mul_le (by omega)).2 h1, ?_, by omega, by omega⟩
  exact Int.ediv_le_of_le_mul (by omega) h2

theorem spec_cmp0 {a b c d : Int} (h : isFrac a b = true) (g : isFrac c d = true) : Ev (fun k => spec_l14Compare.f k a b c d) (cmp3 (a * d) (c * b)) := by
  obtain ⟨a1, a2, a3, a4, _⟩ := (isFrac_iff a b).1 h
  obtain ⟨b1, b2, b3, b4, _⟩ := (isFrac_iff c d).1 g
  obtain ⟨p1, p2, p3, p4⟩ := floor_small a1 a3 a4
  obtain ⟨q1, q2, q3, q4⟩ := floor_small b1 b3 b4
  have m1 := mul_bd' (a := a / b) (b := b) (A := 1000000) (B := 1000000) (by omega) (by omega) (by omega) (by omega)
  have m2 := mul_bd' (a := c / d) (b := d) (A := 1000000) (B := 1000000) (by omega) (by omega) (by omega) (by omega)
  have m3 := mul_bd' (a := a - a / b * b) (b := d) (A := 1000000) (B := 1000000) (by omega) (by omega) (by omega) (by omega)
  have m4 := mul_bd' (a := c - c / d * d) (b := b) (A := 1000000) (B := 1000000) (by omega) (by omega) (by omega) (by omega)
  rw [← cmp_floor a1 b1]
  refine ev_pure (spec_floor a1 (by omega) (by omega)) (ev_pure (spec_floor b1 (by omega) (by omega)) ?_)
  rw [w64 (x := a / b * b) (by omega) (by omega), w64 (x := c / d * d) (by omega) (by omega), w64 (x := a - a / b * b) (by omega) (by omega), w64 (x := c - c / d * d) (by omega) (by omega), w64 (x := (a - a / b * b) * d) (by omega) (by omega), w64 (x := (c - c / d * d) * b) (by omega) (by omega)]
  by_cases e : a / b = c / d
  · rw [if_pos e]; exact ev_if_pos e (spec_cmp_j0 _ _)
  · rw [if_neg e]; exact ev_if_neg e (spec_cmp_j0 _ _)

theorem spec_cmp (a b c d : Int) : Ev (fun k => spec_CompareFractions.f k a b c d) (cf a b c d) := by
  refine Ev.bind (spec_isFrac a b) ?_
  unfold cf
  by_cases h : isFrac a b = true
  · rw [if_pos h]
    refine ev_if_pos h (Ev.bind (spec_isFrac c d) ?_)
    by_cases g : isFrac c d = true
    · rw [if_pos g]
      exact ev_if_pos g (Ev.bind (spec_cmp0 h g) (Ev.now _))
    · rw [if_neg g]
      exact ev_if_neg g (Ev.now _)
  · rw [if_neg h]
    exact ev_if_neg h (Ev.now _)

end Go.Proofs.Ytnkdjddnppajaaa.QFnExactCompareFractions
