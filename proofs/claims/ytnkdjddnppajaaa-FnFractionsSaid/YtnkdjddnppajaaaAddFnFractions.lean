/- AddFractions of the program and of the reference come to one plain function. -/
import Derived.Test.YtnkdjddnppajaaaFracBFnFractions
namespace Go.Proofs.Ytnkdjddnppajaaa.QFnFractions
open Go.RowKit Go.Proofs.YtnkdjddnppajaaaW.PrintWords Go.Proofs.YtnkdjddnppajaaaW.PrintLast Go.Proofs.Ytnkdjddnppajaaa.Lib

/-- What both functions return. -/
def af (a b c d : Int) : Int × Int × Int := if isFrac a b = true then (if isFrac c d = true then res (a * d + c * b) (b * d) else (0, 0, 1)) else (0, 0, 1)

theorem mul_bd2 {a b A B : Int} (h1 : -A ≤ a) (h2 : a ≤ A) (h3 : -B ≤ b) (h4 : b ≤ B) : -(A * B) ≤ a * b ∧ a * b ≤ A * B := by
  have hA : 0 ≤ A := by omega
  have hB : 0 ≤ B := by omega
  have key : a.natAbs * b.natAbs ≤ A.natAbs * B.natAbs := Nat.mul_le_mul (by omega) (by omega)
  rw [← Int.natAbs_mul, ← Int.natAbs_mul] at key
  have : 0 ≤ A * B := Int.mul_nonneg hA hB
  omega
theorem one_le_mul {b d : Int} (hb : 1 ≤ b) (hd : 1 ≤ d) : 1 ≤ b * d := by
  have : 0 < b * d := Int.mul_pos (by omega) (by omega)
  omega

theorem impl_add (a b c d : Int) : Ev (fun k => impl_AddFractions.f k a b c d) (af a b c d) := by
  refine Ev.bind (impl_isFrac a b) ?_
  unfold af
  by_cases h : isFrac a b = true
  · rw [if_pos h]
    refine ev_if_pos h (Ev.bind (impl_isFrac c d) ?_)
    by_cases g : isFrac c d = true
    · rw [if_pos g]
      refine ev_if_pos g ?_
      obtain ⟨a1, a2, a3, a4, _⟩ := (isFrac_iff a b).1 h
      obtain ⟨b1, b2, b3, b4, _⟩ := (isFrac_iff c d).1 g
      have m1 := mul_bd2 (a := a) (b := d) (A := 1000000000000) (B := 1000000) (by omega) (by omega) (by omega) (by omega)
      have m2 := mul_bd2 (a := c) (b := b) (A := 1000000000000) (B := 1000000) (by omega) (by omega) (by omega) (by omega)
      have m3 := mul_bd2 (a := b) (b := d) (A := 1000000) (B := 1000000) (by omega) (by omega) (by omega) (by omega)
      have m4 := one_le_mul a1 b1
      rw [w64 (x := a * d) (by omega) (by omega), w64 (x := c * b) (by omega) (by omega), w64 (x := b * d) (by omega) (by omega), w64 (x := a * d + c * b) (by omega) (by omega), ← resz_pos m4]
      exact Ev.bind (impl_orR _ _ (by omega) (by omega) (by omega)) (Ev.now _)
    · rw [if_neg g]
      exact ev_if_neg g (Ev.now _)
  · rw [if_neg h]
    exact ev_if_neg h (Ev.now _)

theorem spec_add (a b c d : Int) : Ev (fun k => spec_AddFractions.f k a b c d) (af a b c d) := by
  refine Ev.bind (spec_isFrac a b) ?_
  unfold af
  by_cases h : isFrac a b = true
  · rw [if_pos h]
    refine ev_if_pos h (Ev.bind (spec_isFrac c d) ?_)
    by_cases g : isFrac c d = true
    · rw [if_pos g]
      refine ev_if_pos g (Ev.bind (a := res (a * d + c * b) (b * d)) ?_ (Ev.now _))
      obtain ⟨a1, a2, a3, a4, _⟩ := (isFrac_iff a b).1 h
      obtain ⟨b1, b2, b3, b4, _⟩ := (isFrac_iff c d).1 g
      have hp := gz_pos (a := b) (b := d) (by omega)
      refine Ev.bind (spec_gcd b d (by omega) (by omega)) (ev_if_neg (by omega) ?_)
      rw [tdiv_gz_left (by omega), tdiv_gz_right (by omega)]
      have d1 := Int.natAbs_ediv_le_natAbs b (gz b d)
      have d2 := Int.natAbs_ediv_le_natAbs d (gz b d)
      have c1 : gz b d * (b / gz b d) = b := Int.mul_ediv_cancel' (gz_dvd_left b d)
      have c2 : gz b d * (d / gz b d) = d := Int.mul_ediv_cancel' (gz_dvd_right b d)
      have q1 : 1 ≤ b / gz b d := by
        by_cases hq : 1 ≤ b / gz b d
        · exact hq
        · have : gz b d * (b / gz b d) ≤ 0 := Int.mul_nonpos_of_nonneg_of_nonpos (by omega) (by omega)
          omega
      have m1 := mul_bd2 (a := a) (b := d / gz b d) (A := 1000000000000) (B := 1000000) (by omega) (by omega) (by omega) (by omega)
      have m2 := mul_bd2 (a := c) (b := b / gz b d) (A := 1000000000000) (B := 1000000) (by omega) (by omega) (by omega) (by omega)
      have m3 := mul_bd2 (a := b / gz b d) (b := d) (A := 1000000) (B := 1000000) (by omega) (by omega) (by omega) (by omega)
      have m4 := one_le_mul q1 b1
      rw [w64 (x := a * (d / gz b d)) (by omega) (by omega), w64 (x := c * (b / gz b d)) (by omega) (by omega), w64 (x := b / gz b d * d) (by omega) (by omega), w64 (x := a * (d / gz b d) + c * (b / gz b d)) (by omega) (by omega)]
      have e : res (a * d + c * b) (b * d) = res (a * (d / gz b d) + c * (b / gz b d)) (b / gz b d * d) := by
        rw [← res_scale (gz b d) (a * (d / gz b d) + c * (b / gz b d)) (b / gz b d * d) hp, ← Int.mul_assoc (gz b d), c1, Int.mul_add, Int.mul_left_comm, c2, Int.mul_left_comm, c1]
      rw [e]
      exact Ev.bind (spec_res _ _ (by omega) (by omega) (by omega)) (Ev.now _)
    · rw [if_neg g]
      exact ev_if_neg g (Ev.now _)
  · rw [if_neg h]
    exact ev_if_neg h (Ev.now _)

end Go.Proofs.Ytnkdjddnppajaaa.QFnFractions
