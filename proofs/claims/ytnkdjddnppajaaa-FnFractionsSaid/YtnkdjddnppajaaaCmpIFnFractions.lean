/- The program's CompareFractions compares the products across. -/
import Derived.Test.YtnkdjddnppajaaaFracAFnFractions
namespace Go.Proofs.Ytnkdjddnppajaaa.QFnFractions
open Go.RowKit Go.Proofs.YtnkdjddnppajaaaW.PrintWords Go.Proofs.YtnkdjddnppajaaaW.PrintLast Go.Proofs.YtnkdjddnppajaaaW.PrintMore Go.Proofs.Ytnkdjddnppajaaa.Lib

/-- The order of two whole numbers. -/
def cmp3 (x y : Int) : Int := if x < y then -1 else if x > y then 1 else 0
def cf (a b c d : Int) : Int × Int := if isFrac a b = true then (if isFrac c d = true then (cmp3 (a * d) (c * b), 0) else (0, 1)) else (0, 1)

theorem mul_bd' {a b A B : Int} (h1 : -A ≤ a) (h2 : a ≤ A) (h3 : -B ≤ b) (h4 : b ≤ B) : -(A * B) ≤ a * b ∧ a * b ≤ A * B := by
  have hA : 0 ≤ A := by omega
  have hB : 0 ≤ B := by omega
  have key : a.natAbs * b.natAbs ≤ A.natAbs * B.natAbs := Nat.mul_le_mul (by omega) (by omega)
  rw [← Int.natAbs_mul, ← Int.natAbs_mul] at key
  have : 0 ≤ A * B := Int.mul_nonneg hA hB
  omega

theorem impl_cmp (a b c d : Int) : Ev (fun k => impl_CompareFractions.f k a b c d) (cf a b c d) := by
  have bad : Ev (fun k => impl_CompareFractions.j0 k true a b c d) (0, 1) := Ev.step (fun k => by simp only [impl_CompareFractions.j0]; rw [if_pos trivial]) (Ev.now _)
  refine Ev.bind (impl_isFrac a b) ?_
  unfold cf
  by_cases h : isFrac a b = true
  · rw [if_pos h]
    refine ev_if_pos h (Ev.bind (impl_isFrac c d) ?_)
    by_cases g : isFrac c d = true
    · rw [if_pos g, g]
      obtain ⟨a1, a2, a3, a4, _⟩ := (isFrac_iff a b).1 h
      obtain ⟨b1, b2, b3, b4, _⟩ := (isFrac_iff c d).1 g
      have m1 := mul_bd' (a := a) (b := d) (A := 1000000000000) (B := 1000000) (by omega) (by omega) (by omega) (by omega)
      have m2 := mul_bd' (a := c) (b := b) (A := 1000000000000) (B := 1000000) (by omega) (by omega) (by omega) (by omega)
      have e1 : wrap64 (a * d) = a * d := w64 (by omega) (by omega)
      have e2 : wrap64 (c * b) = c * b := w64 (by omega) (by omega)
      unfold cmp3
      refine Ev.step (fun k => by simp only [impl_CompareFractions.j0]; rw [if_neg (by simp), e1, e2]) (ev_one ?_)
      by_cases q : a * d < c * b
      · rw [if_pos q, if_pos q]
      · rw [if_neg q, if_neg q]
        by_cases q2 : a * d > c * b
        · rw [if_pos q2, if_pos q2]
        · rw [if_neg q2, if_neg q2]
    · rw [if_neg g, show isFrac c d = false by simpa using g]
      exact bad
  · rw [if_neg h]
    exact ev_if_neg h bad

end Go.Proofs.Ytnkdjddnppajaaa.QFnFractions
