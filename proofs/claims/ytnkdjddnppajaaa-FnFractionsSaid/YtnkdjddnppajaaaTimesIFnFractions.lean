/- TimesFraction of the program comes to a plain function. -/
import Derived.Test.YtnkdjddnppajaaaFracBFnFractions
namespace Go.Proofs.Ytnkdjddnppajaaa.QFnFractions
open Go.RowKit Go.Proofs.YtnkdjddnppajaaaW.PrintWords Go.Proofs.YtnkdjddnppajaaaW.PrintLast Go.Proofs.Ytnkdjddnppajaaa.Lib

/-- What both functions return. -/
def tf (n x y : Int) : Int × Int × Int := if isFrac x y = true then (if -1000000 ≤ n ∧ n ≤ 1000000 then res (n * x) y else (0, 0, 2)) else (0, 0, 1)

theorem mul_bd {a b A B : Int} (h1 : -A ≤ a) (h2 : a ≤ A) (h3 : -B ≤ b) (h4 : b ≤ B) : -(A * B) ≤ a * b ∧ a * b ≤ A * B := by
  have hA : 0 ≤ A := by omega
  have hB : 0 ≤ B := by omega
  have key : a.natAbs * b.natAbs ≤ A.natAbs * B.natAbs := Nat.mul_le_mul (by omega) (by omega)
  rw [← Int.natAbs_mul, ← Int.natAbs_mul] at key
  have : 0 ≤ A * B := Int.mul_nonneg hA hB
  omega

theorem impl_times (n x y : Int) : Ev (fun k => impl_TimesFraction.f k n x y) (tf n x y) := by
  refine Ev.bind (impl_isFrac x y) ?_
  unfold tf
  by_cases h : isFrac x y = true
  · rw [if_pos h]
    refine ev_if_pos h ?_
    obtain ⟨a1, a2, a3, a4, _⟩ := (isFrac_iff x y).1 h
    by_cases h1 : -1000000 ≤ n ∧ n ≤ 1000000
    · have hb := mul_bd (a := n) (b := x) (A := 1000000) (B := 1000000000000) h1.1 h1.2 (by omega) (by omega)
      rw [if_pos h1, show impl_within.f n (-1000000) 1000000 = some true by simp [impl_within.f, h1]]
      refine ev_pure rfl (ev_if_pos rfl ?_)
      rw [w64 (by omega) (by omega), ← resz_pos (n := n * x) a1]
      exact Ev.bind (impl_orR _ _ (by omega) (by omega) (by omega)) (Ev.now _)
    · rw [if_neg h1, show impl_within.f n (-1000000) 1000000 = some false by simp only [impl_within.f]; split <;> simp; omega]
      exact ev_pure rfl (ev_if_neg (by simp) (Ev.now _))
  · rw [if_neg h]
    exact ev_if_neg h (Ev.now _)

end Go.Proofs.Ytnkdjddnppajaaa.QFnFractions
