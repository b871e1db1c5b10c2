/- The reference's and the program's greatest common divisors are the plain one, and both tests of a fraction are one test. -/
import Derived.Test.YtnkdjddnppajaaaQFnFractionsx
import Derived.Test.YtnkdjddnppajaaaLib
namespace Go.Proofs.Ytnkdjddnppajaaa.QFnFractions
open Go.RowKit Go.Proofs.YtnkdjddnppajaaaW.PrintWords Go.Proofs.YtnkdjddnppajaaaW.PrintLast Go.Proofs.YtnkdjddnppajaaaW.PrintMore Go.Proofs.Ytnkdjddnppajaaa.Lib

theorem spec_gcd_l0 : ∀ (m : Nat) (a b : Int), b.natAbs ≤ m → 0 ≤ a → 0 ≤ b → Ev (fun k => spec_l14Gcd.l0 k a b) (gz a b) := by
  intro m
  induction m with
  | zero =>
    intro a b hb h0 h1
    obtain rfl : b = 0 := by omega
    have e : gz a 0 = a := by unfold gz Int.gcd; simp; omega
    rw [e]
    exact Ev.step (fun k => by simp only [spec_l14Gcd.l0]; rw [if_pos trivial]) (Ev.now _)
  | succ m ih =>
    intro a b hb h0 h1
    by_cases hz : b = 0
    · subst hz
      have e : gz a 0 = a := by unfold gz Int.gcd; simp; omega
      rw [e]
      exact Ev.step (fun k => by simp only [spec_l14Gcd.l0]; rw [if_pos trivial]) (Ev.now _)
    · have hlt := natAbs_tmod_lt (a := a) hz
      rw [← gz_step]
      exact Ev.step (fun k => by simp only [spec_l14Gcd.l0]; rw [if_neg hz]) (ih b _ (by omega) h1 (Int.tmod_nonneg _ h0))

theorem spec_gcd (a b : Int) (h0 : 0 ≤ a) (h1 : 0 ≤ b) : Ev (fun k => spec_l14Gcd.f k a b) (gz a b) := spec_gcd_l0 _ a b (Nat.le_refl _) h0 h1

theorem impl_gcd_l0 : ∀ (m : Nat) (a b : Int), b.natAbs ≤ m → a.natAbs ≤ 9223372036854775807 → b.natAbs ≤ 9223372036854775807 → Ev (fun k => impl_gcd.l0 k a b) (gz a b) := by
  have zero : ∀ a : Int, a.natAbs ≤ 9223372036854775807 → Ev (fun k => impl_gcd.l0 k a 0) (gz a 0) := by
    intro a ha
    have e : gz a 0 = mx a (wrap64 (-a)) := by rw [w64 (by omega) (by omega), mx_natAbs]; unfold gz Int.gcd; simp
    rw [e]
    exact Ev.step (fun k => by simp only [impl_gcd.l0]; rw [if_pos trivial]) (Ev.now _)
  intro m
  induction m with
  | zero =>
    intro a b hb ha _
    obtain rfl : b = 0 := by omega
    exact zero a ha
  | succ m ih =>
    intro a b hb ha hbb
    by_cases hz : b = 0
    · subst hz; exact zero a ha
    · have hlt := natAbs_tmod_lt (a := a) hz
      rw [← gz_step]
      exact Ev.step (fun k => by simp only [impl_gcd.l0]; rw [if_neg hz]) (ih b _ (by omega) hbb (by omega))

theorem impl_gcd (a b : Int) (ha : a.natAbs ≤ 9223372036854775807) (hb : b.natAbs ≤ 9223372036854775807) : Ev (fun k => impl_gcd.f k a b) (gz a b) := impl_gcd_l0 _ a b (Nat.le_refl _) ha hb

theorem isFrac_no1 {n d : Int} (h : ¬ 1 ≤ d) : isFrac n d = false := by simp [isFrac, h]
theorem isFrac_no2 {n d : Int} (h : ¬ d ≤ 1000000) : isFrac n d = false := by simp [isFrac, h]
theorem isFrac_no3 {n d : Int} (h : ¬ -1000000 * d ≤ n) : isFrac n d = false := by simp only [isFrac, h]; simp
theorem isFrac_no4 {n d : Int} (h : ¬ n ≤ 1000000 * d) : isFrac n d = false := by simp [isFrac, h]
theorem isFrac_last {n d : Int} (h1 : 1 ≤ d) (h2 : d ≤ 1000000) (h3 : -1000000 * d ≤ n) (h4 : n ≤ 1000000 * d) : isFrac n d = (gz n d == 1) := by
  simp only [isFrac, h1, h2, h3, h4, decide_true, Bool.true_and]
  rw [Bool.eq_iff_iff]; simp

theorem spec_isFrac (n d : Int) : Ev (fun k => spec_IsFraction.f k n d) (isFrac n d) := by
  by_cases h1 : 1 ≤ d
  · by_cases h2 : d ≤ 1000000
    · have e1 : wrap64 ((-1000000) * d) = -1000000 * d := w64 (by omega) (by omega)
      have e2 : wrap64 (1000000 * d) = 1000000 * d := w64 (by omega) (by omega)
      refine Ev.congr (f := fun k => (spec_l01In.f n (-1000000 * d) (1000000 * d)).bind fun t108 => (if t108 = true then ((spec_l14Gcd.f k (mx n (wrap64 (-n))) d).bind fun t109 => (some (t109 == 1))) else (some false))) (fun k => ?_) ?_
      · simp only [spec_IsFraction.f]
        rw [show spec_l01In.f d 1 1000000 = some true by simp [spec_l01In.f, h1, h2]]
        simp only [Option.bind_some]; rw [if_pos trivial, e1, e2]
      · by_cases h3 : -1000000 * d ≤ n
        · by_cases h4 : n ≤ 1000000 * d
          · rw [show spec_l01In.f n (-1000000 * d) (1000000 * d) = some true by simp only [spec_l01In.f]; rw [if_pos h3]; simp [h4]]
            refine ev_pure rfl (ev_if_pos rfl ?_)
            rw [w64 (by omega) (by omega), mx_natAbs, isFrac_last h1 h2 h3 h4, ← gz_abs_left]
            exact Ev.bind (spec_gcd _ _ (by omega) (by omega)) (Ev.now _)
          · rw [show spec_l01In.f n (-1000000 * d) (1000000 * d) = some false by simp only [spec_l01In.f]; rw [if_pos h3]; simp [h4], isFrac_no4 h4]
            exact Ev.now _
        · rw [show spec_l01In.f n (-1000000 * d) (1000000 * d) = some false by simp only [spec_l01In.f]; rw [if_neg h3], isFrac_no3 h3]
          exact Ev.now _
    · rw [isFrac_no2 h2]
      exact Ev.congr (fun k => by simp only [spec_IsFraction.f]; rw [show spec_l01In.f d 1 1000000 = some false by simp [spec_l01In.f, h1, h2]]; rfl) (Ev.now _)
  · rw [isFrac_no1 h1]
    exact Ev.congr (fun k => by simp only [spec_IsFraction.f]; rw [show spec_l01In.f d 1 1000000 = some false by simp [spec_l01In.f, h1]]; rfl) (Ev.now _)

theorem impl_isFrac (n d : Int) : Ev (fun k => impl_IsFraction.f k n d) (isFrac n d) := by
  by_cases h1 : 1 ≤ d
  · by_cases h2 : d ≤ 1000000
    · have e1 : wrap64 ((-1000000) * d) = -1000000 * d := w64 (by omega) (by omega)
      have e2 : wrap64 (1000000 * d) = 1000000 * d := w64 (by omega) (by omega)
      refine Ev.congr (f := fun k => (impl_within.f n (-1000000 * d) (1000000 * d)).bind fun t108 => (if t108 = true then ((impl_gcd.f k n d).bind fun t109 => (some (t109 == 1))) else (some false))) (fun k => ?_) ?_
      · simp only [impl_IsFraction.f]
        rw [show impl_within.f d 1 1000000 = some true by simp [impl_within.f, h1, h2]]
        simp only [Option.bind_some]; rw [if_pos trivial, e1, e2]
      · by_cases h3 : -1000000 * d ≤ n
        · by_cases h4 : n ≤ 1000000 * d
          · rw [show impl_within.f n (-1000000 * d) (1000000 * d) = some true by simp only [impl_within.f]; rw [if_pos h3]; simp [h4]]
            refine ev_pure rfl (ev_if_pos rfl ?_)
            rw [isFrac_last h1 h2 h3 h4]
            exact Ev.bind (impl_gcd _ _ (by omega) (by omega)) (Ev.now _)
          · rw [show impl_within.f n (-1000000 * d) (1000000 * d) = some false by simp only [impl_within.f]; rw [if_pos h3]; simp [h4], isFrac_no4 h4]
            exact Ev.now _
        · rw [show impl_within.f n (-1000000 * d) (1000000 * d) = some false by simp only [impl_within.f]; rw [if_neg h3], isFrac_no3 h3]
          exact Ev.now _
    · rw [isFrac_no2 h2]
      exact Ev.congr (fun k => by simp only [impl_IsFraction.f]; rw [show impl_within.f d 1 1000000 = some false by simp [impl_within.f, h1, h2]]; rfl) (Ev.now _)
  · rw [isFrac_no1 h1]
    exact Ev.congr (fun k => by simp only [impl_IsFraction.f]; rw [show impl_within.f d 1 1000000 = some false by simp [impl_within.f, h1]]; rfl) (Ev.now _)

end Go.Proofs.Ytnkdjddnppajaaa.QFnFractions
