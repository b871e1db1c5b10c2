/- The program's MakeFraction returns what the reference's returns, for all arguments: no condition. -/
import Derived.Test.YtnkdjddnppajaaaFracBFnExactMakeFraction
namespace Go.Proofs.Ytnkdjddnppajaaa.PFnExactMakeFraction
open Go.RowKit Go.Proofs.YtnkdjddnppajaaaW.PrintWords Go.Proofs.YtnkdjddnppajaaaW.PrintLast Go.Proofs.Ytnkdjddnppajaaa.Lib

/-- What both functions return. -/
def mf (n d : Int) : Int × Int × Int := if d ≠ 0 ∧ -1000000000000 ≤ n ∧ n ≤ 1000000000000 ∧ -1000000000000 ≤ d ∧ d ≤ 1000000000000 then resz n d else (0, 0, 2)

theorem impl_mf (n d : Int) : Ev (fun k => impl_MakeFraction.f k n d) (mf n d) := by
  by_cases h0 : d = 0
  · rw [show mf n d = (0, 0, 2) by unfold mf; rw [if_neg (fun h => h.1 h0)]]
    exact ev_if_pos h0 (Ev.now _)
  · refine ev_if_neg h0 ?_
    by_cases h1 : -1000000000000 ≤ n ∧ n ≤ 1000000000000
    · rw [show impl_within.f n (-1000000000000) 1000000000000 = some true by simp [impl_within.f, h1]]
      refine ev_pure rfl (ev_if_pos rfl ?_)
      by_cases h2 : -1000000000000 ≤ d ∧ d ≤ 1000000000000
      · rw [show impl_within.f d (-1000000000000) 1000000000000 = some true by simp [impl_within.f, h2], show mf n d = resz n d by unfold mf; rw [if_pos ⟨h0, h1.1, h1.2, h2.1, h2.2⟩]]
        refine ev_pure rfl (ev_if_pos rfl (Ev.bind (impl_orR n d (by omega) h0 (by omega)) (Ev.now _)))
      · rw [show impl_within.f d (-1000000000000) 1000000000000 = some false by simp only [impl_within.f]; split <;> simp; omega, show mf n d = (0, 0, 2) by unfold mf; rw [if_neg (fun h => h2 h.2.2.2)]]
        exact ev_pure rfl (ev_if_neg (by simp) (Ev.now _))
    · rw [show impl_within.f n (-1000000000000) 1000000000000 = some false by simp only [impl_within.f]; split <;> simp; omega, show mf n d = (0, 0, 2) by unfold mf; rw [if_neg (fun h => h1 ⟨h.2.1, h.2.2.1⟩)]]
      exact ev_pure rfl (ev_if_neg (by simp) (Ev.now _))

theorem spec_mf_j0 (n d : Int) (h0 : d ≠ 0) (h1 : -1000000000000 ≤ n ∧ n ≤ 1000000000000) (h2 : -1000000000000 ≤ d ∧ d ≤ 1000000000000) : Ev (fun k => spec_MakeFraction.j0 k n d false) (resz n d) := by
  unfold resz
  refine Ev.step (fun k => by simp only [spec_MakeFraction.j0]; rw [if_neg (by simp)]) ?_
  by_cases h : d < 0
  · rw [if_pos h]
    refine ev_if_pos h ?_
    rw [w64 (x := -n) (by omega) (by omega), w64 (x := -d) (by omega) (by omega)]
    exact Ev.bind (spec_res _ _ (by omega) (by omega) (by omega)) (Ev.now _)
  · rw [if_neg h]
    exact ev_if_neg h (Ev.bind (spec_res _ _ (by omega) (by omega) (by omega)) (Ev.now _))

theorem spec_mf (n d : Int) : Ev (fun k => spec_MakeFraction.f k n d) (mf n d) := by
  have bad : Ev (fun k => spec_MakeFraction.j0 k n d true) (0, 0, 2) := Ev.step (fun k => by simp only [spec_MakeFraction.j0]; rw [if_pos trivial]) (Ev.now _)
  by_cases h0 : d = 0
  · rw [show mf n d = (0, 0, 2) by unfold mf; rw [if_neg (fun h => h.1 h0)]]
    exact ev_if_pos h0 bad
  · refine ev_if_neg h0 ?_
    by_cases h1 : -1000000000000 ≤ n ∧ n ≤ 1000000000000
    · rw [show spec_l01In.f n (-1000000000000) 1000000000000 = some true by simp [spec_l01In.f, h1]]
      refine ev_pure rfl (ev_if_pos rfl ?_)
      by_cases h2 : -1000000000000 ≤ d ∧ d ≤ 1000000000000
      · rw [show spec_l01In.f d (-1000000000000) 1000000000000 = some true by simp [spec_l01In.f, h2], show mf n d = resz n d by unfold mf; rw [if_pos ⟨h0, h1.1, h1.2, h2.1, h2.2⟩]]
        exact ev_pure rfl (spec_mf_j0 n d h0 h1 h2)
      · rw [show spec_l01In.f d (-1000000000000) 1000000000000 = some false by simp only [spec_l01In.f]; split <;> simp; omega, show mf n d = (0, 0, 2) by unfold mf; rw [if_neg (fun h => h2 h.2.2.2)]]
        exact ev_pure rfl bad
    · rw [show spec_l01In.f n (-1000000000000) 1000000000000 = some false by simp only [spec_l01In.f]; split <;> simp; omega, show mf n d = (0, 0, 2) by unfold mf; rw [if_neg (fun h => h1 ⟨h.2.1, h.2.2.1⟩)]]
      exact ev_pure rfl (ev_if_neg (by simp) bad)

end Go.Proofs.Ytnkdjddnppajaaa.PFnExactMakeFraction
namespace Go.Proofs.Ytnkdjddnppajaaa.Pure
open Go.RowKit Go.Proofs.Ytnkdjddnppajaaa.PFnExactMakeFraction Go.Proofs.YtnkdjddnppajaaaW.PrintWords Go.Proofs.YtnkdjddnppajaaaW.PrintLast Go.Proofs.Ytnkdjddnppajaaa.Lib

theorem FnExactMakeFraction : laws_FnExactMakeFraction.Pure := by
  intro n d _ _
  refine ev_true (Ev.bind (spec_mf n d) (Ev.bind (impl_mf n d) ?_))
  exact ev_one (by simp [laws_eqFraction.f])

end Go.Proofs.Ytnkdjddnppajaaa.Pure
