/- The program's VictoryPoints and the reference's both come to one plain function, for all whole numbers of 64 bits. -/
import Derived.Test.YtnkdjddnppajaaaQFnVictoryx
import Derived.Test.YtnkdjddnppajaaaLib
namespace Go.Proofs.Ytnkdjddnppajaaa.QFnVictory
open Go.RowKit Go.Proofs.YtnkdjddnppajaaaW.PrintWords Go.Proofs.YtnkdjddnppajaaaW.PrintLast Go.Proofs.YtnkdjddnppajaaaW.PrintMore Go.Proofs.Ytnkdjddnppajaaa.Lib

/-- Are the arguments good? -/
def vpOk (x b : Int) : Bool := decide (1 ≤ b) && (decide (b ≤ 100) && (decide (-24 * b ≤ x) && decide (x ≤ 24 * b)))
/-- What both functions return. -/
def vpOf (x b : Int) : Int × Int × Int := if vpOk x b = true then vp x (root (225 * b)) else (0, 0, 2)

theorem vpOk_iff (x b : Int) : vpOk x b = true ↔ 1 ≤ b ∧ b ≤ 100 ∧ -24 * b ≤ x ∧ x ≤ 24 * b := by
  simp [vpOk]

theorem impl_root_l0 (n : Int) (hn : n ≤ 22500) : ∀ (f : Nat) (x : Int), x + f = 151 → 0 ≤ x → Ev (fun k => impl_root.l0 k n x) (rootTo f n x) := by
  intro f
  induction f with
  | zero =>
    intro x hx h0
    obtain rfl : x = 151 := by omega
    exact Ev.step (fun k => by simp only [impl_root.l0]; rw [if_neg (by rw [w64 (x := 151 + 1) (by omega) (by omega), w64 (by omega) (by omega)]; omega)]; rfl) (Ev.now _)
  | succ f ih =>
    intro x hx h0
    have hb := mul_le_sq (x := x + 1) (y := 152) (by omega) (by omega)
    have hc : 0 ≤ (x + 1) * (x + 1) := Int.mul_nonneg (by omega) (by omega)
    have e1 : wrap64 (x + 1) = x + 1 := w64 (by omega) (by omega)
    have e2 : wrap64 ((x + 1) * (x + 1)) = (x + 1) * (x + 1) := w64 (by omega) (by omega)
    simp only [rootTo]
    by_cases c : (x + 1) * (x + 1) ≤ n
    · rw [if_pos c]
      exact Ev.step (fun k => by simp only [impl_root.l0]; rw [e1, e2, if_pos c]) (ih (x + 1) (by omega) (by omega))
    · rw [if_neg c]
      exact Ev.step (fun k => by simp only [impl_root.l0]; rw [e1, e2, if_neg c]) (Ev.now _)

theorem impl_root_f (n : Int) (hn : n ≤ 22500) : Ev (fun k => impl_root.f k n) (root n) :=
  impl_root_l0 n hn 151 0 (by omega) (by omega)

theorem mx_abs (x : Int) : mx x (-x) = if x < 0 then -x else x := by unfold mx; split <;> split <;> omega

/-- The end of both functions, out of the root. -/
theorem vp_end {x r : Int} (h1 : -2400 ≤ x) (h2 : x ≤ 2400) (hr : 1 ≤ r) (hr2 : r ≤ 151) :
    (if (wrap64 ((mx x (wrap64 (-x))) + r)) = 0 then (none) else (if x < 0 then (some (wrap64 (2000 - (wrap64 (1000 + (wrap64 (Int.tdiv (wrap64 (1000 * (mx x (wrap64 (-x))))) (wrap64 ((mx x (wrap64 (-x))) + r))))))), wrap64 (1000 + (wrap64 (Int.tdiv (wrap64 (1000 * (mx x (wrap64 (-x))))) (wrap64 ((mx x (wrap64 (-x))) + r))))), (0 : Int))) else (some (wrap64 (1000 + (wrap64 (Int.tdiv (wrap64 (1000 * (mx x (wrap64 (-x))))) (wrap64 ((mx x (wrap64 (-x))) + r))))), wrap64 (2000 - (wrap64 (1000 + (wrap64 (Int.tdiv (wrap64 (1000 * (mx x (wrap64 (-x))))) (wrap64 ((mx x (wrap64 (-x))) + r))))))), 0)))) = some (vp x r) := by
  have e0 : wrap64 (-x) = -x := w64 (by omega) (by omega)
  rw [e0, mx_abs]
  have key : ∀ m : Int, 0 ≤ m → m ≤ 2400 → wrap64 (m + r) = m + r ∧ wrap64 (1000 * m) = 1000 * m ∧ wrap64 (Int.tdiv (1000 * m) (m + r)) = 1000 * m / (m + r) ∧ wrap64 (1000 + 1000 * m / (m + r)) = vpWin m r ∧ wrap64 (2000 - vpWin m r) = 2000 - vpWin m r := by
    intro m hm hm2
    have hb := vpWin_bd hm hr
    have hd : 1000 * m / (m + r) = vpWin m r - 1000 := by unfold vpWin; omega
    refine ⟨w64 (by omega) (by omega), w64 (by omega) (by omega), ?_, ?_, w64 (by omega) (by omega)⟩
    · rw [Int.tdiv_eq_ediv_of_nonneg (by omega), hd, w64 (by omega) (by omega)]
    · rw [hd, w64 (by omega) (by omega)]; omega
  unfold vp
  by_cases c : x < 0
  · obtain ⟨k1, k2, k3, k4, k5⟩ := key (-x) (by omega) (by omega)
    rw [if_pos c, if_pos c, if_pos c, k1, k2, k3, k4, k5, if_neg (by omega)]
  · obtain ⟨k1, k2, k3, k4, k5⟩ := key x (by omega) (by omega)
    rw [if_neg c, if_neg c, if_neg c, k1, k2, k3, k4, k5, if_neg (by omega)]

theorem vpOf_good {x b : Int} (h1 : 1 ≤ b) (h2 : b ≤ 100) (h3 : -24 * b ≤ x) (h4 : x ≤ 24 * b) : vpOf x b = vp x (root (225 * b)) := by
  unfold vpOf; rw [if_pos ((vpOk_iff x b).2 ⟨h1, h2, h3, h4⟩)]

theorem vpOf_bad {x b : Int} (h : ¬ (1 ≤ b ∧ b ≤ 100 ∧ -24 * b ≤ x ∧ x ≤ 24 * b)) : vpOf x b = (0, 0, 2) := by
  unfold vpOf; rw [if_neg (fun e => h ((vpOk_iff x b).1 e))]

theorem impl_vp (x b : Int) : Ev (fun k => impl_VictoryPoints.f k x b) (vpOf x b) := by
  have bad : ¬ (1 ≤ b ∧ b ≤ 100 ∧ -24 * b ≤ x ∧ x ≤ 24 * b) → Ev (fun k => impl_VictoryPoints.j0 k x b true) (vpOf x b) := by
    intro h
    rw [vpOf_bad h]
    exact Ev.step (fun k => by simp only [impl_VictoryPoints.j0]; rw [if_pos trivial]) (Ev.now _)
  by_cases h1 : 1 ≤ b
  · by_cases h2 : b ≤ 100
    · have e1 : wrap64 ((-24) * b) = -24 * b := w64 (by omega) (by omega)
      have e2 : wrap64 (24 * b) = 24 * b := w64 (by omega) (by omega)
      have e3 : wrap64 (225 * b) = 225 * b := w64 (by omega) (by omega)
      by_cases h3 : -24 * b ≤ x
      · by_cases h4 : x ≤ 24 * b
        · rw [vpOf_good h1 h2 h3 h4]
          refine Ev.congr (f := fun k => impl_VictoryPoints.j0 k x b false) (fun k => ?_) ?_
          · simp only [impl_VictoryPoints.f, impl_within.f]
            rw [if_pos h1]; simp only [Option.bind_some, decide_eq_true_eq]
            rw [if_pos h2, e1, e2, if_pos h3]; simp [h4]
          · refine Ev.step (fun k => by simp only [impl_VictoryPoints.j0]; rw [if_neg (by simp), e3]) (Ev.bind (impl_root_f _ (by omega)) ?_)
            exact ev_one (vp_end (by omega) (by omega) (root_pos (by omega)) (root_le _))
        · refine Ev.congr (fun k => ?_) (bad (fun h => h4 h.2.2.2))
          simp only [impl_VictoryPoints.f, impl_within.f]
          rw [if_pos h1]; simp only [Option.bind_some, decide_eq_true_eq]
          rw [if_pos h2, e1, e2, if_pos h3]; simp [h4]
      · refine Ev.congr (fun k => ?_) (bad (fun h => h3 h.2.2.1))
        simp only [impl_VictoryPoints.f, impl_within.f]
        rw [if_pos h1]; simp only [Option.bind_some, decide_eq_true_eq]
        rw [if_pos h2, e1, e2, if_neg h3]; simp
    · refine Ev.congr (fun k => ?_) (bad (fun h => h2 h.2.1))
      simp only [impl_VictoryPoints.f, impl_within.f]
      rw [if_pos h1]; simp only [Option.bind_some, decide_eq_true_eq]
      rw [if_neg h2]
  · refine Ev.congr (fun k => ?_) (bad (fun h => h1 h.1))
    simp only [impl_VictoryPoints.f, impl_within.f]
    rw [if_neg h1]; simp

theorem spec_vp_l0 (x b : Int) (h1 : 1 ≤ b) (h2 : b ≤ 100) (h3 : -24 * b ≤ x) (h4 : x ≤ 24 * b) (R : Int) (hR1 : 1 ≤ R) (hR2 : R ≤ 151) :
    ∀ (f : Nat) (r : Int), r + f = 151 → 0 ≤ r → rootTo f (225 * b) r = R → Ev (fun k => spec_VictoryPoints.l0 k x b r) (vp x R) := by
  have e3 : wrap64 (225 * b) = 225 * b := w64 (by omega) (by omega)
  intro f
  induction f with
  | zero =>
    intro r hx h0 hr
    simp only [rootTo] at hr
    subst hr
    obtain rfl : r = 151 := by omega
    exact Ev.step (fun k => by simp only [spec_VictoryPoints.l0]; rw [e3, if_neg (by rw [w64 (x := 151 + 1) (by omega) (by omega), w64 (by omega) (by omega)]; omega)]) (ev_one (vp_end (by omega) (by omega) hR1 hR2))
  | succ f ih =>
    intro r hx h0 hr
    have hb := mul_le_sq (x := r + 1) (y := 152) (by omega) (by omega)
    have hc : 0 ≤ (r + 1) * (r + 1) := Int.mul_nonneg (by omega) (by omega)
    have e1 : wrap64 (r + 1) = r + 1 := w64 (by omega) (by omega)
    have e2 : wrap64 ((r + 1) * (r + 1)) = (r + 1) * (r + 1) := w64 (by omega) (by omega)
    simp only [rootTo] at hr
    by_cases c : (r + 1) * (r + 1) ≤ 225 * b
    · rw [if_pos c] at hr
      exact Ev.step (fun k => by simp only [spec_VictoryPoints.l0]; rw [e1, e2, e3, if_pos c]) (ih (r + 1) (by omega) (by omega) hr)
    · rw [if_neg c] at hr
      subst hr
      exact Ev.step (fun k => by simp only [spec_VictoryPoints.l0]; rw [e1, e2, e3, if_neg c]) (ev_one (vp_end (by omega) (by omega) hR1 hR2))

theorem spec_vp (x b : Int) : Ev (fun k => spec_VictoryPoints.f k x b) (vpOf x b) := by
  have bad : ¬ (1 ≤ b ∧ b ≤ 100 ∧ -24 * b ≤ x ∧ x ≤ 24 * b) → Ev (fun k => spec_VictoryPoints.j0 k x b true) (vpOf x b) := by
    intro h
    rw [vpOf_bad h]
    exact Ev.step (fun k => by simp only [spec_VictoryPoints.j0]; rw [if_pos trivial]) (Ev.now _)
  by_cases h1 : 1 ≤ b
  · by_cases h2 : b ≤ 100
    · have e1 : wrap64 ((-24) * b) = -24 * b := w64 (by omega) (by omega)
      have e2 : wrap64 (24 * b) = 24 * b := w64 (by omega) (by omega)
      by_cases h3 : -24 * b ≤ x
      · by_cases h4 : x ≤ 24 * b
        · rw [vpOf_good h1 h2 h3 h4]
          refine Ev.congr (f := fun k => spec_VictoryPoints.j0 k x b false) (fun k => ?_) ?_
          · simp only [spec_VictoryPoints.f, spec_l01In.f]
            rw [if_pos h1]; simp only [Option.bind_some, decide_eq_true_eq]
            rw [if_pos h2, e1, e2, if_pos h3]; simp [h4]
          · exact Ev.step (fun k => by simp only [spec_VictoryPoints.j0]; rw [if_neg (by simp)]) (spec_vp_l0 x b h1 h2 h3 h4 _ (root_pos (by omega)) (root_le _) 151 0 (by omega) (by omega) rfl)
        · refine Ev.congr (fun k => ?_) (bad (fun h => h4 h.2.2.2))
          simp only [spec_VictoryPoints.f, spec_l01In.f]
          rw [if_pos h1]; simp only [Option.bind_some, decide_eq_true_eq]
          rw [if_pos h2, e1, e2, if_pos h3]; simp [h4]
      · refine Ev.congr (fun k => ?_) (bad (fun h => h3 h.2.2.1))
        simp only [spec_VictoryPoints.f, spec_l01In.f]
        rw [if_pos h1]; simp only [Option.bind_some, decide_eq_true_eq]
        rw [if_pos h2, e1, e2, if_neg h3]; simp
    · refine Ev.congr (fun k => ?_) (bad (fun h => h2 h.2.1))
      simp only [spec_VictoryPoints.f, spec_l01In.f]
      rw [if_pos h1]; simp only [Option.bind_some, decide_eq_true_eq]
      rw [if_neg h2]
  · refine Ev.congr (fun k => ?_) (bad (fun h => h1 h.1))
    simp only [spec_VictoryPoints.f, spec_l01In.f]
    rw [if_neg h1]; simp

end Go.Proofs.Ytnkdjddnppajaaa.QFnVictory
