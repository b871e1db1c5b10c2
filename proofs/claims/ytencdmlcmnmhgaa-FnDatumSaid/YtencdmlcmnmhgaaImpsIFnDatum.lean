/- The program's ImpsOf comes to Lib.imps, for every whole number of 64 bits. -/
import Derived.Test.YtencdmlcmnmhgaaQFnDatumx
import Derived.Test.YtencdmlcmnmhgaaLib
namespace Go.Proofs.Ytencdmlcmnmhgaa.QFnDatum
open Go.RowKit Go.Proofs.YtencdmlcmnmhgaaW.PrintWords Go.Proofs.YtencdmlcmnmhgaaW.PrintLast Go.Proofs.YtencdmlcmnmhgaaW.PrintMore Go.Proofs.Ytencdmlcmnmhgaa.Lib

theorem impl_imps_l0 (d : Int) (L : List Int) (hL : L.length ≤ 1000) (hb : ∀ b ∈ L, 0 ≤ b ∧ b ≤ 4000) : ∀ (m i : Nat) (n : Int), i + m = L.length → -(i : Int) ≤ n → n ≤ i →
    Ev (fun k => impl_ImpsOf.l0 k d n L (L.length : Int) (i : Int)) (impsFrom d (L.drop i) n) := by
  intro m
  induction m with
  | zero =>
    intro i n hi h1 h2
    rw [List.drop_eq_nil_of_le (by omega)]
    exact Ev.step (fun k => by simp only [impl_ImpsOf.l0]; rw [if_neg (by omega)]; rfl) (Ev.now _)
  | succ m ih =>
    intro i n hi h1 h2
    have hlt : (i : Int) < (L.length : Int) := by omega
    have hbr := hb _ (rd_mem (xs := L) (i := (i : Int)) (by omega) hlt)
    rw [drop_rd (by omega)]
    simp only [impsFrom]
    have e1 : wrap64 (-(rd L i)) = -(rd L i) := w64 (by omega) (by omega)
    have e2 : wrap64 (n + 1) = n + 1 := w64 (by omega) (by omega)
    have e3 : wrap64 (n + 1 - 1) = n + 1 - 1 := w64 (by omega) (by omega)
    have e4 : wrap64 (n - 1) = n - 1 := w64 (by omega) (by omega)
    have e5 : wrap64 ((i : Int) + 1) = ((i + 1 : Nat) : Int) := by rw [w64 (by omega) (by omega)]; omega
    by_cases c1 : d ≥ rd L i <;> by_cases c2 : d ≤ -(rd L i)
    · rw [one_pos c1, one_pos c2]
      exact Ev.step (fun k => by simp only [impl_ImpsOf.l0]; rw [if_pos hlt, if_pos (by omega), if_pos hlt, if_pos c1, e1, if_pos c2, e2, e3, e5]) (ih (i + 1) _ (by omega) (by omega) (by omega))
    · rw [one_pos c1, one_neg c2]
      exact Ev.step (fun k => by simp only [impl_ImpsOf.l0]; rw [if_pos hlt, if_pos (by omega), if_pos hlt, if_pos c1, e1, if_neg c2, e2, e5, Int.sub_zero]) (ih (i + 1) _ (by omega) (by omega) (by omega))
    · rw [one_neg c1, one_pos c2]
      exact Ev.step (fun k => by simp only [impl_ImpsOf.l0]; rw [if_pos hlt, if_pos (by omega), if_pos hlt, if_neg c1, e1, if_pos c2, e4, e5, Int.add_zero]) (ih (i + 1) _ (by omega) (by omega) (by omega))
    · rw [one_neg c1, one_neg c2]
      exact Ev.step (fun k => by simp only [impl_ImpsOf.l0]; rw [if_pos hlt, if_pos (by omega), if_pos hlt, if_neg c1, e1, if_neg c2, e5, Int.add_zero, Int.sub_zero]) (ih (i + 1) _ (by omega) (by omega) (by omega))

theorem bounds_ok : ∀ b ∈ bounds, 0 ≤ b ∧ b ≤ 4000 := by decide

theorem impl_imps (d : Int) : Ev (fun k => impl_ImpsOf.f k d) (imps d) :=
  ev_pure (a := bounds) rfl (impl_imps_l0 d bounds (by decide) bounds_ok 24 0 0 (by decide) (by omega) (by omega))

end Go.Proofs.Ytencdmlcmnmhgaa.QFnDatum
