/- MatchImps of the program and of the reference come to one plain function. -/
import Derived.Test.YtencdmlcmnmhgaaBoardsFnImps
namespace Go.Proofs.Ytencdmlcmnmhgaa.QFnImps
open Go.RowKit Go.Proofs.YtencdmlcmnmhgaaW.PrintWords Go.Proofs.YtencdmlcmnmhgaaW.PrintLast Go.Proofs.YtencdmlcmnmhgaaW.PrintMore Go.Proofs.Ytencdmlcmnmhgaa.Lib

/-- What both functions return. -/
def mi (a b : List Int) : Int × Int := if isM a b = true then (total (impsOf a b), 0) else (0, 1)
theorem total_take {l : List Int} {i : Nat} (h : i < l.length) : total (l.take (i + 1)) = total (l.take i) + rd l i := by
  rw [take_succ_rd h, total_append]; simp [total]
theorem take_bd {l : List Int} {c : Int} (h : ∀ x ∈ l, -c ≤ x ∧ x ≤ c) (i : Nat) : ∀ x ∈ l.take i, -c ≤ x ∧ x ≤ c := fun x hx => h x (List.mem_of_mem_take hx)

theorem spec_sum_l0 (l : List Int) (hl : l.length ≤ 1000) (hb : ∀ x ∈ l, -24 ≤ x ∧ x ≤ 24) : ∀ (m i : Nat), i + m = l.length → Ev (fun k => spec_l13Sum.l0 k l (total (l.take i)) (i : Int)) (total l) := by
  intro m
  induction m with
  | zero =>
    intro i hi
    rw [List.take_of_length_le (by omega)]
    exact Ev.step (fun k => by simp only [spec_l13Sum.l0]; rw [if_neg (by omega)]) (Ev.now _)
  | succ m ih =>
    intro i hi
    have h1 := total_bd _ (take_bd hb (i + 1))
    rw [List.length_take] at h1
    have e5 : wrap64 ((i : Int) + 1) = ((i + 1 : Nat) : Int) := by rw [w64 (by omega) (by omega)]; omega
    refine Ev.step (fun k => by simp only [spec_l13Sum.l0]; rw [if_pos (by omega), if_pos (by omega), ← total_take (by omega), e5, w64 (by omega) (by omega)]) (ih (i + 1) (by omega))

theorem spec_sum (l : List Int) (hl : l.length ≤ 1000) (hb : ∀ x ∈ l, -24 ≤ x ∧ x ≤ 24) : Ev (fun k => spec_l13Sum.f k l) (total l) := spec_sum_l0 l hl hb l.length 0 (by omega)

theorem impl_mi_l0 (c : Int) (l : List Int) (hl : l.length ≤ 1000) (hb : ∀ x ∈ l, -24 ≤ x ∧ x ≤ 24) : ∀ (m i : Nat), i + m = l.length → Ev (fun k => impl_MatchImps.l0 k c (total (l.take i)) l (l.length : Int) (i : Int)) (total l, c) := by
  intro m
  induction m with
  | zero =>
    intro i hi
    rw [List.take_of_length_le (by omega)]
    exact Ev.step (fun k => by simp only [impl_MatchImps.l0]; rw [if_neg (by omega)]) (Ev.now _)
  | succ m ih =>
    intro i hi
    have h1 := total_bd _ (take_bd hb (i + 1))
    rw [List.length_take] at h1
    have e5 : wrap64 ((i : Int) + 1) = ((i + 1 : Nat) : Int) := by rw [w64 (by omega) (by omega)]; omega
    refine Ev.step (fun k => by simp only [impl_MatchImps.l0]; rw [if_pos (by omega), if_pos (by omega), if_pos (by omega), ← total_take (by omega), e5, w64 (by omega) (by omega)]) (ih (i + 1) (by omega))

theorem impl_matches (a b : List Int) : Ev (fun k => impl_MatchImps.f k a b) (mi a b) := by
  refine Ev.bind (impl_boards a b) ?_
  unfold mi bi
  by_cases h : isM a b = true
  · rw [if_pos h, if_pos h]
    have hl := impsOf_len a b
    have hm := isM_len h
    exact impl_mi_l0 0 (impsOf a b) (by omega) (impsOf_bd a b) (impsOf a b).length 0 (by omega)
  · rw [if_neg h, if_neg h]
    exact impl_mi_l0 1 [] (by simp) (by simp) 0 0 rfl

theorem spec_matches (a b : List Int) (ha : a.length ≤ 1048576) (hb : b.length ≤ 1048576) : Ev (fun k => spec_MatchImps.f k a b) (mi a b) := by
  refine Ev.bind (spec_match a b (by omega) (by omega)) ?_
  unfold mi
  by_cases h : isM a b = true
  · rw [if_pos h]
    have hl := impsOf_len a b
    have hm := isM_len h
    exact ev_if_pos h (Ev.bind (spec_l13 a b h) (Ev.bind (spec_sum _ (by omega) (impsOf_bd a b)) (Ev.now _)))
  · rw [if_neg h]
    exact ev_if_neg h (Ev.now _)

end Go.Proofs.Ytencdmlcmnmhgaa.QFnImps
