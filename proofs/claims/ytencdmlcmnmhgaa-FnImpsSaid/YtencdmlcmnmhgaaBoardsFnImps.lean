/- Both lists of the IMPs of a match are one list. -/
import Derived.Test.YtencdmlcmnmhgaaMatchFnImps
import Derived.Test.YtencdmlcmnmhgaaImpsFnImps
namespace Go.Proofs.Ytencdmlcmnmhgaa.QFnImps
open Go.RowKit Go.Proofs.YtencdmlcmnmhgaaW.PrintWords Go.Proofs.YtencdmlcmnmhgaaW.PrintLast Go.Proofs.YtencdmlcmnmhgaaW.PrintMore Go.Proofs.Ytencdmlcmnmhgaa.Lib

/-- What both functions return. -/
def bi (a b : List Int) : List Int × Int := if isM a b = true then (impsOf a b, 0) else ([], 1)
theorem isM_len {a b : List Int} (h : isM a b = true) : a.length = b.length ∧ a.length ≤ 100 := by
  obtain ⟨h1, _, h3⟩ := (isM_iff a b).1 h
  exact ⟨h3, ((scores_iff 100 a).1 h1).1⟩
theorem isM_diff {a b : List Int} (h : isM a b = true) {i : Int} (h0 : 0 ≤ i) (h1 : i < (a.length : Int)) : wrap64 (rd a i - rd b i) = rd a i - rd b i := by
  obtain ⟨h2, h3, h4⟩ := (isM_iff a b).1 h
  have p := scores_rd h2 h0 h1
  have q := scores_rd h3 h0 (by omega : i < (b.length : Int))
  exact w64 (by omega) (by omega)
theorem impsOf_take {a b : List Int} (h : a.length = b.length) {i : Nat} (hi : i < a.length) : impsOf (a.take (i + 1)) (b.take (i + 1)) = impsOf (a.take i) (b.take i) ++ [imps (rd a i - rd b i)] :=
  zip_take_succ hi (by omega) _
theorem impsOf_len (a b : List Int) : (impsOf a b).length ≤ a.length := by
  unfold impsOf; rw [List.length_zipWith]; omega

theorem impl_boards_l0 (a b : List Int) (h : isM a b = true) : ∀ (m i : Nat), i + m = a.length → Ev (fun k => impl_BoardImps.l0 k b (impsOf (a.take i) (b.take i)) a (a.length : Int) (i : Int)) (impsOf a b, 0) := by
  obtain ⟨hl, h100⟩ := isM_len h
  intro m
  induction m with
  | zero =>
    intro i hi
    rw [List.take_of_length_le (by omega), List.take_of_length_le (by omega)]
    exact Ev.step (fun k => by simp only [impl_BoardImps.l0]; rw [if_neg (by omega)]) (Ev.now _)
  | succ m ih =>
    intro i hi
    have hlen := impsOf_len (a.take i) (b.take i)
    rw [List.length_take] at hlen
    have e5 : wrap64 ((i : Int) + 1) = ((i + 1 : Nat) : Int) := by rw [w64 (by omega) (by omega)]; omega
    refine Ev.step (fun k => by simp only [impl_BoardImps.l0]; rw [if_pos (by omega), if_pos (by omega), if_pos (by omega), if_pos (by omega), isM_diff h (by omega) (by omega)]) ?_
    refine Ev.bind (impl_imps _) (ev_if_pos (by omega) ?_)
    rw [e5, ← impsOf_take hl (by omega)]
    exact ih (i + 1) (by omega)

theorem impl_boards (a b : List Int) : Ev (fun k => impl_BoardImps.f k a b) (bi a b) := by
  refine ev_pure (impl_match a b) ?_
  unfold bi
  by_cases h : isM a b = true
  · rw [if_pos h]
    exact ev_if_pos h (impl_boards_l0 a b h a.length 0 (by omega))
  · rw [if_neg h]
    exact ev_if_neg h (Ev.now _)

theorem spec_l13_l0 (a b : List Int) (h : isM a b = true) : ∀ (m i : Nat), i + m = a.length → Ev (fun k => spec_l13Imps.l0 k a b (impsOf (a.take i) (b.take i)) (i : Int)) (impsOf a b) := by
  obtain ⟨hl, h100⟩ := isM_len h
  intro m
  induction m with
  | zero =>
    intro i hi
    rw [List.take_of_length_le (by omega), List.take_of_length_le (by omega)]
    exact Ev.step (fun k => by simp only [spec_l13Imps.l0]; rw [if_neg (by omega)]) (Ev.now _)
  | succ m ih =>
    intro i hi
    have hlen := impsOf_len (a.take i) (b.take i)
    rw [List.length_take] at hlen
    have e5 : wrap64 ((i : Int) + 1) = ((i + 1 : Nat) : Int) := by rw [w64 (by omega) (by omega)]; omega
    refine Ev.step (fun k => by simp only [spec_l13Imps.l0]; rw [if_pos (by omega), if_pos (by omega), if_pos (by omega), isM_diff h (by omega) (by omega)]) ?_
    refine Ev.bind (spec_imps _) (ev_if_pos (by omega) ?_)
    rw [e5, ← impsOf_take hl (by omega)]
    exact ih (i + 1) (by omega)

theorem spec_l13 (a b : List Int) (h : isM a b = true) : Ev (fun k => spec_l13Imps.f k a b) (impsOf a b) := spec_l13_l0 a b h a.length 0 (by omega)

end Go.Proofs.Ytencdmlcmnmhgaa.QFnImps
