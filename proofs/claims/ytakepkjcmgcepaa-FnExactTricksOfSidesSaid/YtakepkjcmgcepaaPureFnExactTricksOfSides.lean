/- The program's TricksOfSides returns what the reference's returns, leaves its argument alone, and shares no memory with it: for all plays, no condition. -/
import Derived.Test.YtakepkjcmgcepaaLeadsFnExactTricksOfSides
import Derived.Test.YtakepkjcmgcepaaMarkPlayFnExactTricksOfSides
import Derived.Test.YtakepkjcmgcepaaSayFnExactTricksOfSides
namespace Go.Proofs.Ytakepkjcmgcepaa.QFnExactTricksOfSides
open Go.RowKit Go.Proofs.YtakepkjcmgcepaaW.PrintWords Go.Proofs.YtakepkjcmgcepaaW.PrintLast Go.Proofs.YtakepkjcmgcepaaW.PrintMore Go.Proofs.Ytakepkjcmgcepaa.Lib
theorem lead1_bd (s ld : Int) (l : List Int) (j : Nat) (hl : l.length ≤ 1048576) (h0 : 0 ≤ ld) (h1 : ld ≤ 3) : 0 ≤ lead1 s ld l j ∧ lead1 s ld l j ≤ 3 := by
  unfold lead1
  have hl' := hl
  have hb := bestOf_le s ((l.take (j + 4)).drop j)
  rw [List.length_drop, List.length_take] at hb
  rw [w64 (by omega) (by omega), Int.tmod_eq_emod_of_nonneg (by omega)]
  omega
theorem leads_bd (s : Int) (l : List Int) (hl : l.length ≤ 1048576) : ∀ (m j : Nat) (ld : Int), 0 ≤ ld → ld ≤ 3 → ∀ x ∈ leads s l m j ld, 0 ≤ x
  | 0, _, _, _, _ => fun x hx => by rw [leads] at hx; cases hx
  | m + 1, j, ld, h0, h1 => fun x hx => by
    have hb := lead1_bd s ld l j hl h0 h1
    rw [leads, List.mem_cons] at hx
    rcases hx with rfl | hx
    · exact hb.1
    · exact leads_bd s l hl m (j + 4) _ hb.1 hb.2 x hx
/-- The tricks of both sides, counted. -/
def cnt : List Int → List Int → List Int
  | [], o => o
  | x :: xs, o => cnt xs (o.set (Int.tmod x 2).toNat (wrap64 (rd o (Int.tmod x 2) + 1)))
theorem cnt_length : ∀ (xs o : List Int), (cnt xs o).length = o.length
  | [], _ => rfl
  | x :: xs, o => by rw [cnt, cnt_length xs]; simp
theorem tmod2 {x : Int} (h : 0 ≤ x) : 0 ≤ Int.tmod x 2 ∧ Int.tmod x 2 < 2 := by
  rw [Int.tmod_eq_emod_of_nonneg h]; omega
theorem won_l0 (y : List Int) (hy : y.length ≤ 1048577) (hp : ∀ x ∈ y, 0 ≤ x) : ∀ (m i : Nat) (o : List Int), i + m = y.length → o.length = 2 → Ev (fun k => impl_won.l0 k o y (y.length : Int) (i : Int)) (cnt (y.drop i) o) := by
  intro m
  induction m with
  | zero =>
    intro i o hi ho
    rw [List.drop_eq_nil_of_le (by omega), cnt]
    exact Ev.step (fun k => by simp only [impl_won.l0]; rw [if_neg (by omega)]) (Ev.now _)
  | succ m ih =>
    intro i o hi ho
    have hk : i < y.length := by omega
    have e5 : wrap64 ((i : Int) + 1) = ((i + 1 : Nat) : Int) := by rw [w64 (by omega) (by omega)]; omega
    have hx := tmod2 (hp (rd y i) (rd_mem (by omega) (by omega)))
    rw [drop_rd hk, cnt]
    refine Ev.step (fun k => by simp only [impl_won.l0, e5]; rw [if_pos (by omega), if_pos (by omega), if_pos (by omega), if_pos (by omega), if_pos (by omega)]) (ih (i + 1) _ (by omega) (by simp [ho]))
theorem tricks_l0 (y : List Int) (hy : y.length ≤ 1048577) (hp : ∀ x ∈ y, 0 ≤ x) : ∀ (m i : Nat) (o : List Int), i + m = y.length → o.length = 2 → Ev (fun k => spec_l08Tricks.l0 k o y (i : Int)) (cnt (y.drop i) o) := by
  intro m
  induction m with
  | zero =>
    intro i o hi ho
    rw [List.drop_eq_nil_of_le (by omega), cnt]
    exact Ev.step (fun k => by simp only [spec_l08Tricks.l0]; rw [if_neg (by omega)]) (Ev.now _)
  | succ m ih =>
    intro i o hi ho
    have hk : i < y.length := by omega
    have e5 : wrap64 ((i : Int) + 1) = ((i + 1 : Nat) : Int) := by rw [w64 (by omega) (by omega)]; omega
    have hx := tmod2 (hp (rd y i) (rd_mem (by omega) (by omega)))
    rw [drop_rd hk, cnt]
    refine Ev.step (fun k => by simp only [spec_l08Tricks.l0, e5]; rw [if_pos (by omega), if_pos (by omega), if_pos (by omega), if_pos (by omega)]) (ih (i + 1) _ (by omega) (by simp [ho]))
def ans (a b : Int) (l : List Int) : List Int := if impl_IsPlainPlay.ok a b l = true then cnt ((leadersOf a b l).drop 1) [0, 0] else []
theorem ans_length (a b : Int) (l : List Int) (_ : l.length ≤ 1048576) : (ans a b l).length ≤ 1048577 := by
  unfold ans
  split
  · rw [cnt_length]; simp
  · simp
theorem ok_lead {a b : Int} {l : List Int} (h : impl_IsPlainPlay.ok a b l = true) : 0 ≤ b ∧ b ≤ 3 := by
  unfold impl_IsPlainPlay.ok at h
  simp only [Bool.and_eq_true, decide_eq_true_eq] at h
  exact h.2.1
theorem spec_ans (a b : Int) (l : List Int) (hl : l.length ≤ 1048576) : Ev (fun k => spec_TricksOfSides.f k a b l) (ans a b l) := by
  refine Ev.bind (plain_eq a b l hl) ?_
  unfold ans
  by_cases h : impl_IsPlainPlay.ok a b l = true
  · rw [if_pos h]
    have hb := ok_lead h
    refine ev_if_pos h (Ev.bind (Ev.bind (l08Leaders_eq a b l hl) ?_) (Ev.now _))
    exact tricks_l0 (leadersOf a b l) (by rw [leadersOf_length]; omega) (fun x hx => by
      unfold leadersOf at hx; rw [List.mem_cons] at hx
      rcases hx with rfl | hx
      · exact hb.1
      · exact leads_bd a l hl _ _ _ hb.1 hb.2 x hx) ((leadersOf a b l).length - 1) 1 [0, 0] (by rw [leadersOf_length]; omega) rfl
  · rw [if_neg h]
    exact ev_if_neg h (Ev.now _)
theorem impl_ans (a b : Int) (l : List Int) (hl : l.length ≤ 1048576) : Ev (fun k => impl_TricksOfSides.f k a b l) (ans a b l) := by
  refine ev_pure (a := impl_IsPlainPlay.ok a b l) rfl ?_
  unfold ans
  by_cases h : impl_IsPlainPlay.ok a b l = true
  · rw [if_pos h]
    have hb := ok_lead h
    refine ev_if_pos h (Ev.bind (ev_if_pos (by omega) (Ev.bind (leaders_eq a b l hl) (ev_if_pos (by rw [leadersOf_length]; omega) ?_))) (Ev.now _))
    refine ev_pure (a := (leadersOf a b l).drop 1) rfl ?_
    have e : (leadersOf a b l).drop 1 = leads a l (l.length / 4) 0 b := rfl
    have := won_l0 ((leadersOf a b l).drop 1) (by rw [List.length_drop, leadersOf_length]; omega) (fun x hx => by rw [e] at hx; exact leads_bd a l hl _ _ _ hb.1 hb.2 x hx) ((leadersOf a b l).drop 1).length 0 [0, 0] (by omega) rfl
    rw [List.drop_zero] at this
    exact this
  · rw [if_neg h]
    exact ev_if_neg h (Ev.now _)
end Go.Proofs.Ytakepkjcmgcepaa.QFnExactTricksOfSides
namespace Go.Proofs.Ytakepkjcmgcepaa.Pure
open Go.RowKit Go.Proofs.Ytakepkjcmgcepaa.QFnExactTricksOfSides Go.Proofs.YtakepkjcmgcepaaW.PrintWords Go.Proofs.YtakepkjcmgcepaaW.PrintLast Go.Proofs.Ytakepkjcmgcepaa.Lib

theorem FnExactTricksOfSides : laws_FnExactTricksOfSides.Pure := by
  intro a b l _ _ hl
  have hm : l.length ≤ 9223372036854775807 := Nat.le_trans hl.1 (by decide)
  by_cases hs : (1048576 : Int) < l.length
  · refine ev_true (ev_pure (szPlay_eq a b l 1048576 hm (by omega) (by omega)) ?_)
    rw [if_pos hs]
    exact ev_if_pos (by omega) (Ev.now _)
  · have hl' : l.length ≤ 1048576 := by omega
    have hs' := spec_ans a b l hl'
    have hi := impl_ans a b l hl'
    have ll := ans_length a b l hl'
    generalize ans a b l = r at hs' hi ll
    refine ev_true (ev_pure (szPlay_eq a b l 1048576 hm (by omega) (by omega)) ?_)
    rw [if_neg hs]
    refine ev_if_neg (by omega) (Ev.bind (toPlay_eq a b l hl') (Ev.bind hs' (Ev.bind (toPlay_eq a b l hl') (Ev.bind hi (Ev.bind (eqI_same r (by omega)) (ev_if_pos rfl ?_))))))
    refine Ev.bind (toPlay_eq a b l hl') (Ev.bind (eqPlay_same a b l hl') (ev_if_pos rfl ?_))
    refine Ev.bind (markPlay_eq a b l hl') (ev_if_neg (by simp only; omega) ?_)
    refine Ev.bind (eqI_same r (by omega)) ?_
    refine Ev.step (fun k => by simp only [laws_FnExactTricksOfSides.j0]; rw [if_neg (by simp)]) ?_
    refine Ev.bind (markI r 1 (by omega) (by omega) (by omega)) (Ev.bind (heldI 1 r.length (by omega) (by omega) (by omega)) (ev_if_neg (by omega) (ev_if_pos rfl ?_)))
    refine Ev.bind (toPlay_eq a b l hl') (Ev.bind hi (Ev.bind (eqI_same r (by omega)) (ev_if_pos rfl ?_)))
    exact Ev.bind (heldI 1 r.length (by omega) (by omega) (by omega)) (ev_if_neg (by omega) (ev_if_pos rfl (Ev.now _)))
end Go.Proofs.Ytakepkjcmgcepaa.Pure
