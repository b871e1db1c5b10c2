/- Both programs answer alike to the question whether a play is plain. -/
import Derived.Test.YtakepkjcmgcepaaQFnExactIsClaimx
import Derived.Test.YtakepkjcmgcepaaLib
namespace Go.Proofs.Ytakepkjcmgcepaa.QFnExactIsClaim
open Go.RowKit Go.Proofs.YtakepkjcmgcepaaW.PrintWords Go.Proofs.YtakepkjcmgcepaaW.PrintLast Go.Proofs.YtakepkjcmgcepaaW.PrintMore Go.Proofs.Ytakepkjcmgcepaa.Lib
set_option linter.unusedVariables false
set_option linter.unusedSimpArgs false

theorem l01In_eq (a b c : Int) : spec_l01In.f a b c = some (decide (b ≤ a) && decide (a ≤ c)) := by
  unfold spec_l01In.f
  by_cases h : a ≥ b
  · rw [if_pos h, decide_eq_true (show b ≤ a from h)]; rfl
  · rw [if_neg h, decide_eq_false (show ¬ b ≤ a from h)]; rfl
theorem l01Card_eq (a : Int) : spec_l01Card.f a = some (decide (0 ≤ a) && decide (a ≤ 51)) := by
  unfold spec_l01Card.f; rw [l01In_eq]; rfl
theorem l01Has_l0 (l : List Int) (x : Int) (hl : l.length ≤ 1099511627776) : ∀ (m i : Nat), i + m = l.length → (l.take i).contains x = false → Ev (fun k => spec_l01Has.l0 k l x (i : Int)) (l.contains x) := by
  intro m
  induction m with
  | zero =>
    intro i hi hc
    rw [List.take_of_length_le (by omega)] at hc
    rw [hc]
    exact Ev.step (fun k => by simp only [spec_l01Has.l0]; rw [if_neg (by omega)]) (Ev.now _)
  | succ m ih =>
    intro i hi hc
    refine Ev.step (fun k => by simp only [spec_l01Has.l0]; rw [if_pos (by omega), if_pos (by omega), w64 (x := (i : Int) + 1) (by omega) (by omega)]) ?_
    by_cases c : rd l (i : Int) = x
    · have e : l.contains x = true := by
        rw [List.contains_iff_mem, ← c]; exact rd_mem (by omega) (by omega)
      rw [e]
      exact ev_if_pos c (Ev.now _)
    · refine ev_if_neg c (ih (i + 1) (by omega) ?_)
      rw [take_succ_rd (show i < l.length by omega), List.contains_append, hc]
      simp only [Bool.false_or, List.contains_cons, List.contains_nil, Bool.or_false]
      exact beq_eq_false_iff_ne.2 fun e => c e.symm
theorem l01Has_eq (l : List Int) (x : Int) (hl : l.length ≤ 1099511627776) : Ev (fun k => spec_l01Has.f k l x) (l.contains x) :=
  l01Has_l0 l x hl l.length 0 (by omega) (by simp)
/-- What the reference says of a play. -/
def plainS (a b : Int) (l : List Int) : Bool := (decide (0 ≤ a) && decide (a ≤ 4)) && ((decide (0 ≤ b) && decide (b ≤ 3)) && decide ((l.length : Int) ≤ 52))
theorem plainS_l0 (a b : Int) (l : List Int) (hl : l.length ≤ 1048576) : ∀ (m i : Nat) (s : List Int), i + m = l.length → (∀ x, s.contains x = (l.take i).contains x) → Ev (fun k => spec_IsPlainPlay.l0 k (i : Int) a b l) (impl_IsPlainPlay.scan (l.drop i) s && plainS a b l) := by
  intro m
  induction m with
  | zero =>
    intro i s hi hs
    rw [List.drop_eq_nil_of_le (by omega)]
    refine Ev.step (fun k => by simp only [spec_IsPlainPlay.l0]; rw [if_neg (by omega)]) ?_
    unfold plainS
    simp only [impl_IsPlainPlay.scan, Bool.true_and]
    refine ev_pure (l01In_eq _ _ _) ?_
    cases (decide (0 ≤ a) && decide (a ≤ 4)) with
    | false => exact ev_if_neg (by simp) (Ev.now _)
    | true =>
      refine ev_if_pos rfl (ev_pure (l01In_eq _ _ _) ?_)
      cases (decide (0 ≤ b) && decide (b ≤ 3)) with
      | false => exact ev_if_neg (by simp) (Ev.now _)
      | true => exact ev_if_pos rfl (Ev.now _)
  | succ m ih =>
    intro i s hi hs
    have hk : i < l.length := by omega
    refine Ev.step (fun k => by simp only [spec_IsPlainPlay.l0]; rw [if_pos (by omega), if_pos (by omega), w64 (x := (i : Int) + 1) (by omega) (by omega)]) ?_
    refine ev_pure (l01Card_eq _) ?_
    cases hb : (decide (0 ≤ rd l i) && decide (rd l i ≤ 51)) with
    | false =>
      rw [impl_IsPlainPlay.scan_bad hk hb]
      exact ev_if_neg (by simp) (Ev.now _)
    | true =>
      refine ev_if_pos rfl (ev_if_pos (by omega) ?_)
      have hp := l01Has_eq (l.take i) (rd l i) (by rw [List.length_take]; omega)
      rw [← hs] at hp
      refine Ev.bind hp ?_
      cases hd : s.contains (rd l i) with
      | true =>
        rw [impl_IsPlainPlay.scan_dup hk hd]
        exact ev_if_pos rfl (Ev.now _)
      | false =>
        rw [Bool.and_eq_true, decide_eq_true_eq, decide_eq_true_eq] at hb
        rw [impl_IsPlainPlay.scan_step hk hb.1 hb.2 hd]
        refine ev_if_neg (by simp) (ih (i + 1) _ (by omega) fun x => ?_)
        rw [List.contains_cons, take_succ_rd hk, List.contains_append, hs]
        simp only [List.contains_cons, List.contains_nil, Bool.or_false]
        exact Bool.or_comm _ _
theorem plain_eq (a b : Int) (l : List Int) (hl : l.length ≤ 1048576) : Ev (fun k => spec_IsPlainPlay.f k a b l) (impl_IsPlainPlay.ok a b l) := by
  have h := plainS_l0 a b l hl l.length 0 [] (by omega) (by simp)
  have e : (impl_IsPlainPlay.scan (l.drop 0) [] && plainS a b l) = impl_IsPlainPlay.ok a b l := by
    unfold plainS impl_IsPlainPlay.ok
    rw [List.drop_zero, show decide ((l.length : Int) ≤ 52) = decide (l.length ≤ 52) from decide_eq_decide.2 (by omega)]
    cases impl_IsPlainPlay.scan l [] <;> simp
  rw [e] at h
  exact h
end Go.Proofs.Ytakepkjcmgcepaa.QFnExactIsClaim
