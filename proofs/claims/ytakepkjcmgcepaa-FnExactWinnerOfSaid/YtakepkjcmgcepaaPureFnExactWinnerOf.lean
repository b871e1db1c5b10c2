/- The program's WinnerOf returns what the reference's returns and leaves its arguments alone: for all arguments, no condition. -/
import Derived.Test.YtakepkjcmgcepaaBestFnExactWinnerOf
import Derived.Test.YtakepkjcmgcepaaUtilAFnExactWinnerOf
namespace Go.Proofs.Ytakepkjcmgcepaa.QFnExactWinnerOf
open Go.RowKit Go.Proofs.YtakepkjcmgcepaaW.PrintWords Go.Proofs.YtakepkjcmgcepaaW.PrintLast Go.Proofs.YtakepkjcmgcepaaW.PrintMore Go.Proofs.Ytakepkjcmgcepaa.Lib
theorem l15In_eq (a b c : Int) : spec_l15In.f a b c = some (decide (b ≤ a) && decide (a ≤ c)) := by
  unfold spec_l15In.f
  by_cases h : a ≥ b
  · rw [if_pos h, decide_eq_true (show b ≤ a from h)]; rfl
  · rw [if_neg h, decide_eq_false (show ¬ b ≤ a from h)]; rfl
theorem l15Has_l0 (l : List Int) (x : Int) (hl : l.length ≤ 1099511627776) : ∀ (m i : Nat), i + m = l.length → (l.take i).contains x = false → Ev (fun k => spec_l15Has.l0 k l x (i : Int)) (l.contains x) := by
  intro m
  induction m with
  | zero =>
    intro i hi hc
    rw [List.take_of_length_le (by omega)] at hc
    rw [hc]
    exact Ev.step (fun k => by simp only [spec_l15Has.l0]; rw [if_neg (by omega)]) (Ev.now _)
  | succ m ih =>
    intro i hi hc
    refine Ev.step (fun k => by simp only [spec_l15Has.l0]; rw [if_pos (by omega), if_pos (by omega), w64 (x := (i : Int) + 1) (by omega) (by omega)]) ?_
    by_cases c : rd l (i : Int) = x
    · have e : l.contains x = true := by
        rw [List.contains_iff_mem, ← c]; exact rd_mem (by omega) (by omega)
      rw [e]
      exact ev_if_pos c (Ev.now _)
    · refine ev_if_neg c (ih (i + 1) (by omega) ?_)
      rw [take_succ_rd (show i < l.length by omega), List.contains_append, hc]
      simp only [Bool.false_or, List.contains_cons, List.contains_nil, Bool.or_false]
      exact beq_eq_false_iff_ne.2 fun e => c e.symm
theorem l15Has_eq (l : List Int) (x : Int) (hl : l.length ≤ 1099511627776) : Ev (fun k => spec_l15Has.f k l x) (l.contains x) :=
  l15Has_l0 l x hl l.length 0 (by omega) (by simp)
theorem beats_eq (s c b : Int) : spec_l15Beats.f s c b = some (beat s c b) := by
  unfold spec_l15Beats.f beat
  split <;> rfl
theorem winner_l0 (s ld : Int) (l : List Int) (hl : l.length ≤ 1048576) : ∀ (m i b : Nat), i + m = l.length → b < l.length → Ev (fun k => spec_l15Winner.l0 k s ld l (b : Int) (i : Int)) (Int.tmod (wrap64 (ld + (bestFrom s l m i b : Nat))) 4) := by
  intro m
  induction m with
  | zero =>
    intro i b hi hb
    rw [bestFrom]
    exact Ev.step (fun k => by simp only [spec_l15Winner.l0]; rw [if_neg (by omega)]) (Ev.now _)
  | succ m ih =>
    intro i b hi hb
    have e5 : wrap64 ((i : Int) + 1) = ((i + 1 : Nat) : Int) := by rw [w64 (by omega) (by omega)]; omega
    refine Ev.step (fun k => by simp only [spec_l15Winner.l0]; rw [if_pos (by omega), if_pos (by omega), if_pos (by omega), if_pos (by omega), e5]) ?_
    refine ev_pure (beats_eq _ _ _) ?_
    rw [bestFrom]
    by_cases c : beat s (rd l (i : Int)) (rd l (b : Int)) = true
    · rw [if_pos c]
      exact ev_if_pos c (ih (i + 1) i (by omega) (by omega))
    · rw [if_neg c]
      exact ev_if_neg c (ih (i + 1) b (by omega) hb)
theorem winner_eq (s ld : Int) (l : List Int) (hl : l.length ≤ 1048576) (h : 0 < l.length) : Ev (fun k => spec_l15Winner.f k s ld l) (Int.tmod (wrap64 (ld + (bestOf s l : Nat))) 4) := by
  rw [bestOf_one s l h]
  exact winner_l0 s ld l hl (l.length - 1) 1 0 (by omega) h
theorem scan_l0 (s ld : Int) (l : List Int) (hl : l.length ≤ 1048576) (h : 0 < l.length) : ∀ (m i : Nat) (seen : List Int), i + m = l.length → (∀ x, seen.contains x = (l.take i).contains x) → Ev (fun k => spec_WinnerOf.l0 k s ld l (i : Int)) (if impl_IsPlainPlay.scan (l.drop i) seen = true then Int.tmod (wrap64 (ld + (bestOf s l : Nat))) 4 else -1) := by
  intro m
  induction m with
  | zero =>
    intro i seen hi hs
    rw [List.drop_eq_nil_of_le (by omega), if_pos (by rfl)]
    refine Ev.step (fun k => by simp only [spec_WinnerOf.l0]; rw [if_neg (by omega)]) ?_
    exact Ev.bind (winner_eq s ld l hl h) (Ev.now _)
  | succ m ih =>
    intro i seen hi hs
    have hk : i < l.length := by omega
    refine Ev.step (fun k => by simp only [spec_WinnerOf.l0]; rw [if_pos (by omega), if_pos (by omega), w64 (x := (i : Int) + 1) (by omega) (by omega)]) ?_
    refine ev_pure (l15In_eq _ _ _) ?_
    cases hb : (decide (0 ≤ rd l i) && decide (rd l i ≤ 51)) with
    | false =>
      rw [impl_IsPlainPlay.scan_bad hk hb]
      exact ev_if_neg (by simp) (Ev.now _)
    | true =>
      refine ev_if_pos rfl (ev_if_pos (by omega) ?_)
      have hp := l15Has_eq (l.take i) (rd l i) (by rw [List.length_take]; omega)
      rw [← hs] at hp
      refine Ev.bind hp ?_
      cases hd : seen.contains (rd l i) with
      | true =>
        rw [impl_IsPlainPlay.scan_dup hk hd]
        exact ev_if_pos rfl (Ev.now _)
      | false =>
        rw [Bool.and_eq_true, decide_eq_true_eq, decide_eq_true_eq] at hb
        rw [impl_IsPlainPlay.scan_step hk hb.1 hb.2 hd]
        refine ev_if_neg (by simp) (ih (i + 1) _ (by omega) fun x => ?_)
        rw [List.contains_cons, take_succ_rd hk, List.contains_append, hs]
        simp only [List.contains_cons, List.contains_nil, Bool.or_false]
        exact Bool.or_comm _ _
/-- What both return. -/
def win (s ld : Int) (l : List Int) : Int := if (decide (1 ≤ (l.length : Int)) && decide ((l.length : Int) ≤ 4)) = true then (if impl_IsPlainPlay.ok s ld l = true then Int.tmod (wrap64 (ld + (bestOf s l : Nat))) 4 else -1) else -1
theorem within_eq (a b c : Int) : impl_within.f a b c = some (decide (b ≤ a) && decide (a ≤ c)) := by
  unfold impl_within.f
  by_cases h : b ≤ a
  · rw [if_pos h, decide_eq_true h]; rfl
  · rw [if_neg h, decide_eq_false h]; rfl
theorem impl_win (s ld : Int) (l : List Int) (hl : l.length ≤ 1048576) : Ev (fun k => impl_WinnerOf.f k s ld l) (win s ld l) := by
  refine ev_pure (within_eq _ _ _) ?_
  unfold win
  by_cases h : (decide (1 ≤ (l.length : Int)) && decide ((l.length : Int) ≤ 4)) = true
  · rw [if_pos h]
    refine ev_if_pos h (ev_pure (a := impl_IsPlainPlay.ok s ld l) rfl ?_)
    by_cases g : impl_IsPlainPlay.ok s ld l = true
    · rw [if_pos g]
      exact ev_if_pos g (Ev.bind (best_eq s l hl) (Ev.now _))
    · rw [if_neg g]
      exact ev_if_neg g (Ev.now _)
  · rw [if_neg h]
    exact ev_if_neg h (Ev.now _)
theorem spec_win (s ld : Int) (l : List Int) (hl : l.length ≤ 1048576) : Ev (fun k => spec_WinnerOf.f k s ld l) (win s ld l) := by
  have hj : ∀ {r : Int}, -1 = r → Ev (fun k => spec_WinnerOf.j0 k s ld l true) r := fun e => by
    subst e
    exact Ev.step (fun k => by simp only [spec_WinnerOf.j0]; rw [if_pos trivial]) (Ev.now _)
  refine ev_pure (l15In_eq _ _ _) ?_
  unfold win impl_IsPlainPlay.ok
  cases (decide (0 ≤ s) && decide (s ≤ 4)) with
  | false => exact ev_if_neg (by simp) (hj (by simp))
  | true =>
    refine ev_if_pos rfl (ev_pure (l15In_eq _ _ _) ?_)
    cases (decide (0 ≤ ld) && decide (ld ≤ 3)) with
    | false => exact ev_if_neg (by simp) (hj (by simp))
    | true =>
      refine ev_if_pos rfl ?_
      by_cases h1 : (l.length : Int) < 1
      · refine ev_if_pos h1 (hj ?_)
        rw [if_neg (by rw [decide_eq_false (by omega)]; simp)]
      · refine ev_if_neg h1 ?_
        by_cases h4 : (l.length : Int) > 4
        · rw [if_neg (by rw [decide_eq_false (show ¬ (l.length : Int) ≤ 4 by omega)]; simp)]
          rw [decide_eq_true h4]
          exact hj rfl
        · rw [decide_eq_false h4, decide_eq_true (show 1 ≤ (l.length : Int) by omega), decide_eq_true (show (l.length : Int) ≤ 4 by omega), decide_eq_true (show l.length ≤ 52 by omega)]
          simp only [Bool.and_self, Bool.true_and, if_true]
          refine Ev.step (fun k => by simp only [spec_WinnerOf.j0]; rw [if_neg (by simp)]) ?_
          exact scan_l0 s ld l hl (by omega) l.length 0 [] (by omega) (by simp)
end Go.Proofs.Ytakepkjcmgcepaa.QFnExactWinnerOf
namespace Go.Proofs.Ytakepkjcmgcepaa.Pure
open Go.RowKit Go.Proofs.Ytakepkjcmgcepaa.QFnExactWinnerOf Go.Proofs.YtakepkjcmgcepaaW.PrintWords Go.Proofs.YtakepkjcmgcepaaW.PrintLast Go.Proofs.Ytakepkjcmgcepaa.Lib

theorem FnExactWinnerOf : laws_FnExactWinnerOf.Pure := by
  intro s ld l _ _ _ _ _
  by_cases ha : (l.length : Int) > 1048576
  · exact ev_true (ev_if_pos ha (Ev.now _))
  · have hl : l.length ≤ 1048576 := by omega
    refine ev_true (ev_if_neg ha ?_)
    refine Ev.bind (toI l (by omega)) (Ev.bind (spec_win s ld l hl) (Ev.bind (toI l (by omega)) (Ev.bind (impl_win s ld l hl) ?_)))
    refine ev_if_pos rfl (Ev.bind (toI l (by omega)) (Ev.bind (eqI_same _ (by omega)) (ev_if_pos rfl (Ev.now _))))
end Go.Proofs.Ytakepkjcmgcepaa.Pure
