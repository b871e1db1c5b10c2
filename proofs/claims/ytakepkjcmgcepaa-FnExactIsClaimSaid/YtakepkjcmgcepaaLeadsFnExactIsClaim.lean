/- The leaders of the tricks: both programs find the same. -/
import Derived.Test.YtakepkjcmgcepaaBestFnExactIsClaim
import Derived.Test.YtakepkjcmgcepaaPlainFnExactIsClaim
namespace Go.Proofs.Ytakepkjcmgcepaa.QFnExactIsClaim
open Go.RowKit Go.Proofs.YtakepkjcmgcepaaW.PrintWords Go.Proofs.YtakepkjcmgcepaaW.PrintLast Go.Proofs.YtakepkjcmgcepaaW.PrintMore Go.Proofs.Ytakepkjcmgcepaa.Lib
set_option linter.unusedVariables false
set_option linter.unusedSimpArgs false
/-- The leader behind the trick that begins at a place. -/
def lead1 (s ld : Int) (l : List Int) (j : Nat) : Int := Int.tmod (wrap64 (ld + (bestOf s ((l.take (j + 4)).drop j) : Nat))) 4
def leads (s : Int) (l : List Int) : Nat → Nat → Int → List Int
  | 0, _, _ => []
  | m + 1, j, ld => lead1 s ld l j :: leads s l m (j + 4) (lead1 s ld l j)
theorem leads_length (s : Int) (l : List Int) : ∀ (m j : Nat) (ld : Int), (leads s l m j ld).length = m
  | 0, _, _ => rfl
  | m + 1, j, ld => by rw [leads, List.length_cons, leads_length s l m]
def leadersOf (s ld : Int) (l : List Int) : List Int := ld :: leads s l (l.length / 4) 0 ld
theorem leadersOf_length (s ld : Int) (l : List Int) : (leadersOf s ld l).length = l.length / 4 + 1 := by
  unfold leadersOf; rw [List.length_cons, leads_length]
theorem rd_last (xs : List Int) (x : Int) : rd (xs ++ [x]) (((xs ++ [x]).length - 1 : Nat) : Int) = x := by
  rw [rd_lt (by simp)]; simp
theorem leaders_l0 (s ld0 : Int) (l : List Int) (hl : l.length ≤ 1048576) : ∀ (m j : Nat) (x : List Int) (ld : Int), j + 4 * m ≤ l.length → l.length < j + 4 * m + 4 → 0 < x.length → x.length + m ≤ 1048577 → rd x ((x.length - 1 : Nat) : Int) = ld → Ev (fun k => impl_leaders.l0 k x (j : Int) s ld0 l) (x ++ leads s l m j ld) := by
  intro m
  induction m with
  | zero =>
    intro j x ld h1 h2 h3 h4 h5
    have e4 : wrap64 ((j : Int) + 4) = ((j + 4 : Nat) : Int) := by rw [w64 (by omega) (by omega)]; omega
    rw [leads, List.append_nil]
    exact Ev.step (fun k => by simp only [impl_leaders.l0, e4]; rw [if_neg (by omega)]) (Ev.now _)
  | succ m ih =>
    intro j x ld h1 h2 h3 h4 h5
    have e4 : wrap64 ((j : Int) + 4) = ((j + 4 : Nat) : Int) := by rw [w64 (by omega) (by omega)]; omega
    have eL : wrap64 ((x.length : Int) - 1) = ((x.length - 1 : Nat) : Int) := by rw [w64 (by omega) (by omega)]; omega
    refine Ev.step (fun k => by simp only [impl_leaders.l0, e4, eL, Int.toNat_natCast]; rw [if_pos (by omega), if_pos (by omega), if_pos (by omega), if_pos (by omega), if_pos (by omega)]) ?_
    refine Ev.bind (best_eq s ((l.take (j + 4)).drop j) (by rw [List.length_drop, List.length_take]; omega)) ?_
    refine ev_if_pos (by omega) ?_
    rw [h5]
    have := ih (j + 4) (x ++ [lead1 s ld l j]) (lead1 s ld l j) (by omega) (by omega) (by simp) (by rw [List.length_append]; simp; omega) (rd_last _ _)
    rw [List.append_assoc] at this
    exact this
theorem leaders_eq (s ld : Int) (l : List Int) (hl : l.length ≤ 1048576) : Ev (fun k => impl_leaders.f k s ld l) (leadersOf s ld l) := by
  have := leaders_l0 s ld l hl (l.length / 4) 0 [ld] ld (by omega) (by omega) (by simp) (by simp; omega) (by simp [rd])
  exact this
theorem l08Winner_l0 (s ld : Int) (l : List Int) (hl : l.length ≤ 1048576) : ∀ (m i b : Nat), i + m = l.length → b < l.length → Ev (fun k => spec_l08Winner.l0 k s ld l (b : Int) (i : Int)) (Int.tmod (wrap64 (ld + (bestFrom s l m i b : Nat))) 4) := by
  intro m
  induction m with
  | zero =>
    intro i b hi hb
    rw [bestFrom]
    exact Ev.step (fun k => by simp only [spec_l08Winner.l0]; rw [if_neg (by omega)]) (Ev.now _)
  | succ m ih =>
    intro i b hi hb
    have e5 : wrap64 ((i : Int) + 1) = ((i + 1 : Nat) : Int) := by rw [w64 (by omega) (by omega)]; omega
    refine Ev.step (fun k => by simp only [spec_l08Winner.l0]; rw [if_pos (by omega), if_pos (by omega), if_pos (by omega), if_pos (by omega), e5]) ?_
    rw [bestFrom]
    by_cases q : wrap64 (Int.tdiv (rd l (b : Int)) 13) = wrap64 (Int.tdiv (rd l (i : Int)) 13)
    · rw [show beat s (rd l (i : Int)) (rd l (b : Int)) = decide (rd l (i : Int) > rd l (b : Int)) from if_pos q.symm]
      refine ev_if_pos q ?_
      by_cases c : rd l (i : Int) > rd l (b : Int)
      · rw [decide_eq_true c]
        exact ev_if_pos c (ih (i + 1) i (by omega) (by omega))
      · rw [decide_eq_false c]
        exact ev_if_neg c (ih (i + 1) b (by omega) hb)
    · rw [show beat s (rd l (i : Int)) (rd l (b : Int)) = (wrap64 (Int.tdiv (rd l (i : Int)) 13) == s) from if_neg (fun e => q e.symm)]
      refine ev_if_neg q ?_
      by_cases c : wrap64 (Int.tdiv (rd l (i : Int)) 13) = s
      · rw [if_pos (beq_iff_eq.2 c)]
        exact ev_if_pos c (ih (i + 1) i (by omega) (by omega))
      · rw [if_neg (fun e => c (beq_iff_eq.1 e))]
        exact ev_if_neg c (ih (i + 1) b (by omega) hb)
theorem l08Winner_eq (s ld : Int) (l : List Int) (hl : l.length ≤ 1048576) (h : 0 < l.length) : Ev (fun k => spec_l08Winner.f k s ld l) (Int.tmod (wrap64 (ld + (bestOf s l : Nat))) 4) := by
  rw [bestOf_one s l h]
  exact l08Winner_l0 s ld l hl (l.length - 1) 1 0 (by omega) h
theorem l08Leaders_l0 (s ld0 : Int) (l : List Int) (hl : l.length ≤ 1048576) : ∀ (m j : Nat) (x : List Int) (ld : Int), j + 4 * m ≤ l.length → l.length < j + 4 * m + 4 → 0 < x.length → x.length + m ≤ 1048577 → rd x ((x.length - 1 : Nat) : Int) = ld → Ev (fun k => spec_l08Leaders.l0 k x ((j + 4 : Nat) : Int) s ld0 l) (x ++ leads s l m j ld) := by
  intro m
  induction m with
  | zero =>
    intro j x ld h1 h2 h3 h4 h5
    rw [leads, List.append_nil]
    exact Ev.step (fun k => by simp only [spec_l08Leaders.l0]; rw [if_neg (by omega)]) (Ev.now _)
  | succ m ih =>
    intro j x ld h1 h2 h3 h4 h5
    have e4 : wrap64 (((j + 4 : Nat) : Int) + 4) = ((j + 4 + 4 : Nat) : Int) := by rw [w64 (by omega) (by omega)]; omega
    have e0 : wrap64 (((j + 4 : Nat) : Int) - 4) = (j : Int) := by rw [w64 (by omega) (by omega)]; omega
    have eL : wrap64 ((x.length : Int) - 1) = ((x.length - 1 : Nat) : Int) := by rw [w64 (by omega) (by omega)]; omega
    refine Ev.step (fun k => by simp only [spec_l08Leaders.l0, e4, e0, eL, Int.toNat_natCast]; rw [if_pos (by omega), if_pos (by omega), if_pos (by omega), if_pos (by omega), if_pos (by omega)]) ?_
    refine Ev.bind (l08Winner_eq s (rd x ((x.length - 1 : Nat) : Int)) ((l.take (j + 4)).drop j) (by rw [List.length_drop, List.length_take]; omega) (by rw [List.length_drop, List.length_take]; omega)) ?_
    refine ev_if_pos (by omega) ?_
    rw [h5]
    have := ih (j + 4) (x ++ [lead1 s ld l j]) (lead1 s ld l j) (by omega) (by omega) (by simp) (by rw [List.length_append]; simp; omega) (rd_last _ _)
    rw [List.append_assoc] at this
    exact this
theorem l08Leaders_eq (s ld : Int) (l : List Int) (hl : l.length ≤ 1048576) : Ev (fun k => spec_l08Leaders.f k s ld l) (leadersOf s ld l) :=
  l08Leaders_l0 s ld l hl (l.length / 4) 0 [ld] ld (by omega) (by omega) (by simp) (by simp; omega) (by simp [rd])
end Go.Proofs.Ytakepkjcmgcepaa.QFnExactIsClaim
