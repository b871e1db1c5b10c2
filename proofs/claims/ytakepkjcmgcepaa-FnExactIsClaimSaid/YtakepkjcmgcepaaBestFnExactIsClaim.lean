/- The best card of a trick: where the program finds it. -/
import Derived.Test.YtakepkjcmgcepaaQFnExactIsClaimx
import Derived.Test.YtakepkjcmgcepaaLib
namespace Go.Proofs.Ytakepkjcmgcepaa.QFnExactIsClaim
open Go.RowKit Go.Proofs.YtakepkjcmgcepaaW.PrintWords Go.Proofs.YtakepkjcmgcepaaW.PrintLast Go.Proofs.YtakepkjcmgcepaaW.PrintMore Go.Proofs.Ytakepkjcmgcepaa.Lib
set_option linter.unusedVariables false
set_option linter.unusedSimpArgs false
/-- Does a card beat the best one so far? -/
def beat (s c b : Int) : Bool := if wrap64 (Int.tdiv c 13) = wrap64 (Int.tdiv b 13) then decide (c > b) else (wrap64 (Int.tdiv c 13) == s)
theorem beat_self (s c : Int) : beat s c c = false := by unfold beat; rw [if_pos rfl]; simp
def bestFrom (s : Int) (l : List Int) : Nat → Nat → Nat → Nat
  | 0, _, b => b
  | m + 1, i, b => bestFrom s l m (i + 1) (if beat s (rd l (i : Int)) (rd l (b : Int)) = true then i else b)
def bestOf (s : Int) (l : List Int) : Nat := bestFrom s l l.length 0 0
theorem bestOf_one (s : Int) (l : List Int) (h : 0 < l.length) : bestOf s l = bestFrom s l (l.length - 1) 1 0 := by
  obtain ⟨n, hn⟩ : ∃ n, l.length = n + 1 := ⟨l.length - 1, by omega⟩
  unfold bestOf
  rw [hn]
  show bestFrom s l (n + 1) 0 0 = bestFrom s l n 1 0
  rw [bestFrom]
  rw [if_neg (by rw [show ((0 : Nat) : Int) = 0 from rfl, beat_self]; simp)]
theorem bestFrom_lt (s : Int) (l : List Int) : ∀ (m i b : Nat), i + m ≤ l.length → b < l.length → bestFrom s l m i b < l.length
  | 0, _, _, _, hb => hb
  | m + 1, i, b, h, hb => by
    rw [bestFrom]
    refine bestFrom_lt s l m (i + 1) _ (by omega) ?_
    split <;> omega
theorem bestOf_le (s : Int) (l : List Int) : bestOf s l ≤ l.length := by
  by_cases h : 0 < l.length
  · exact Nat.le_of_lt (bestFrom_lt s l l.length 0 0 (by omega) h)
  · unfold bestOf; rw [show l.length = 0 by omega]; exact Nat.le_refl _
theorem wins_eq (s b c : Int) : impl_wins.f s b c = some (beat s c b) := by
  unfold impl_wins.f impl_suit.f beat
  simp only [Option.bind_some]
  split <;> rfl
theorem best_l0 (s : Int) (l : List Int) (hl : l.length ≤ 1048576) : ∀ (m i b : Nat), i + m = l.length → (0 < m → b < l.length) → Ev (fun k => impl_best.l0 k s l (b : Int) l (l.length : Int) (i : Int)) ((bestFrom s l m i b : Nat) : Int) := by
  intro m
  induction m with
  | zero =>
    intro i b hi hb
    rw [bestFrom]
    exact Ev.step (fun k => by simp only [impl_best.l0]; rw [if_neg (by omega)]) (Ev.now _)
  | succ m ih =>
    intro i b hi hb
    have hb' := hb (by omega)
    have e5 : wrap64 ((i : Int) + 1) = ((i + 1 : Nat) : Int) := by rw [w64 (by omega) (by omega)]; omega
    refine Ev.step (fun k => by simp only [impl_best.l0]; rw [if_pos (by omega), if_pos (by omega), if_pos (by omega), if_pos (by omega), if_pos (by omega), e5]) ?_
    refine ev_pure (wins_eq _ _ _) ?_
    rw [bestFrom]
    by_cases c : beat s (rd l (i : Int)) (rd l (b : Int)) = true
    · rw [if_pos c]
      exact ev_if_pos c (ih (i + 1) i (by omega) (fun _ => by omega))
    · rw [if_neg c]
      exact ev_if_neg c (ih (i + 1) b (by omega) (fun _ => hb'))
theorem best_eq (s : Int) (l : List Int) (hl : l.length ≤ 1048576) : Ev (fun k => impl_best.f k s l) ((bestOf s l : Nat) : Int) :=
  best_l0 s l hl l.length 0 0 (by omega) (fun h => h)
end Go.Proofs.Ytakepkjcmgcepaa.QFnExactIsClaim
