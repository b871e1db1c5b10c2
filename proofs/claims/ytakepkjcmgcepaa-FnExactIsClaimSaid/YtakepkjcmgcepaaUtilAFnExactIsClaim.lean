/- A copied list is the list; two lists are compared element by element. -/
import Derived.Test.YtakepkjcmgcepaaQFnExactIsClaimx
import Derived.Test.YtakepkjcmgcepaaLib
namespace Go.Proofs.Ytakepkjcmgcepaa.QFnExactIsClaim
open Go.RowKit Go.Proofs.YtakepkjcmgcepaaW.PrintWords Go.Proofs.YtakepkjcmgcepaaW.PrintLast Go.Proofs.YtakepkjcmgcepaaW.PrintMore Go.Proofs.Ytakepkjcmgcepaa.Lib
set_option linter.unusedVariables false
set_option linter.unusedSimpArgs false

theorem toI_l0 (l : List Int) (hl : l.length ≤ 1099511627776) : ∀ (m i : Nat) (x : List Int), i + m = l.length → x.length = l.length → (∀ j, j < i → x[j]? = l[j]?) → Ev (fun k => laws_toInt64S.l0 k l x (i : Int)) l := by
  intro m
  induction m with
  | zero =>
    intro i x hi hx hj
    have e : x = l := List.ext_getElem? fun j => by
      by_cases h : j < i
      · exact hj j h
      · rw [List.getElem?_eq_none (by omega), List.getElem?_eq_none (by omega)]
    subst e
    exact Ev.step (fun k => by simp only [laws_toInt64S.l0]; rw [if_neg (by omega)]) (Ev.now _)
  | succ m ih =>
    intro i x hi hx hj
    refine Ev.step (fun k => ?_) (ih (i + 1) (x.set i (rd l (i : Int))) (by omega) (by simp [hx]) (fun j h => ?_))
    · simp only [laws_toInt64S.l0]
      rw [if_pos (by omega), if_pos (by omega), if_pos (by omega), w64 (x := (i : Int) + 1) (by omega) (by omega)]
      rfl
    · by_cases e : j = i
      · subst e
        rw [List.getElem?_set_self (by omega), rd_lt (by omega), List.getElem?_eq_getElem]
      · rw [List.getElem?_set_ne (by omega)]; exact hj j (by omega)

theorem toI (l : List Int) (hl : l.length ≤ 1099511627776) : Ev (fun k => laws_toInt64S.f k l) l := by
  refine ev_if_pos (by omega) (ev_if_pos (by omega) ?_)
  exact toI_l0 l hl l.length 0 _ (by omega) (by simp) (fun j h => absurd h (by omega))

theorem eqI_l0 (a b : List Int) (hl : a.length ≤ 1099511627776) (he : a.length = b.length) : ∀ (m i : Nat), i + m = a.length → (∀ j, j < i → a[j]? = b[j]?) → Ev (fun k => laws_eqInt64S.l0 k a b (i : Int)) (decide (a = b)) := by
  intro m
  induction m with
  | zero =>
    intro i hi hj
    have e : a = b := List.ext_getElem? fun j => by
      by_cases h : j < i
      · exact hj j h
      · rw [List.getElem?_eq_none (by omega), List.getElem?_eq_none (by omega)]
    rw [decide_eq_true e]
    exact Ev.step (fun k => by simp only [laws_eqInt64S.l0]; rw [if_neg (by omega)]) (Ev.now _)
  | succ m ih =>
    intro i hi hj
    by_cases c : rd a (i : Int) = rd b (i : Int)
    · refine Ev.step (fun k => ?_) (ih (i + 1) (by omega) (fun j h => ?_))
      · simp only [laws_eqInt64S.l0]
        rw [if_pos (by omega), if_pos (by omega), if_pos (by omega), if_pos c, w64 (x := (i : Int) + 1) (by omega) (by omega)]
        rfl
      · by_cases e : j = i
        · subst e
          rw [rd_lt (by omega), rd_lt (by omega)] at c
          rw [List.getElem?_eq_getElem (by omega), List.getElem?_eq_getElem (by omega), c]
        · exact hj j (by omega)
    · have e : a ≠ b := fun e => c (by rw [e])
      rw [decide_eq_false e]
      exact Ev.step (fun k => by simp only [laws_eqInt64S.l0]; rw [if_pos (by omega), if_pos (by omega), if_pos (by omega), if_neg c]) (Ev.now _)

theorem eqI (a b : List Int) (hl : a.length ≤ 1099511627776) : Ev (fun k => laws_eqInt64S.f k a b) (decide (a = b)) := by
  by_cases h : a.length = b.length
  · exact ev_if_pos (by omega) (eqI_l0 a b hl h a.length 0 (by omega) (fun j h => absurd h (by omega)))
  · rw [decide_eq_false (fun e => h (by rw [e]))]
    exact ev_if_neg (by omega) (Ev.now _)

theorem eqI_same (a : List Int) (hl : a.length ≤ 1099511627776) : Ev (fun k => laws_eqInt64S.f k a a) true := by
  have := eqI a a hl
  rwa [decide_eq_true rfl] at this

end Go.Proofs.Ytakepkjcmgcepaa.QFnExactIsClaim
