/- The program's IsLoosePlay returns what the reference's returns and leaves its arguments alone: for all deals and plays, no condition. -/
import Derived.Test.YtakepkjcmgcepaaRecIFnExactIsLoosePlay
import Derived.Test.YtakepkjcmgcepaaPlayUFnExactIsLoosePlay
import Derived.Test.YtakepkjcmgcepaaUtilDealFnExactIsLoosePlay
import Derived.Test.YtakepkjcmgcepaaSayFnExactIsLoosePlay
namespace Go.Proofs.Ytakepkjcmgcepaa.QFnExactIsLoosePlay
open Go.RowKit Go.Proofs.YtakepkjcmgcepaaW.PrintWords Go.Proofs.YtakepkjcmgcepaaW.PrintLast Go.Proofs.YtakepkjcmgcepaaW.PrintMore Go.Proofs.Ytakepkjcmgcepaa.Lib
set_option linter.unusedVariables false
set_option linter.unusedSimpArgs false
def ans (H : List (List Int)) (s ld : Int) (l : List Int) : Bool :=
  if dealB H = true then (if impl_IsPlainPlay.ok s ld l = true then allFrom (looseAt H (leadersOf s ld l) l) l.length 0 else false) else false
theorem loose_l0 (H : List (List Int)) (s ld : Int) (l : List Int) (hl : l.length ≤ 1048576) (hH : H.length = 4) (hb : ∀ g ∈ H, g.length ≤ 13) (h0 : 0 ≤ ld) (h1 : ld ≤ 3) : ∀ (m i : Nat), i + m = l.length → Ev (fun k => spec_IsLoosePlay.l0 k (i : Int) H s ld l) (allFrom (looseAt H (leadersOf s ld l) l) m i) := by
  intro m
  induction m with
  | zero =>
    intro i hi
    exact Ev.step (f := fun _ => some true) (fun k => by simp only [spec_IsLoosePlay.l0]; rw [if_neg (by omega)]) (Ev.now _)
  | succ m ih =>
    intro i hi
    have e5 : wrap64 ((i : Int) + 1) = ((i + 1 : Nat) : Int) := by rw [w64 (by omega) (by omega)]; omega
    obtain ⟨s0, s1⟩ := seatI_bd (s := s) hl h0 h1 (show i ≤ l.length by omega)
    have s2 : seatI s ld l i < (H.length : Int) := by omega
    have hbg : spec_l08Begin.f s ld l (i : Int) = some (s, ld, l.take i) := by
      unfold spec_l08Begin.f
      rw [Option.bind_some, if_pos (by omega), if_pos (by omega), if_pos (by rw [List.length_take]; simp; omega)]
      rfl
    have hm : (rd_L1 H (seatI s ld l i)).length ≤ 13 := by
      show (H.getD (seatI s ld l i).toNat []).length ≤ 13
      rw [List.getD_eq_getElem?_getD, List.getElem?_eq_getElem (by omega)]
      exact hb _ (List.getElem_mem _)
    have hh := l01Has_eq (rd_L1 H (seatI s ld l i)) (rd l (i : Int)) (by omega)
    refine Ev.step (fun k => by simp only [spec_IsLoosePlay.l0, e5]; rw [if_pos (by omega)]) (ev_pure hbg (Ev.bind (turn_eq s ld l hl (show i ≤ l.length by omega)) (ev_if_pos s0 (ev_if_pos s2 (ev_if_pos (show (0 : Int) ≤ (i : Int) by omega) (Ev.bind hh ?_))))))
    rw [allFrom]
    show Ev _ (looseAt H (leadersOf s ld l) l i && _)
    have hla : (rd_L1 H (seatI s ld l i)).contains (rd l (i : Int)) = looseAt H (leadersOf s ld l) l i := rfl
    rw [hla]
    cases looseAt H (leadersOf s ld l) l i with
    | false => exact ev_if_neg (by simp) (Ev.now _)
    | true => exact ev_if_pos rfl (ih (i + 1) (by omega))
theorem spec_ans (H : List (List Int)) (s ld : Int) (l : List Int) (hl : l.length ≤ 1048576) : Ev (fun k => spec_IsLoosePlay.f k H s ld l) (ans H s ld l) := by
  have bad : Ev (fun k => spec_IsLoosePlay.j0 k true H s ld l) false := Ev.step (f := fun _ => some false) (fun k => by simp only [spec_IsLoosePlay.j0]; rw [if_pos trivial]) (Ev.now _)
  refine Ev.bind (sDeal_eq H) ?_
  unfold ans
  by_cases hd : dealB H = true
  · rw [if_pos hd]
    refine ev_if_pos hd (Ev.bind (plain_eq s ld l hl) ?_)
    by_cases hp : impl_IsPlainPlay.ok s ld l = true
    · rw [if_pos hp, hp]
      obtain ⟨h0, h1⟩ := ok_seat hp
      exact Ev.step (fun k => by simp only [spec_IsLoosePlay.j0]; rw [if_neg (by simp)]; rfl) (loose_l0 H s ld l hl (deal_four hd) (fun g hg => (deal_len hd g hg).2) h0 h1 l.length 0 (by omega))
    · rw [if_neg hp, show impl_IsPlainPlay.ok s ld l = false by simpa using hp]
      exact bad
  · rw [if_neg hd]
    exact ev_if_neg hd bad
theorem impl_ans (H : List (List Int)) (s ld : Int) (l : List Int) (hl : l.length ≤ 1048576) : Ev (fun k => impl_IsLoosePlay.f k H s ld l) (ans H s ld l) := by
  refine Ev.bind (recordOf_eq H s ld l hl) ?_
  unfold ans
  by_cases hd : dealB H = true
  · rw [if_pos hd]
    by_cases hp : impl_IsPlainPlay.ok s ld l = true
    · rw [if_pos hp, recA_eq hd hp]
      cases allFrom (looseAt H (leadersOf s ld l) l) l.length 0 <;> exact Ev.now _
    · rw [if_neg hp]
      unfold recA
      rw [if_pos hd, if_neg hp]
      exact Ev.now _
  · rw [if_neg hd]
    unfold recA
    rw [if_neg hd]
    exact Ev.now _
end Go.Proofs.Ytakepkjcmgcepaa.QFnExactIsLoosePlay
namespace Go.Proofs.Ytakepkjcmgcepaa.Pure
open Go.RowKit Go.Proofs.Ytakepkjcmgcepaa.QFnExactIsLoosePlay Go.Proofs.YtakepkjcmgcepaaW.PrintWords Go.Proofs.YtakepkjcmgcepaaW.PrintLast Go.Proofs.Ytakepkjcmgcepaa.Lib

theorem FnExactIsLoosePlay : laws_FnExactIsLoosePlay.Pure := by
  intro H a b l hH _ _ hl
  have hm : l.length ≤ 9223372036854775807 := Nat.le_trans hl.1 (by decide)
  have hHm : H.length ≤ 9223372036854775807 := Nat.le_trans hH.1 (by decide)
  have hHr : ∀ h ∈ H, h.length ≤ 9223372036854775807 := fun h hh => Nat.le_trans (hH.2 h hh).1 (by decide)
  refine ev_true (Ev.bind (szDeal_eq H 1048576 hHm hHr (by omega) (by omega)) ?_)
  by_cases hz : szH H 1048576 < 0
  · rw [if_pos hz]
    exact ev_if_pos (by omega) (Ev.now _)
  · rw [if_neg hz]
    obtain ⟨z1, z2⟩ := szH_row (H := H) (n := 1048576) (by omega) (by omega)
    have z3 := szH_le H 1048576 (by omega)
    have zH : H.length ≤ 1048576 := by omega
    have zR : ∀ h ∈ H, h.length ≤ 1048576 := fun h hh => by have := z2 h hh; omega
    refine ev_if_neg (by omega) ?_
    by_cases hs : szH H 1048576 < l.length
    · refine ev_pure (szPlay_eq a b l _ hm (by omega) (by omega)) ?_
      rw [if_pos hs]
      exact ev_if_pos (by omega) (Ev.now _)
    · have hl' : l.length ≤ 1048576 := by omega
      refine ev_pure (szPlay_eq a b l _ hm (by omega) (by omega)) ?_
      rw [if_neg hs]
      refine ev_if_neg (by omega) (Ev.bind (toDeal_eq H zH zR) (Ev.bind (toPlay_eq a b l hl') (Ev.bind (spec_ans H a b l hl') (Ev.bind (toDeal_eq H zH zR) (Ev.bind (toPlay_eq a b l hl') (Ev.bind (impl_ans H a b l hl') ?_))))))
      refine ev_if_neg (by simp) (Ev.bind (toDeal_eq H zH zR) (Ev.bind (eqDeal_same H zH zR) (ev_if_pos rfl ?_)))
      exact Ev.bind (toPlay_eq a b l hl') (Ev.bind (eqPlay_same a b l hl') (ev_if_pos rfl (Ev.now _)))
end Go.Proofs.Ytakepkjcmgcepaa.Pure
