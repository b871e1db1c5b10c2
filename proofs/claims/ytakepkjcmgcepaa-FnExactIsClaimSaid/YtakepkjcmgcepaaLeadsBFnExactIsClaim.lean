/- The leaders of a play: seats; those of a play's first cards are the first of its leaders. -/
import Derived.Test.YtakepkjcmgcepaaLeadsFnExactIsClaim
import Derived.Test.YtakepkjcmgcepaaRec
namespace Go.Proofs.Ytakepkjcmgcepaa.QFnExactIsClaim
open Go.RowKit Go.Proofs.YtakepkjcmgcepaaW.PrintWords Go.Proofs.YtakepkjcmgcepaaW.PrintLast Go.Proofs.YtakepkjcmgcepaaW.PrintMore Go.Proofs.Ytakepkjcmgcepaa.Lib
set_option linter.unusedVariables false
set_option linter.unusedSimpArgs false
theorem lead1_seat (s ld : Int) (l : List Int) (j : Nat) (hl : l.length ≤ 1048576) (h0 : 0 ≤ ld) (h1 : ld ≤ 3) : 0 ≤ lead1 s ld l j ∧ lead1 s ld l j ≤ 3 := by
  unfold lead1
  have hl' := hl
  have hb := bestOf_le s ((l.take (j + 4)).drop j)
  rw [List.length_drop, List.length_take] at hb
  rw [w64 (by omega) (by omega), Int.tmod_eq_emod_of_nonneg (by omega)]
  omega
theorem leads_seat (s : Int) (l : List Int) (hl : l.length ≤ 1048576) : ∀ (m j : Nat) (ld : Int), 0 ≤ ld → ld ≤ 3 → ∀ x ∈ leads s l m j ld, 0 ≤ x ∧ x ≤ 3
  | 0, _, _, _, _ => fun x hx => by rw [leads] at hx; cases hx
  | m + 1, j, ld, h0, h1 => fun x hx => by
    have hb := lead1_seat s ld l j hl h0 h1
    rw [leads, List.mem_cons] at hx
    rcases hx with rfl | hx
    · exact hb
    · exact leads_seat s l hl m (j + 4) _ hb.1 hb.2 x hx
theorem leaders_seat {s ld : Int} {l : List Int} (hl : l.length ≤ 1048576) (h0 : 0 ≤ ld) (h1 : ld ≤ 3) : ∀ x ∈ leadersOf s ld l, 0 ≤ x ∧ x ≤ 3 := fun x hx => by
  unfold leadersOf at hx
  rcases List.mem_cons.1 hx with rfl | hx
  · exact ⟨h0, h1⟩
  · exact leads_seat s l hl _ _ _ h0 h1 x hx
theorem lead1_take (s ld : Int) (l : List Int) {i j : Nat} (h : j + 4 ≤ i) : lead1 s ld (l.take i) j = lead1 s ld l j := by
  unfold lead1
  rw [List.take_take, Nat.min_eq_left h]
theorem leads_take (s : Int) (l : List Int) (i : Nat) : ∀ (m j : Nat) (ld : Int), j + 4 * m ≤ i → leads s (l.take i) m j ld = leads s l m j ld
  | 0, _, _, _ => rfl
  | m + 1, j, ld, h => by
    rw [leads, leads, lead1_take s ld l (by omega), leads_take s l i m (j + 4) _ (by omega)]
theorem leads_append (s : Int) (l : List Int) : ∀ (m n j : Nat) (ld : Int), ∃ ld', leads s l (m + n) j ld = leads s l m j ld ++ leads s l n (j + 4 * m) ld'
  | 0, n, j, ld => ⟨ld, by rw [Nat.zero_add, leads, List.nil_append, Nat.mul_zero, Nat.add_zero]⟩
  | m + 1, n, j, ld => by
    obtain ⟨ld', h⟩ := leads_append s l m n (j + 4) (lead1 s ld l j)
    refine ⟨ld', ?_⟩
    rw [show m + 1 + n = (m + n) + 1 by omega, leads, leads, h, show j + 4 * (m + 1) = j + 4 + 4 * m by omega, List.cons_append]
theorem leaders_take (s ld : Int) (l : List Int) {i : Nat} (hi : i ≤ l.length) : leadersOf s ld (l.take i) = (leadersOf s ld l).take (i / 4 + 1) := by
  unfold leadersOf
  rw [List.length_take, Nat.min_eq_left hi, List.take_succ_cons, leads_take s l i (i / 4) 0 ld (by omega)]
  obtain ⟨ld', h⟩ := leads_append s l (i / 4) (l.length / 4 - i / 4) 0 ld
  rw [show i / 4 + (l.length / 4 - i / 4) = l.length / 4 by omega] at h
  rw [h, List.take_append_of_le_length (by rw [leads_length]; omega), List.take_of_length_le (by rw [leads_length]; omega)]
theorem rd_take {l : List Int} {i j : Nat} (h : j < i) : rd (l.take i) (j : Int) = rd l (j : Int) := by
  simp only [rd, Int.toNat_natCast, List.getD_eq_getElem?_getD, List.getElem?_take]
  rw [if_pos h]
/-- Whose turn it is at card i. -/
def seatI (s ld : Int) (l : List Int) (i : Nat) : Int := Int.tmod (wrap64 (rd (leadersOf s ld l) ((i / 4 : Nat) : Int) + ((i % 4 : Nat) : Int))) 4
theorem seatI_nat (s ld : Int) (l : List Int) (i : Nat) : seatN (leadersOf s ld l) i = (seatI s ld l i).toNat := rfl
theorem seatI_bd {s ld : Int} {l : List Int} (hl : l.length ≤ 1048576) (h0 : 0 ≤ ld) (h1 : ld ≤ 3) {i : Nat} (hi : i ≤ l.length) : 0 ≤ seatI s ld l i ∧ seatI s ld l i < 4 := by
  have hm := leaders_seat (s := s) hl h0 h1 (rd (leadersOf s ld l) ((i / 4 : Nat) : Int)) (rd_mem (by omega) (by rw [leadersOf_length]; omega))
  unfold seatI
  rw [w64 (by omega) (by omega), Int.tmod_eq_emod_of_nonneg (by omega)]
  omega
theorem turn_eq (s ld : Int) (l : List Int) (hl : l.length ≤ 1048576) {i : Nat} (hi : i ≤ l.length) : Ev (fun k => spec_l08Turn.f k s ld (l.take i)) (seatI s ld l i) := by
  have ht : (l.take i).length = i := by rw [List.length_take]; omega
  have hL : ((leadersOf s ld l).take (i / 4 + 1)).length = i / 4 + 1 := by rw [List.length_take, leadersOf_length]; omega
  have h := l08Leaders_eq s ld (l.take i) (by omega)
  rw [leaders_take s ld l hi] at h
  have e1 : wrap64 ((((leadersOf s ld l).take (i / 4 + 1)).length : Int) - 1) = ((i / 4 : Nat) : Int) := by rw [hL, w64 (by omega) (by omega)]; omega
  refine Ev.bind h (Ev.congr (f := fun _ => some (seatI s ld l i)) (fun k => ?_) (Ev.now _))
  simp only [e1]
  rw [if_pos (by omega), if_pos (by rw [hL]; omega), rd_take (by omega), ht]
  rfl
end Go.Proofs.Ytakepkjcmgcepaa.QFnExactIsClaim
