/- A play of a deal that is gone through: the hands that are left, in plain words. -/
import Derived.Test.YtakepkjcmgcepaaLib
import Derived.Test.YtakepkjcmgcepaaCards
namespace Go.Proofs.Ytakepkjcmgcepaa.Lib
open Go.RowKit Go.Proofs.YtakepkjcmgcepaaW.PrintWords Go.Proofs.YtakepkjcmgcepaaW.PrintLast Go.Proofs.YtakepkjcmgcepaaW.PrintMore
def suitN (c : Int) : Int := wrap64 (Int.tdiv c 13)
/-- The cards of a hand that can be played to a trick. -/
def followL (h t : List Int) : List Int := if 0 < t.length then (if 0 < (h.filter fun c => decide (suitN c = suitN (rd t 0))).length then h.filter fun c => decide (suitN c = suitN (rd t 0)) else h) else h
/-- The cards of a hand that are not among the first i of a play. -/
def leftL (l : List Int) (i : Nat) (h : List Int) : List Int := h.filter fun c => !((l.take i).contains c)
/-- The seat of card i. -/
def seatN (all : List Int) (i : Nat) : Nat := (Int.tmod (wrap64 (rd all ((i / 4 : Nat) : Int) + ((i % 4 : Nat) : Int))) 4).toNat
def trickL (l : List Int) (i : Nat) : List Int := (l.take i).drop (i / 4 * 4)
def looseAt (H : List (List Int)) (all l : List Int) (j : Nat) : Bool := (H.getD (seatN all j) []).contains (rd l (j : Int))
def legalAt (H : List (List Int)) (all l : List Int) (j : Nat) : Bool := (followL (leftL l j (H.getD (seatN all j) [])) (trickL l j)).contains (rd l (j : Int))
def allFrom (p : Nat → Bool) : Nat → Nat → Bool
  | 0, _ => true
  | m + 1, i => p i && allFrom p m (i + 1)
theorem allFrom_iff {p : Nat → Bool} : ∀ {m i : Nat}, allFrom p m i = true ↔ ∀ j, i ≤ j → j < i + m → p j = true
  | 0, i => by simp only [allFrom, true_iff]; intro j h1 h2; omega
  | m + 1, i => by
    rw [allFrom, Bool.and_eq_true, allFrom_iff]
    constructor
    · rintro ⟨h1, h2⟩ j h3 h4
      by_cases e : j = i
      · rw [e]; exact h1
      · exact h2 j (by omega) (by omega)
    · exact fun h => ⟨h i (by omega) (by omega), fun j h1 h2 => h j (by omega) (by omega)⟩
def recL (all l : List Int) : Nat → Nat → List (List Int) → Bool → Option (List (List Int) × Bool)
  | 0, _, H, pl => some (H, pl)
  | m + 1, i, H, pl => if (H.getD (seatN all i) []).contains (rd l (i : Int)) = true then recL all l m (i + 1) (H.set (seatN all i) ((H.getD (seatN all i) []).filter fun x => !(x == rd l (i : Int)))) (pl && (followL (H.getD (seatN all i) []) (trickL l i)).contains (rd l (i : Int))) else none
theorem leftL_nil (l : List Int) (i : Nat) : leftL l i [] = [] := rfl
theorem leftL_zero (l : List Int) (h : List Int) : leftL l 0 h = h := by simp [leftL]
theorem getD_map_left (l : List Int) (i : Nat) (H : List (List Int)) (s : Nat) : (H.map (leftL l i)).getD s [] = leftL l i (H.getD s []) := by
  simp only [List.getD_eq_getElem?_getD, List.getElem?_map]
  cases H[s]? <;> rfl
theorem mem_left {l : List Int} {i : Nat} {h : List Int} {c : Int} : c ∈ leftL l i h ↔ c ∈ h ∧ c ∉ l.take i := by
  simp [leftL]
theorem not_mem_take {l : List Int} (hn : l.Nodup) {i : Nat} (hi : i < l.length) : rd l (i : Int) ∉ l.take i := by
  rw [rd_lt hi]
  intro h
  obtain ⟨j, hj, e⟩ := List.mem_iff_getElem.1 h
  rw [List.length_take] at hj
  rw [List.getElem_take] at e
  rw [List.nodup_iff_pairwise_ne, List.pairwise_iff_getElem] at hn
  exact hn j i (by omega) hi (by omega) e
theorem contains_left {l : List Int} (hn : l.Nodup) {i : Nat} (hi : i < l.length) (h : List Int) : (leftL l i h).contains (rd l (i : Int)) = h.contains (rd l (i : Int)) := by
  rw [Bool.eq_iff_iff, List.contains_iff_mem, List.contains_iff_mem, mem_left]
  exact ⟨fun h => h.1, fun h => ⟨h, not_mem_take hn hi⟩⟩
theorem left_succ {l : List Int} {i : Nat} (hi : i < l.length) (h : List Int) : leftL l (i + 1) h = (leftL l i h).filter fun x => !(x == rd l (i : Int)) := by
  unfold leftL
  rw [List.filter_filter]
  congr 1
  funext c
  rw [take_succ_rd hi, List.contains_append, Bool.not_or]
  simp only [List.contains_cons, List.contains_nil, Bool.or_false]
  rw [Bool.and_comm]
/-- The hands have no card in common. -/
def Apart (H : List (List Int)) : Prop := ∀ (s t : Nat) (c : Int), c ∈ H.getD s [] → c ∈ H.getD t [] → s = t
theorem left_step {l : List Int} {H : List (List Int)} (ha : Apart H) {i s : Nat} (hi : i < l.length) (hc : rd l (i : Int) ∈ H.getD s []) :
    (H.map (leftL l i)).set s (((H.map (leftL l i)).getD s []).filter fun x => !(x == rd l (i : Int))) = H.map (leftL l (i + 1)) := by
  rw [getD_map_left, ← left_succ hi]
  apply List.ext_getElem?
  intro t
  rw [List.getElem?_set]
  by_cases e : s = t
  · subst e
    rw [if_pos rfl, List.length_map]
    by_cases hs : s < H.length
    · rw [if_pos hs, List.getElem?_map, List.getElem?_eq_getElem hs, List.getD_eq_getElem?_getD, List.getElem?_eq_getElem hs]; rfl
    · rw [if_neg hs, List.getElem?_map, List.getElem?_eq_none (by omega)]; rfl
  · rw [if_neg e, List.getElem?_map, List.getElem?_map]
    cases ht : H[t]? with
    | none => rfl
    | some h =>
      simp only [Option.map_some]
      rw [left_succ hi]
      congr 1
      refine (List.filter_eq_self.2 fun x hx => ?_).symm
      rw [mem_left] at hx
      have : ¬ x = rd l (i : Int) := fun e2 => e (ha s t _ hc (by rw [List.getD_eq_getElem?_getD, ht, ← e2]; exact hx.1))
      simp [this]
theorem recL_eq {l : List Int} (hn : l.Nodup) {H : List (List Int)} (ha : Apart H) (all : List Int) : ∀ (m i : Nat) (pl : Bool), i + m ≤ l.length →
    recL all l m i (H.map (leftL l i)) pl = if allFrom (looseAt H all l) m i = true then some (H.map (leftL l (i + m)), pl && allFrom (legalAt H all l) m i) else none
  | 0, i, pl, _ => by simp [recL, allFrom]
  | m + 1, i, pl, hm => by
    have hi : i < l.length := by omega
    rw [recL, allFrom, getD_map_left, contains_left hn hi]
    show (if looseAt H all l i = true then _ else none) = _
    cases hl : looseAt H all l i with
    | false => simp
    | true =>
      rw [if_pos rfl, Bool.true_and]
      have hc : rd l (i : Int) ∈ H.getD (seatN all i) [] := List.contains_iff_mem.1 hl
      have hst := left_step ha hi hc
      rw [getD_map_left] at hst
      rw [hst, recL_eq hn ha all m (i + 1) _ (by omega), allFrom]
      show (if _ then some (_, (pl && legalAt H all l i) && _) else none) = _
      rw [show i + 1 + m = i + (m + 1) by omega, Bool.and_assoc]
theorem follow_sub {h t : List Int} {c : Int} (hc : c ∈ followL h t) : c ∈ h := by
  unfold followL at hc
  split at hc
  · split at hc
    · exact (List.mem_filter.1 hc).1
    · exact hc
  · exact hc
theorem loose_of_legal {H : List (List Int)} {all l : List Int} {j : Nat} (h : legalAt H all l j = true) : looseAt H all l j = true := by
  unfold legalAt at h
  unfold looseAt
  rw [List.contains_iff_mem] at h ⊢
  exact (mem_left.1 (follow_sub h)).1
theorem all_loose {H : List (List Int)} {all l : List Int} {m i : Nat} (h : allFrom (legalAt H all l) m i = true) : allFrom (looseAt H all l) m i = true := by
  rw [allFrom_iff] at h ⊢
  exact fun j h1 h2 => loose_of_legal (h j h1 h2)
end Go.Proofs.Ytakepkjcmgcepaa.Lib
