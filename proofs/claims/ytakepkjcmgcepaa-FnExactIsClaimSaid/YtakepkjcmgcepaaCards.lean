/- Cards in lists: the plain functions that tell what a hand, a deal, a position is. -/
import Derived.Test.YtakepkjcmgcepaaWMore
namespace Go.Proofs.YtakepkjcmgcepaaW.PrintMore
open Go.RowKit Go.Proofs.YtakepkjcmgcepaaW.PrintWords Go.Proofs.YtakepkjcmgcepaaW.PrintLast
def cardB (x : Int) : Bool := decide (0 ≤ x) && decide (x ≤ 51)
theorem cardB_iff (x : Int) : cardB x = true ↔ 0 ≤ x ∧ x ≤ 51 := by simp [cardB]
/-- From place i on, m cards that go up strictly. -/
def incFrom (l : List Int) : Nat → Nat → Bool
  | 0, _ => true
  | m + 1, i => (cardB (rd l (i : Int)) && (decide (i = 0) || decide (rd l ((i : Int) - 1) < rd l (i : Int)))) && incFrom l m (i + 1)
def incB (l : List Int) : Bool := incFrom l l.length 0
def handB (l : List Int) : Bool := decide (l.length ≤ 13) && incB l
/-- Cards, all different and none of those seen. -/
def scan : List Int → List Int → Bool
  | [], _ => true
  | c :: cs, seen => cardB c && (!(seen.contains c) && scan cs (c :: seen))
theorem scan_append : ∀ (a b s : List Int), scan (a ++ b) s = (scan a s && scan b (a.reverse ++ s))
  | [], b, s => by simp [scan]
  | c :: cs, b, s => by
    rw [List.cons_append, scan, scan, scan_append cs b]
    simp [Bool.and_assoc]
theorem scan_iff : ∀ (l s : List Int), scan l s = true ↔ (∀ x ∈ l, 0 ≤ x ∧ x ≤ 51) ∧ l.Nodup ∧ ∀ x ∈ l, x ∉ s
  | [], s => by simp [scan]
  | c :: cs, s => by
    rw [scan, Bool.and_eq_true, Bool.and_eq_true, cardB_iff, scan_iff cs (c :: s)]
    simp only [Bool.not_eq_true', List.contains_eq_mem, decide_eq_false_iff_not, List.mem_cons, List.nodup_cons, forall_eq_or_imp, not_or]
    constructor
    · rintro ⟨h1, h2, h3, h4, h5⟩
      exact ⟨⟨h1, h3⟩, ⟨fun h => (h5 c h).1 rfl, h4⟩, h2, fun x hx => (h5 x hx).2⟩
    · rintro ⟨⟨h1, h3⟩, ⟨h4, h5⟩, h2, h6⟩
      exact ⟨h1, h2, h3, h5, fun x hx => ⟨fun e => h4 (e ▸ hx), h6 x hx⟩⟩
theorem incFrom_card (l : List Int) : ∀ (m i : Nat), incFrom l m i = true → ∀ j, i ≤ j → j < i + m → 0 ≤ rd l (j : Int) ∧ rd l (j : Int) ≤ 51
  | 0, i, _, j, h1, h2 => by omega
  | m + 1, i, h, j, h1, h2 => by
    rw [incFrom, Bool.and_eq_true, Bool.and_eq_true, cardB_iff] at h
    by_cases e : j = i
    · rw [e]; exact h.1.1
    · exact incFrom_card l m (i + 1) h.2 j (by omega) (by omega)
theorem handB_card {l : List Int} (h : handB l = true) {j : Nat} (hj : j < l.length) : 0 ≤ rd l (j : Int) ∧ rd l (j : Int) ≤ 51 := by
  unfold handB at h
  rw [Bool.and_eq_true] at h
  exact incFrom_card l l.length 0 h.2 j (Nat.zero_le _) (by omega)
theorem handB_len {l : List Int} (h : handB l = true) : l.length ≤ 13 := by
  unfold handB at h
  rw [Bool.and_eq_true, decide_eq_true_eq] at h
  exact h.1
theorem evP {α β : Type} {o : Option α} {f : Nat → α → Option β} {a : α} {r : β} (h : o = some a) (k : Ev (fun n => f n a) r) : Ev (fun n => o.bind (f n)) r := by
  subst h; exact k
theorem evT {α : Type} {c : Prop} [Decidable c] {f g : Nat → Option α} {r : α} (hc : c) (h : Ev f r) : Ev (fun n => if c then f n else g n) r := Ev.congr (fun _ => if_pos hc) h
theorem evF {α : Type} {c : Prop} [Decidable c] {f g : Nat → Option α} {r : α} (hc : ¬ c) (h : Ev g r) : Ev (fun n => if c then f n else g n) r := Ev.congr (fun _ => if_neg hc) h
theorem drop_rdI {xs : List Int} {i : Nat} (h : i < xs.length) : xs.drop i = rd xs (i : Int) :: xs.drop (i + 1) := by
  rw [show rd xs (i : Int) = xs[i] by simp [rd, List.getD_eq_getElem?_getD, h]]
  exact List.drop_eq_getElem_cons h
theorem drop_getD {xs : List (List Int)} {i : Nat} (h : i < xs.length) : xs.drop i = xs.getD i [] :: xs.drop (i + 1) := by
  rw [show xs.getD i [] = xs[i] by simp [List.getD_eq_getElem?_getD, h]]
  exact List.drop_eq_getElem_cons h
/-- A row of rows that is read: row i. -/
theorem row_at {w : World} {A : Option Addr} {n e : Nat} {xs : List (List Int)} (h : Kd.C (Kd.slice e (Kd.int .i64)) w A n xs) (i : Nat) (h1 : i < n) :
    ∃ ad Ah ch, A = some ad ∧ w.cell? (ad.add i) = some (.slice Ah (xs.getD i []).length ch) ∧ (xs.getD i []).length ≤ ch ∧ (Kd.int .i64).C w Ah (xs.getD i []).length (xs.getD i []) := by
  obtain ⟨ad, c, e0, _, hK, hc0⟩ := Kd.C_get h ([] : List Int) (i : Int) (by omega) (by omega)
  have hc : ∀ j u, c[j]? = some u → w.cell? (ad.add ((i : Int).toNat * 1 + j)) = some u := hc0
  obtain ⟨A0, c0, rfl, l0, g0⟩ := hK
  rw [Int.toNat_natCast] at hc l0 g0
  exact ⟨ad, A0, c0, e0, by have hq := hc 0 _ rfl; rw [Nat.mul_one, Nat.add_zero] at hq; exact hq, l0, g0⟩
/-- Hands of n cards each, all different. -/
def dealFrom (n : Nat) : List (List Int) → List Int → Bool
  | [], _ => true
  | h :: hs, s => (handB h && decide (h.length = n)) && (scan h s && dealFrom n hs (h.reverse ++ s))
def dealB (H : List (List Int)) : Bool := decide (H.length = 4) && dealFrom (H.headD []).length H []
/-- The seats' hands of a position: what each holds. -/
def seatB (T : List Int) (ld : Int) (n : Nat) (h : List Int) (seat : Nat) : Bool :=
  let at_ : Nat := ((seat : Int) + 4 - ld).toNat % 4
  incB h && (decide (h.length = if at_ < T.length then n - 1 else n) &&
    !(decide (at_ < T.length) && (decide (rd T at_ / 13 ≠ rd T 0 / 13) && h.any fun c => decide (c / 13 = rd T 0 / 13))))
def seatsB (T : List Int) (ld : Int) (n : Nat) : List (List Int) → Nat → Bool
  | [], _ => true
  | h :: hs, i => seatB T ld n h i && seatsB T ld n hs (i + 1)
def posB (H : List (List Int)) (s ld : Int) (T : List Int) : Bool :=
  ((decide (0 ≤ s) && decide (s ≤ 4)) && ((decide (0 ≤ ld) && decide (ld ≤ 3)) && (decide (T.length ≤ 3) && decide (H.length = 4)))) &&
    (scan (H ++ [T]).flatten [] && (!(decide (5 < (H.getD ((ld + 3) % 4).toNat []).length) || (decide (0 < T.length) && decide ((H.getD ((ld + 3) % 4).toNat []).length = 0))) &&
      seatsB T ld (H.getD ((ld + 3) % 4).toNat []).length H 0))
end Go.Proofs.YtakepkjcmgcepaaW.PrintMore
