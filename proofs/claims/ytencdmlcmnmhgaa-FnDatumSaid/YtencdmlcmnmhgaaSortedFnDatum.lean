/- The reference's insertion sort and the library's sort give one list. -/
import Derived.Test.YtencdmlcmnmhgaaQFnDatumx
import Derived.Test.YtencdmlcmnmhgaaLib
namespace Go.Proofs.Ytencdmlcmnmhgaa.QFnDatum
set_option linter.unusedVariables false
open Go.RowKit Go.Proofs.YtencdmlcmnmhgaaW.PrintWords Go.Proofs.YtencdmlcmnmhgaaW.PrintLast Go.Proofs.YtencdmlcmnmhgaaW.PrintMore Go.Proofs.Ytencdmlcmnmhgaa.Lib
/-- Where an element goes: behind the last one that is not greater. -/
def spot (out : List Int) (x : Int) : Nat → Nat
  | 0 => 0
  | n + 1 => if rd out (n : Int) > x then spot out x n else n + 1
def insAt (out : List Int) (x : Int) (s : Nat) : List Int := out.take s ++ (x :: out.drop s)
def ins (x : Int) (out : List Int) : List Int := insAt out x (spot out x out.length)
def isort : List Int → List Int → List Int
  | [], o => o
  | x :: xs, o => isort xs (ins x o)
theorem spot_le (out : List Int) (x : Int) : ∀ n, spot out x n ≤ n
  | 0 => Nat.le_refl _
  | n + 1 => by
    rw [spot]
    split
    · have := spot_le out x n; omega
    · exact Nat.le_refl _
theorem spot_above (out : List Int) (x : Int) : ∀ n, n ≤ out.length → ∀ j, spot out x n ≤ j → j < n → x < rd out (j : Int)
  | 0, _, j, _, hj => by omega
  | n + 1, hn, j, h1, h2 => by
    rw [spot] at h1
    by_cases c : rd out (n : Int) > x
    · rw [if_pos c] at h1
      by_cases e : j = n
      · subst e; exact c
      · exact spot_above out x n (by omega) j h1 (by omega)
    · rw [if_neg c] at h1; omega
theorem spot_at (out : List Int) (x : Int) : ∀ n, 0 < spot out x n → rd out ((spot out x n - 1 : Nat) : Int) ≤ x
  | 0, h => by simp [spot] at h
  | n + 1, h => by
    rw [spot] at h ⊢
    by_cases c : rd out (n : Int) > x
    · rw [if_pos c] at h ⊢; exact spot_at out x n h
    · rw [if_neg c]; simp only [Nat.add_sub_cancel]; omega
abbrev Asc (l : List Int) : Prop := l.Pairwise (· ≤ ·)
theorem asc_rd {l : List Int} (h : Asc l) {i j : Nat} (hij : i ≤ j) (hj : j < l.length) : rd l (i : Int) ≤ rd l (j : Int) := by
  rw [rd_lt hj, rd_lt (by omega)]
  by_cases e : i = j
  · subst e; exact Int.le_refl _
  · exact List.pairwise_iff_getElem.1 h i j (by omega) hj (by omega)
theorem mem_take_rd {l : List Int} {s : Nat} {a : Int} (h : a ∈ l.take s) : ∃ i : Nat, i < s ∧ i < l.length ∧ rd l (i : Int) = a := by
  obtain ⟨i, hi, e⟩ := List.getElem_of_mem h
  rw [List.length_take] at hi
  refine ⟨i, by omega, by omega, ?_⟩
  rw [rd_lt (by omega), ← e, List.getElem_take]
theorem mem_drop_rd {l : List Int} {s : Nat} {a : Int} (h : a ∈ l.drop s) : ∃ i : Nat, s ≤ i ∧ i < l.length ∧ rd l (i : Int) = a := by
  obtain ⟨i, hi, e⟩ := List.getElem_of_mem h
  rw [List.length_drop] at hi
  refine ⟨s + i, by omega, by omega, ?_⟩
  rw [rd_lt (by omega), ← e, List.getElem_drop]
theorem ins_asc {x : Int} {out : List Int} (h : Asc out) : Asc (ins x out) := by
  unfold ins insAt
  have hs := spot_le out x out.length
  refine List.pairwise_append.2 ⟨h.sublist (List.take_sublist _ _), List.pairwise_cons.2 ⟨fun b hb => ?_, h.sublist (List.drop_sublist _ _)⟩, fun a ha b hb => ?_⟩
  · obtain ⟨j, h1, h2, rfl⟩ := mem_drop_rd hb
    exact Int.le_of_lt (spot_above out x out.length (Nat.le_refl _) j h1 h2)
  · obtain ⟨i, h1, h2, rfl⟩ := mem_take_rd ha
    have hx : rd out (i : Int) ≤ x := Int.le_trans (asc_rd h (show i ≤ spot out x out.length - 1 by omega) (by omega)) (spot_at out x out.length (by omega))
    rw [List.mem_cons] at hb
    rcases hb with rfl | hb
    · exact hx
    · obtain ⟨j, h3, h4, rfl⟩ := mem_drop_rd hb
      exact Int.le_trans hx (Int.le_of_lt (spot_above out x out.length (Nat.le_refl _) j h3 h4))
theorem ins_perm (x : Int) (out : List Int) : (ins x out).Perm (x :: out) := by
  unfold ins insAt
  refine List.perm_middle.trans ?_
  rw [List.take_append_drop]
theorem ins_length (x : Int) (out : List Int) : (ins x out).length = out.length + 1 := by
  rw [(ins_perm x out).length_eq, List.length_cons]
theorem isort_asc : ∀ (l o : List Int), Asc o → Asc (isort l o)
  | [], _, h => h
  | x :: xs, o, h => isort_asc xs _ (ins_asc h)
theorem isort_perm : ∀ (l o : List Int), (isort l o).Perm (l ++ o)
  | [], _ => List.Perm.refl _
  | x :: xs, o => by
    rw [isort]
    show (isort xs (ins x o)).Perm (x :: xs ++ o)
    refine (isort_perm xs _).trans (((ins_perm x o).append_left xs).trans ?_)
    exact List.perm_middle
/-- The sorted list. -/
def srt (l : List Int) : List Int := l.mergeSort fun x y => decide (x ≤ y)
theorem srt_perm (l : List Int) : (srt l).Perm l := List.mergeSort_perm _ _
theorem srt_length (l : List Int) : (srt l).length = l.length := (srt_perm l).length_eq
theorem isort_eq (l : List Int) : isort l [] = srt l := by
  refine List.Perm.eq_of_pairwise (le := fun a b => a ≤ b) (fun a b _ _ h1 h2 => Int.le_antisymm h1 h2) (isort_asc l [] List.Pairwise.nil) ?_ ?_
  · have := List.pairwise_mergeSort (le := fun x y : Int => decide (x ≤ y)) (fun a b c h1 h2 => by simp only [decide_eq_true_eq] at *; omega) (fun a b => by simp only [Bool.or_eq_true, decide_eq_true_eq]; omega) l
    simpa [srt] using this
  · have := isort_perm l []
    rw [List.append_nil] at this
    exact this.trans (srt_perm l).symm
theorem sorted_l1 (l out : List Int) (i : Nat) (r : List Int) (hi : i < l.length) (hl : l.length ≤ 1048576) (ho : out.length ≤ 1048576) : ∀ n, n ≤ out.length → Ev (fun k => spec_l13Sorted.l0 k l (insAt out (rd l (i : Int)) (spot out (rd l (i : Int)) n)) ((i + 1 : Nat) : Int)) r → Ev (fun k => spec_l13Sorted.l1 k l out (i : Int) (n : Int)) r := by
  have e5 : wrap64 ((i : Int) + 1) = ((i + 1 : Nat) : Int) := by rw [w64 (by omega) (by omega)]; omega
  have fin : ∀ s, s ≤ out.length → ([] : List Int) ++ out.take s ++ ([rd l (i : Int)] ++ out.drop s) = insAt out (rd l (i : Int)) s := fun s _ => by unfold insAt; simp
  have ll : ∀ s, ([rd l (i : Int)] : List Int).length + (out.drop s).length < 17592186044416 := fun s => by simp only [List.length_cons, List.length_nil, List.length_drop]; omega
  have l2 : ∀ s, ([] : List Int).length + (out.take s).length < 17592186044416 := fun s => by simp only [List.length_nil, List.length_take]; omega
  have l3 : ∀ s, (([] : List Int) ++ out.take s).length + ([rd l (i : Int)] ++ out.drop s).length < 17592186044416 := fun s => by simp only [List.length_append, List.length_cons, List.length_nil, List.length_drop, List.length_take]; omega
  intro n
  induction n with
  | zero =>
    intro hn h
    rw [spot] at h
    refine Ev.step (fun k => by simp only [spec_l13Sorted.l1, Option.bind_some]; rw [if_neg (by omega), if_pos (by omega), if_pos (by omega), if_pos (by omega), if_pos (by omega), Int.toNat_natCast, if_pos (ll 0), if_pos (l2 0), if_pos (l3 0), fin 0 (by omega), e5]) h
  | succ n ih =>
    intro hn h
    have e1 : wrap64 (((n + 1 : Nat) : Int) - 1) = (n : Int) := by rw [w64 (by omega) (by omega)]; omega
    rw [spot] at h
    by_cases c : rd out (n : Int) > rd l (i : Int)
    · rw [if_pos c] at h
      exact Ev.step (fun k => by simp only [spec_l13Sorted.l1, e1]; rw [if_pos (by omega), if_pos (by omega), if_pos (by omega), if_pos (by omega), if_pos (by omega), if_pos c]) (ih (by omega) h)
    · rw [if_neg c] at h
      refine Ev.step (fun k => by simp only [spec_l13Sorted.l1, e1, Option.bind_some]; rw [if_pos (by omega), if_pos (by omega), if_pos (by omega), if_pos (by omega), if_pos (by omega), if_neg c, if_pos (by omega), if_pos (by omega), Int.toNat_natCast, if_pos (ll (n + 1)), if_pos (l2 (n + 1)), if_pos (l3 (n + 1)), fin (n + 1) hn, e5]) h
theorem sorted_l0 (l : List Int) (hl : l.length ≤ 1048576) : ∀ (m i : Nat) (out : List Int), i + m = l.length → out.length = i → Ev (fun k => spec_l13Sorted.l0 k l out (i : Int)) (isort (l.drop i) out) := by
  intro m
  induction m with
  | zero =>
    intro i out hi ho
    rw [List.drop_eq_nil_of_le (by omega), isort]
    exact Ev.step (fun k => by simp only [spec_l13Sorted.l0]; rw [if_neg (by omega)]) (Ev.now _)
  | succ m ih =>
    intro i out hi ho
    rw [drop_rd (by omega), isort]
    refine Ev.step (fun k => by simp only [spec_l13Sorted.l0]; rw [if_pos (by omega)]) ?_
    exact sorted_l1 l out i _ (by omega) hl (by omega) out.length (Nat.le_refl _) (ih (i + 1) _ (by omega) (by rw [show insAt out (rd l (i : Int)) (spot out (rd l (i : Int)) out.length) = ins (rd l (i : Int)) out from rfl, ins_length, ho]))
theorem sorted_eq (l : List Int) (hl : l.length ≤ 1048576) : Ev (fun k => spec_l13Sorted.f k l) (srt l) := by
  have := sorted_l0 l hl l.length 0 [] (by omega) rfl
  rw [List.drop_zero, isort_eq] at this
  exact this
end Go.Proofs.Ytencdmlcmnmhgaa.QFnDatum
