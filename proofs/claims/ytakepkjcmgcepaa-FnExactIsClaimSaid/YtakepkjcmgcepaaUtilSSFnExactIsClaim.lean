/- Rows of rows are measured, copied and compared. -/
import Derived.Test.YtakepkjcmgcepaaUtilAFnExactIsClaim
import Derived.Test.YtakepkjcmgcepaaOpen
namespace Go.Proofs.Ytakepkjcmgcepaa.QFnExactIsClaim
open Go.RowKit Go.Proofs.YtakepkjcmgcepaaW.PrintWords Go.Proofs.YtakepkjcmgcepaaW.PrintLast Go.Proofs.YtakepkjcmgcepaaW.PrintMore Go.Proofs.Ytakepkjcmgcepaa.Lib
set_option linter.unusedVariables false
set_option linter.unusedSimpArgs false
/-- What is left of a measure behind the rows. -/
def szL : List (List Int) → Int → Int
  | [], n => n
  | h :: hs, n => if n < h.length then -1 else szL hs (n - h.length)
def szH (H : List (List Int)) (n : Int) : Int := if n < H.length then -1 else szL H (n - H.length)
theorem szL_le : ∀ (H : List (List Int)) (n : Int), 0 ≤ n → szL H n ≤ n
  | [], n, _ => Int.le_refl n
  | h :: hs, n, h0 => by
    rw [szL]
    split
    · omega
    · have := szL_le hs (n - h.length) (by omega); omega
theorem szL_row : ∀ (H : List (List Int)) (n : Int), 0 ≤ n → 0 ≤ szL H n → ∀ h ∈ H, (h.length : Int) ≤ n
  | [], _, _, _, h, hh => by cases hh
  | g :: hs, n, h0, h1, h, hh => by
    rw [szL] at h1
    by_cases c : n < g.length
    · rw [if_pos c] at h1; omega
    · rw [if_neg c] at h1
      rcases List.mem_cons.1 hh with rfl | hm
      · omega
      · have := szL_row hs (n - g.length) (by omega) h1 h hm; omega
theorem szH_le (H : List (List Int)) (n : Int) (h0 : 0 ≤ n) : szH H n ≤ n := by
  unfold szH
  split
  · omega
  · have := szL_le H (n - H.length) (by omega); omega
theorem szH_row {H : List (List Int)} {n : Int} (h0 : 0 ≤ n) (h1 : 0 ≤ szH H n) : (H.length : Int) ≤ n ∧ ∀ h ∈ H, (h.length : Int) ≤ n := by
  unfold szH at h1
  by_cases c : n < H.length
  · rw [if_pos c] at h1; omega
  · rw [if_neg c] at h1
    refine ⟨by omega, fun h hh => ?_⟩
    have := szL_row H (n - H.length) (by omega) h1 h hh; omega
theorem rdL_lt {H : List (List Int)} {i : Nat} (h : i < H.length) : rd_L1 H (i : Int) = H[i] := by
  simp [rd_L1, List.getD_eq_getElem?_getD, h]
theorem rdL_getD (H : List (List Int)) (i : Nat) : rd_L1 H (i : Int) = H.getD i [] := by simp [rd_L1]
theorem dropL {H : List (List Int)} {i : Nat} (h : i < H.length) : H.drop i = rd_L1 H (i : Int) :: H.drop (i + 1) := by
  rw [rdL_lt h]; exact List.drop_eq_getElem_cons h
theorem szI (l : List Int) (n : Int) (hl : l.length ≤ 9223372036854775807) (hn : 0 ≤ n) (hn2 : n ≤ 1048576) : laws_szInt64S.f l n = some (if n < l.length then -1 else n - l.length) := by
  unfold laws_szInt64S.f
  rw [w64 (by omega) (by omega)]
  by_cases h : n < l.length
  · rw [if_pos (by omega), if_pos h]
  · rw [if_neg (by omega), if_neg h]
theorem szSS_l0 (H : List (List Int)) (hH : H.length ≤ 1048576) (hb : ∀ h ∈ H, h.length ≤ 9223372036854775807) : ∀ (m i : Nat) (n : Int), i + m = H.length → 0 ≤ n → n ≤ 1048576 → Ev (fun k => laws_szInt64SS.l0 k H n (i : Int)) (szL (H.drop i) n) := by
  intro m
  induction m with
  | zero =>
    intro i n hi h0 h1
    rw [List.drop_eq_nil_of_le (by omega), szL]
    exact Ev.step (fun k => by simp only [laws_szInt64SS.l0]; rw [if_neg (by omega)]) (Ev.now _)
  | succ m ih =>
    intro i n hi h0 h1
    have e5 : wrap64 ((i : Int) + 1) = ((i + 1 : Nat) : Int) := by rw [w64 (by omega) (by omega)]; omega
    have hr := hb (rd_L1 H (i : Int)) (by rw [rdL_lt (by omega)]; exact List.getElem_mem _)
    rw [dropL (show i < H.length by omega), szL]
    refine Ev.step (fun k => by simp only [laws_szInt64SS.l0, e5]; rw [if_pos (by omega), if_pos (by omega)]) (ev_pure (szI _ n hr h0 h1) ?_)
    by_cases c : n < (rd_L1 H (i : Int)).length
    · rw [if_pos c, if_pos c]
      exact ev_if_pos (by omega) (Ev.now _)
    · rw [if_neg c, if_neg c]
      exact ev_if_neg (by omega) (ih (i + 1) _ (by omega) (by omega) (by omega))
theorem szSS_eq (H : List (List Int)) (n : Int) (hH : H.length ≤ 9223372036854775807) (hb : ∀ h ∈ H, h.length ≤ 9223372036854775807) (h0 : 0 ≤ n) (h1 : n ≤ 1048576) : Ev (fun k => laws_szInt64SS.f k H n) (szH H n) := by
  have e : wrap64 (n - (H.length : Int)) = n - (H.length : Int) := w64 (by omega) (by omega)
  unfold szH
  by_cases c : n < H.length
  · rw [if_pos c]
    exact Ev.congr (f := fun _ => some (-1)) (fun k => by simp only [laws_szInt64SS.f, e]; rw [if_pos (by omega)]) (Ev.now _)
  · rw [if_neg c]
    exact Ev.congr (f := fun k => laws_szInt64SS.l0 k H (n - (H.length : Int)) ((0 : Nat) : Int)) (fun k => by simp only [laws_szInt64SS.f, e]; rw [if_neg (by omega)]; rfl) (szSS_l0 H (by omega) hb H.length 0 _ (by omega) (by omega) (by omega))
theorem toSS_l0 (H : List (List Int)) (hH : H.length ≤ 1048576) (hb : ∀ h ∈ H, h.length ≤ 1048576) : ∀ (m i : Nat) (x : List (List Int)), i + m = H.length → x.length = H.length → (∀ j, j < i → x[j]? = H[j]?) → Ev (fun k => laws_toInt64SS.l0 k H x (i : Int)) H := by
  intro m
  induction m with
  | zero =>
    intro i x hi hx hj
    have e : x = H := List.ext_getElem? fun j => by
      by_cases h : j < i
      · exact hj j h
      · rw [List.getElem?_eq_none (by omega), List.getElem?_eq_none (by omega)]
    subst e
    exact Ev.step (fun k => by simp only [laws_toInt64SS.l0]; rw [if_neg (by omega)]) (Ev.now _)
  | succ m ih =>
    intro i x hi hx hj
    have e5 : wrap64 ((i : Int) + 1) = ((i + 1 : Nat) : Int) := by rw [w64 (by omega) (by omega)]; omega
    have hr := hb (rd_L1 H (i : Int)) (by rw [rdL_lt (by omega)]; exact List.getElem_mem _)
    refine Ev.step (fun k => by simp only [laws_toInt64SS.l0, e5]; rw [if_pos (by omega), if_pos (by omega)]) (Ev.bind (toI (rd_L1 H (i : Int)) (by omega)) (ev_if_pos (show (i : Int) < (x.length : Int) by omega) ?_))
    refine ih (i + 1) (x.set i (rd_L1 H (i : Int))) (by omega) (by simp [hx]) (fun j h => ?_)
    by_cases e : j = i
    · subst e
      rw [List.getElem?_set_self (by omega), rdL_lt (by omega), List.getElem?_eq_getElem]
    · rw [List.getElem?_set_ne (by omega)]; exact hj j (by omega)
theorem toSS_eq (H : List (List Int)) (hH : H.length ≤ 1048576) (hb : ∀ h ∈ H, h.length ≤ 1048576) : Ev (fun k => laws_toInt64SS.f k H) H :=
  ev_if_pos (by omega) (ev_if_pos (by omega) (toSS_l0 H hH hb H.length 0 _ (by omega) (by simp) (fun j h => absurd h (by omega))))
theorem eqSS_l0 (H : List (List Int)) (hH : H.length ≤ 1048576) (hb : ∀ h ∈ H, h.length ≤ 1048576) : ∀ (m i : Nat), i + m = H.length → Ev (fun k => laws_eqInt64SS.l0 k H H (i : Int)) true := by
  intro m
  induction m with
  | zero =>
    intro i hi
    exact Ev.step (fun k => by simp only [laws_eqInt64SS.l0]; rw [if_neg (by omega)]) (Ev.now _)
  | succ m ih =>
    intro i hi
    have e5 : wrap64 ((i : Int) + 1) = ((i + 1 : Nat) : Int) := by rw [w64 (by omega) (by omega)]; omega
    have hr := hb (rd_L1 H (i : Int)) (by rw [rdL_lt (by omega)]; exact List.getElem_mem _)
    have he := eqI_same (rd_L1 H (i : Int)) (by omega)
    exact Ev.step (fun k => by simp only [laws_eqInt64SS.l0, e5]; rw [if_pos (by omega), if_pos (by omega), if_pos (by omega)]) (Ev.bind he (ev_if_pos rfl (ih (i + 1) (by omega))))
theorem eqSS_same (H : List (List Int)) (hH : H.length ≤ 1048576) (hb : ∀ h ∈ H, h.length ≤ 1048576) : Ev (fun k => laws_eqInt64SS.f k H H) true :=
  ev_if_pos rfl (eqSS_l0 H hH hb H.length 0 (by omega))
end Go.Proofs.Ytakepkjcmgcepaa.QFnExactIsClaim
