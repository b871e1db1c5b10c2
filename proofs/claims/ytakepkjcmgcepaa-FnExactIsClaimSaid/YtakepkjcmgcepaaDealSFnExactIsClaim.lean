/- The reference's question whether a deal is valid has the plain answer dealB. -/
import Derived.Test.YtakepkjcmgcepaaQFnExactIsClaimx
import Derived.Test.YtakepkjcmgcepaaLib
import Derived.Test.YtakepkjcmgcepaaRec
namespace Go.Proofs.Ytakepkjcmgcepaa.QFnExactIsClaim
open Go.RowKit Go.Proofs.YtakepkjcmgcepaaW.PrintWords Go.Proofs.YtakepkjcmgcepaaW.PrintLast Go.Proofs.YtakepkjcmgcepaaW.PrintMore Go.Proofs.Ytakepkjcmgcepaa.Lib
set_option linter.unusedVariables false
set_option linter.unusedSimpArgs false
theorem sIn_eq (a b c : Int) : spec_l01In.f a b c = some (decide (b ≤ a) && decide (a ≤ c)) := by
  unfold spec_l01In.f
  by_cases h : a ≥ b
  · rw [if_pos h, decide_eq_true (show b ≤ a from h)]; rfl
  · rw [if_neg h, decide_eq_false (show ¬ b ≤ a from h)]; rfl
theorem sCard_eq (a : Int) : spec_l01Card.f a = some (cardB a) := by
  unfold spec_l01Card.f; rw [sIn_eq]; rfl
theorem rising_l0 (l : List Int) (hl : l.length ≤ 13) : ∀ (m i : Nat), i + m = l.length → Ev (fun k => spec_l01Rising.l0 k l (i : Int)) (incFrom l m i) := by
  intro m
  induction m with
  | zero => intro i hi; exact Ev.step (f := fun _ => some true) (fun k => by simp only [spec_l01Rising.l0]; rw [if_neg (by omega)]) (Ev.now _)
  | succ m ih =>
    intro i hi
    have e5 : wrap64 ((i : Int) + 1) = ((i + 1 : Nat) : Int) := by rw [w64 (by omega) (by omega)]; omega
    have e6 : wrap64 ((i : Int) - 1) = (i : Int) - 1 := by rw [w64 (by omega) (by omega)]
    refine Ev.step (fun k => by simp only [spec_l01Rising.l0, e5, e6]; rw [if_pos (by omega), if_pos (by omega)]) ?_
    refine ev_pure (sCard_eq _) ?_
    rw [incFrom]
    cases hc : cardB (rd l (i : Int)) with
    | false => exact ev_if_neg (by simp) (Ev.now _)
    | true =>
      refine ev_if_pos rfl ?_
      by_cases h0 : i = 0
      · refine ev_if_neg (by omega) ?_
        rw [decide_eq_true h0, Bool.true_or, Bool.and_true, Bool.true_and]
        exact ih (i + 1) (by omega)
      · refine ev_if_pos (by omega) (ev_if_pos (by omega) (ev_if_pos (by omega) ?_))
        rw [decide_eq_false h0, Bool.false_or, Bool.true_and]
        by_cases hr : rd l ((i : Int) - 1) ≥ rd l (i : Int)
        · rw [decide_eq_false (by omega), Bool.false_and]
          exact ev_if_pos hr (Ev.now _)
        · rw [decide_eq_true (by omega), Bool.true_and]
          exact ev_if_neg hr (ih (i + 1) (by omega))
theorem sHand_eq (l : List Int) : Ev (fun k => spec_IsHand.f k l) (handB l) := by
  unfold handB
  by_cases hl : l.length ≤ 13
  · rw [decide_eq_true hl, Bool.true_and]
    exact ev_if_pos (by omega) (Ev.bind (rising_l0 l hl l.length 0 (by omega)) (Ev.now _))
  · rw [decide_eq_false hl, Bool.false_and]
    exact ev_if_neg (by omega) (Ev.now _)
/-- A row of truth values says which cards were seen. -/
def Says (x : List Bool) (s : List Int) : Prop := x.length = 52 ∧ ∀ c : Nat, c < 52 → x[c]? = some (s.contains (c : Int))
theorem Says.zero : Says (List.replicate 52 false) [] := ⟨List.length_replicate, fun c hc => by rw [List.getElem?_replicate, if_pos hc]; rfl⟩
theorem Says.at_ {x : List Bool} {s : List Int} (h : Says x s) {c : Int} (h0 : 0 ≤ c) (h1 : c ≤ 51) : rdOf false x c = s.contains c := by
  have := h.2 c.toNat (by omega)
  unfold rdOf
  rw [List.getD_eq_getElem?_getD, this, Int.toNat_of_nonneg h0]; rfl
theorem Says.put {x : List Bool} {s : List Int} (h : Says x s) {c : Int} (h0 : 0 ≤ c) (h1 : c ≤ 51) : Says (x.set c.toNat true) (c :: s) := by
  refine ⟨by simp [h.1], fun d hd => ?_⟩
  by_cases e : c.toNat = d
  · subst e
    rw [List.getElem?_set_self (by rw [h.1]; omega), Int.toNat_of_nonneg h0]; simp
  · rw [List.getElem?_set_ne e, h.2 d hd, List.contains_cons, show ((d : Int) == c) = false by simp; omega, Bool.false_or]
theorem rdL1_getD (H : List (List Int)) (i : Nat) : rd_L1 H (i : Int) = H.getD i [] := by simp [rd_L1]
theorem deal_l1 (H : List (List Int)) (hH : H.length = 4) (i : Nat) (hi : i < 4) (hl : (H.getD i []).length ≤ 13) (hcd : ∀ j, j < (H.getD i []).length → 0 ≤ rd (H.getD i []) (j : Int) ∧ rd (H.getD i []) (j : Int) ≤ 51) (g : List Int → Bool)
    (hg : ∀ x s, Says x s → Ev (fun k => spec_l03Deal.l0 k x ((i + 1 : Nat) : Int) H) (g s)) : ∀ (m j : Nat) (x : List Bool) (s : List Int), j + m = (H.getD i []).length → Says x s →
    Ev (fun k => spec_l03Deal.l1 k x (i : Int) (j : Int) H) (scan ((H.getD i []).drop j) s && g (((H.getD i []).drop j).reverse ++ s)) := by
  have e4 : wrap64 ((i : Int) + 1) = ((i + 1 : Nat) : Int) := by rw [w64 (by omega) (by omega)]; omega
  intro m
  induction m with
  | zero =>
    intro j x s hj hs
    rw [List.drop_eq_nil_of_le (by omega)]
    simp only [scan, List.reverse_nil, List.nil_append, Bool.true_and]
    exact Ev.step (fun k => by simp only [spec_l03Deal.l1, rdL1_getD, e4]; rw [if_pos (by omega), if_pos (by omega), if_neg (by omega)]) (hg x s hs)
  | succ m ih =>
    intro j x s hj hs
    have e5 : wrap64 ((j : Int) + 1) = ((j + 1 : Nat) : Int) := by rw [w64 (by omega) (by omega)]; omega
    obtain ⟨h0, h1⟩ := hcd j (by omega)
    have hx := hs.1
    refine Ev.step (fun k => by simp only [spec_l03Deal.l1, rdL1_getD, e5]; rw [if_pos (by omega), if_pos (by omega), if_pos (by omega), if_pos (by omega), if_pos (by omega), if_pos (by omega), hs.at_ h0 h1]) ?_
    rw [drop_rd (show j < (H.getD i []).length by omega), scan, show cardB (rd (H.getD i []) (j : Int)) = true from (cardB_iff _).2 ⟨h0, h1⟩, Bool.true_and]
    cases hc : s.contains (rd (H.getD i []) (j : Int)) with
    | true => exact ev_if_pos rfl (Ev.now _)
    | false =>
      have := ih (j + 1) (x.set (rd (H.getD i []) (j : Int)).toNat true) (rd (H.getD i []) (j : Int) :: s) (by omega) (hs.put h0 h1)
      simp only [List.reverse_cons, List.append_assoc, List.singleton_append, Bool.not_false, Bool.true_and]
      exact ev_if_neg (by simp) this
theorem deal_l0 (H : List (List Int)) (hH : H.length = 4) : ∀ (m i : Nat) (x : List Bool) (s : List Int), i + m = 4 → Says x s → Ev (fun k => spec_l03Deal.l0 k x (i : Int) H) (dealFrom (H.getD 0 []).length (H.drop i) s) := by
  intro m
  induction m with
  | zero =>
    intro i x s hi hs
    rw [List.drop_eq_nil_of_le (by omega), dealFrom]
    exact Ev.step (fun k => by simp only [spec_l03Deal.l0]; rw [if_neg (by omega)]) (Ev.now _)
  | succ m ih =>
    intro i x s hi hs
    rw [drop_getD (show i < H.length by omega), dealFrom]
    refine Ev.step (fun k => by simp only [spec_l03Deal.l0, rdL1_getD]; rw [if_pos (by omega), if_pos (by omega), if_pos (by omega)]) (Ev.bind (sHand_eq _) ?_)
    cases hb : handB (H.getD i []) with
    | false =>
      rw [Bool.false_and, Bool.false_and]
      exact ev_if_neg (by simp) (Ev.step (fun k => by simp only [spec_l03Deal.j1]; rw [if_pos trivial]) (Ev.now _))
    | true =>
      refine ev_if_pos rfl (ev_if_pos (by omega) ?_)
      have e0 : rd_L1 H 0 = H.getD 0 [] := rdL1_getD H 0
      simp only [e0, Bool.true_and]
      by_cases hn : (H.getD i []).length = (H.getD 0 []).length
      · rw [decide_eq_true hn, Bool.true_and, show (((H.getD i []).length : Int) != ((H.getD 0 []).length : Int)) = false by rw [hn]; exact bne_self_eq_false _]
        refine Ev.step (fun k => by simp only [spec_l03Deal.j1]; rw [if_neg (by simp)]) ?_
        have := deal_l1 H hH i (by omega) (handB_len hb) (fun j hj => handB_card hb hj) (fun s => dealFrom (H.getD 0 []).length (H.drop (i + 1)) s) (fun x s hs => ih (i + 1) x s (by omega) hs) (H.getD i []).length 0 x s (by omega) hs
        rw [List.drop_zero] at this
        exact this
      · rw [decide_eq_false hn, Bool.false_and, show (((H.getD i []).length : Int) != ((H.getD 0 []).length : Int)) = true from bne_iff_ne.2 (fun e => hn (Int.ofNat_inj.1 e))]
        exact Ev.step (fun k => by simp only [spec_l03Deal.j1]; rw [if_pos trivial]) (Ev.now _)
theorem sDeal_eq (H : List (List Int)) : Ev (fun k => spec_IsDeal.f k H) (dealB H) := by
  have key : Ev (fun k => spec_l03Deal.f k H) (dealB H) := by
    unfold dealB
    by_cases hH : H.length = 4
    · rw [decide_eq_true hH, Bool.true_and, show H.headD [] = H.getD 0 [] by cases H <;> rfl]
      refine ev_if_pos (by omega) (ev_if_pos (by decide) ?_)
      exact deal_l0 H hH 4 0 _ [] rfl Says.zero
    · rw [decide_eq_false hH, Bool.false_and]
      exact ev_if_neg (by omega) (Ev.now _)
  exact Ev.bind key (Ev.now _)
/-- A valid deal: four hands, no card in two. -/
theorem deal_four {H : List (List Int)} (h : dealB H = true) : H.length = 4 := by
  unfold dealB at h; rw [Bool.and_eq_true, decide_eq_true_eq] at h; exact h.1
theorem dealFrom_apart {n : Nat} : ∀ (H : List (List Int)) (s : List Int), dealFrom n H s = true → (∀ g ∈ H, g.length = n ∧ g.length ≤ 13 ∧ ∀ c ∈ g, c ∉ s) ∧ ∀ (a b : Nat) (c : Int), c ∈ H.getD a [] → c ∈ H.getD b [] → a = b
  | [], s, _ => ⟨fun g hg => (by cases hg), fun a b c hc => (by simp at hc)⟩
  | g :: gs, s, h => by
    rw [dealFrom, Bool.and_eq_true, Bool.and_eq_true, Bool.and_eq_true, decide_eq_true_eq] at h
    obtain ⟨⟨h1, h2⟩, h3, h4⟩ := h
    obtain ⟨i1, i2⟩ := dealFrom_apart gs _ h4
    obtain ⟨_, _, s3⟩ := (scan_iff g s).1 h3
    have hno : ∀ g' ∈ gs, ∀ c ∈ g', c ∉ s ∧ c ∉ g := fun g' hg' c hc => by
      have := (i1 g' hg').2.2 c hc
      rw [List.mem_append, List.mem_reverse, not_or] at this
      exact ⟨this.2, this.1⟩
    refine ⟨fun g' hg' => ?_, fun a b c ha hb => ?_⟩
    · rcases List.mem_cons.1 hg' with rfl | hm
      · exact ⟨h2, handB_len h1, s3⟩
      · exact ⟨(i1 g' hm).1, (i1 g' hm).2.1, fun c hc => (hno g' hm c hc).1⟩
    · have mem : ∀ (t : Nat), c ∈ gs.getD t [] → gs.getD t [] ∈ gs := fun t ht => by
        rw [List.getD_eq_getElem?_getD] at ht ⊢
        cases hg : gs[t]? with
        | none => rw [hg] at ht; simp at ht
        | some g' => exact List.mem_of_getElem? hg
      cases a with
      | zero => cases b with
        | zero => rfl
        | succ b =>
          have hb' : c ∈ gs.getD b [] := by simpa using hb
          exact absurd (by simpa using ha) (hno _ (mem b hb') c hb').2
      | succ a => cases b with
        | zero =>
          have ha' : c ∈ gs.getD a [] := by simpa using ha
          exact absurd (by simpa using hb) (hno _ (mem a ha') c ha').2
        | succ b => rw [i2 a b c (by simpa using ha) (by simpa using hb)]
theorem deal_apart {H : List (List Int)} (h : dealB H = true) : Apart H := by
  unfold dealB at h; rw [Bool.and_eq_true] at h
  exact (dealFrom_apart H [] h.2).2
theorem deal_len {H : List (List Int)} (h : dealB H = true) : ∀ g ∈ H, g.length = (H.headD []).length ∧ g.length ≤ 13 := by
  unfold dealB at h; rw [Bool.and_eq_true] at h
  exact fun g hg => ⟨((dealFrom_apart H [] h.2).1 g hg).1, ((dealFrom_apart H [] h.2).1 g hg).2.1⟩
end Go.Proofs.Ytakepkjcmgcepaa.QFnExactIsClaim
