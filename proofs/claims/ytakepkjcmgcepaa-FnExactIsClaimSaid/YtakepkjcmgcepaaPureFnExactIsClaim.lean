/- The program's IsClaim returns what the reference's returns and leaves its arguments alone: for all deals, plays and claims, no condition. -/
import Derived.Test.YtakepkjcmgcepaaLeadsBFnExactIsClaim
import Derived.Test.YtakepkjcmgcepaaDealSFnExactIsClaim
import Derived.Test.YtakepkjcmgcepaaQFnExactIsClaimx
import Derived.Test.YtakepkjcmgcepaaPlayUFnExactIsClaim
import Derived.Test.YtakepkjcmgcepaaUtilDealFnExactIsClaim
import Derived.Test.YtakepkjcmgcepaaSayFnExactIsClaim
namespace Go.Proofs.Ytakepkjcmgcepaa.QFnExactIsClaim
open Go.RowKit Go.Proofs.YtakepkjcmgcepaaW.PrintWords Go.Proofs.YtakepkjcmgcepaaW.PrintLast Go.Proofs.YtakepkjcmgcepaaW.PrintMore Go.Proofs.Ytakepkjcmgcepaa.Lib
set_option linter.unusedVariables false
set_option linter.unusedSimpArgs false
theorem left_l0 (H : List (List Int)) (s ld : Int) (l : List Int) (hl : l.length ≤ 1048576) (q : Nat) (hq : q < H.length) (hb : (H.getD q []).length ≤ 13) : ∀ (m i : Nat) (o : List Int), i + m = (H.getD q []).length → o.length ≤ i → Ev (fun k => spec_l08Left.l0 k (q : Int) o (i : Int) H s ld l) (o ++ leftL l l.length ((H.getD q []).drop i)) := by
  have hg : rd_L1 H (q : Int) = H.getD q [] := rdL1_getD H q
  intro m
  induction m with
  | zero =>
    intro i o hi ho
    rw [List.drop_eq_nil_of_le (by omega), leftL_nil, List.append_nil]
    exact Ev.step (fun k => by simp only [spec_l08Left.l0, hg]; rw [if_pos (by omega), if_pos (by omega), if_neg (by omega)]) (Ev.now _)
  | succ m ih =>
    intro i o hi ho
    have e5 : wrap64 ((i : Int) + 1) = ((i + 1 : Nat) : Int) := by rw [w64 (by omega) (by omega)]; omega
    have hh := l01Has_eq l (rd (H.getD q []) (i : Int)) (by omega)
    refine Ev.step (fun k => by simp only [spec_l08Left.l0, hg, e5]; rw [if_pos (by omega), if_pos (by omega), if_pos (by omega), if_pos (by omega)]) ?_
    refine Ev.bind hh ?_
    rw [drop_rd (show i < (H.getD q []).length by omega)]
    have hf : leftL l l.length (rd (H.getD q []) (i : Int) :: (H.getD q []).drop (i + 1)) = if l.contains (rd (H.getD q []) (i : Int)) = true then leftL l l.length ((H.getD q []).drop (i + 1)) else rd (H.getD q []) (i : Int) :: leftL l l.length ((H.getD q []).drop (i + 1)) := by
      unfold leftL
      rw [List.take_of_length_le (Nat.le_refl _), List.filter_cons]
      cases l.contains (rd (H.getD q []) (i : Int)) <;> simp
    rw [hf]
    cases hc : l.contains (rd (H.getD q []) (i : Int)) with
    | true => rw [if_pos rfl]; exact ev_if_pos rfl (ih (i + 1) o (by omega) (by omega))
    | false =>
      rw [if_neg (by simp)]
      have := ih (i + 1) (o ++ [rd (H.getD q []) (i : Int)]) (by omega) (by simp; omega)
      rw [List.append_assoc] at this
      refine ev_if_neg (by simp) ?_
      exact ev_if_pos (show o.length < 17592186044416 by omega) this
theorem suit_l0 (l : List Int) (s : Int) (hl : l.length ≤ 1048576) : ∀ (m i : Nat) (o : List Int), i + m = l.length → o.length ≤ i → Ev (fun k => spec_l01Suit.l0 k l s o (i : Int)) (o ++ (l.drop i).filter fun c => decide (suitN c = s)) := by
  intro m
  induction m with
  | zero =>
    intro i o hi ho
    rw [List.drop_eq_nil_of_le (by omega), List.filter_nil, List.append_nil]
    exact Ev.step (fun k => by simp only [spec_l01Suit.l0]; rw [if_neg (by omega)]) (Ev.now _)
  | succ m ih =>
    intro i o hi ho
    have e5 : wrap64 ((i : Int) + 1) = ((i + 1 : Nat) : Int) := by rw [w64 (by omega) (by omega)]; omega
    refine Ev.step (fun k => by simp only [spec_l01Suit.l0, e5]; rw [if_pos (by omega), if_pos (by omega)]) ?_
    rw [drop_rd (show i < l.length by omega), List.filter_cons]
    by_cases h : suitN (rd l (i : Int)) = s
    · rw [decide_eq_true h, if_pos rfl]
      have := ih (i + 1) (o ++ [rd l (i : Int)]) (by omega) (by simp; omega)
      rw [List.append_assoc] at this
      refine ev_if_pos h ?_
      exact ev_if_pos (show o.length < 17592186044416 by omega) this
    · rw [decide_eq_false h, if_neg (by simp)]
      exact ev_if_neg h (ih (i + 1) o (by omega) (by omega))
theorem suit_eq (l : List Int) (s : Int) (hl : l.length ≤ 1048576) : Ev (fun k => spec_l01Suit.f k l s) (l.filter fun c => decide (suitN c = s)) := by
  have := suit_l0 l s hl l.length 0 [] (by omega) (by simp)
  rw [List.drop_zero, List.nil_append] at this
  exact this
/-- The legal cards at card i. -/
def legalL (H : List (List Int)) (s ld : Int) (l : List Int) (i : Nat) : List Int := followL (leftL l i (H.getD (seatN (leadersOf s ld l) i) [])) (trickL l i)
theorem leftL_take (l : List Int) (i : Nat) (hi : i ≤ l.length) (h : List Int) : leftL (l.take i) (l.take i).length h = leftL l i h := by
  unfold leftL; rw [List.take_of_length_le (Nat.le_refl _)]
theorem legal_eq (H : List (List Int)) (s ld : Int) (l : List Int) (hl : l.length ≤ 1048576) (h4 : H.length = 4) (hb : ∀ g ∈ H, g.length ≤ 13) (h0 : 0 ≤ ld) (h1 : ld ≤ 3) {i : Nat} (hi : i ≤ l.length) :
    Ev (fun k => spec_l08Legal.f k H s ld (l.take i)) (legalL H s ld l i) := by
  obtain ⟨s0, s1⟩ := seatI_bd (s := s) hl h0 h1 hi
  obtain ⟨q, hq⟩ := Int.eq_ofNat_of_zero_le s0
  have hqn : seatN (leadersOf s ld l) i = q := by rw [seatI_nat, hq]; exact Int.toNat_natCast q
  have hm : (H.getD q []).length ≤ 13 := by
    rw [List.getD_eq_getElem?_getD, List.getElem?_eq_getElem (by omega)]
    exact hb _ (List.getElem_mem _)
  have ht : (l.take i).length = i := by rw [List.length_take]; omega
  have hleft : Ev (fun k => spec_l08Left.f k H s ld (l.take i) (seatI s ld l i)) (leftL l i (H.getD q [])) := by
    have := left_l0 H s ld (l.take i) (by omega) q (by omega) hm (H.getD q []).length 0 [] (by omega) (by simp)
    rw [List.drop_zero, List.nil_append, leftL_take l i hi] at this
    rw [hq]
    exact this
  refine Ev.bind (turn_eq s ld l hl hi) ?_
  refine Ev.bind hleft ?_
  unfold legalL followL
  rw [hqn]
  have hk : (((l.take i).length : Nat) : Int) % 4 = ((i % 4 : Nat) : Int) := by rw [ht]; omega
  have htr : (trickL l i).length = i % 4 := by unfold trickL; rw [List.length_drop, ht]; omega
  by_cases c : i % 4 = 0
  · rw [if_neg (show ¬ 0 < (trickL l i).length by omega)]
    exact ev_if_pos (show (((l.take i).length : Nat) : Int) % 4 = 0 by rw [hk, c]; rfl) (Ev.now _)
  · rw [if_pos (show 0 < (trickL l i).length by omega)]
    have ew : wrap64 ((((l.take i).length : Nat) : Int) - (((l.take i).length : Nat) : Int) % 4) = ((i / 4 * 4 : Nat) : Int) := by rw [hk, ht, w64 (by omega) (by omega)]; omega
    have er : rd (l.take i) ((i / 4 * 4 : Nat) : Int) = rd (trickL l i) 0 := by
      unfold trickL
      simp only [rd, List.getD_eq_getElem?_getD, List.getElem?_drop, Int.toNat_natCast]
      simp
    refine ev_if_neg (show ¬ (((l.take i).length : Nat) : Int) % 4 = 0 by rw [hk]; omega) ?_
    rw [ew, er]
    refine ev_if_pos (show (0 : Int) ≤ ((i / 4 * 4 : Nat) : Int) by omega) ?_
    refine ev_if_pos (show ((i / 4 * 4 : Nat) : Int) < (((l.take i).length : Nat) : Int) by rw [ht]; omega) ?_
    have hs := suit_eq (leftL l i (H.getD q [])) (wrap64 (Int.tdiv (rd (trickL l i) 0) 13)) (by
      unfold leftL
      exact Nat.le_trans (List.length_filter_le _ _) (by omega))
    refine Ev.bind hs ?_
    show Ev _ (if 0 < ((leftL l i (H.getD q [])).filter fun c => decide (suitN c = wrap64 (Int.tdiv (rd (trickL l i) 0) 13))).length then _ else _)
    by_cases g : 0 < ((leftL l i (H.getD q [])).filter fun c => decide (suitN c = wrap64 (Int.tdiv (rd (trickL l i) 0) 13))).length
    · rw [if_pos g]; exact ev_if_pos (by omega) (Ev.now _)
    · rw [if_neg g]; exact ev_if_neg (by omega) (Ev.now _)
theorem legalL_len (H : List (List Int)) (s ld : Int) (l : List Int) (hb : ∀ g ∈ H, g.length ≤ 13) (i : Nat) : (legalL H s ld l i).length ≤ 13 := by
  have h0 : (H.getD (seatN (leadersOf s ld l) i) []).length ≤ 13 := by
    rw [List.getD_eq_getElem?_getD]
    cases h : H[seatN (leadersOf s ld l) i]? with
    | none => simp
    | some g => exact hb g (List.mem_of_getElem? h)
  have h1 : (leftL l i (H.getD (seatN (leadersOf s ld l) i) [])).length ≤ 13 := by unfold leftL; exact Nat.le_trans (List.length_filter_le _ _) h0
  unfold legalL followL
  split
  · split
    · exact Nat.le_trans (List.length_filter_le _ _) h1
    · exact h1
  · exact h1
theorem begin_eq (s ld : Int) (l : List Int) (hl : l.length ≤ 1048576) {i : Nat} (hi : i ≤ l.length) : spec_l08Begin.f s ld l (i : Int) = some (s, ld, l.take i) := by
  unfold spec_l08Begin.f
  rw [Option.bind_some, if_pos (by omega), if_pos (by omega), if_pos (by rw [List.length_take]; simp; omega)]
  rfl
end Go.Proofs.Ytakepkjcmgcepaa.QFnExactIsClaim
namespace Go.Proofs.Ytakepkjcmgcepaa.QFnExactIsClaim
open Go.RowKit Go.Proofs.YtakepkjcmgcepaaW.PrintWords Go.Proofs.YtakepkjcmgcepaaW.PrintLast Go.Proofs.YtakepkjcmgcepaaW.PrintMore Go.Proofs.Ytakepkjcmgcepaa.Lib
set_option linter.unusedVariables false
set_option linter.unusedSimpArgs false
theorem index_l0 (l : List Int) (c : Int) (hl : l.length ≤ 1048576) : ∀ (m i : Nat), i + m = l.length → ∃ r, Ev (fun k => slices_Index_int64_int64.l0 k l c (l.length : Int) (i : Int)) r ∧ (decide (r ≥ 0) = (l.drop i).contains c) := by
  intro m
  induction m with
  | zero =>
    intro i hi
    exact ⟨-1, Ev.step (f := fun _ => some (-1)) (fun k => by simp only [slices_Index_int64_int64.l0]; rw [if_neg (by omega)]) (Ev.now _), by rw [List.drop_eq_nil_of_le (by omega)]; rfl⟩
  | succ m ih =>
    intro i hi
    have e5 : wrap64 ((i : Int) + 1) = ((i + 1 : Nat) : Int) := by rw [w64 (by omega) (by omega)]; omega
    by_cases h : c = rd l (i : Int)
    · exact ⟨(i : Int), Ev.step (f := fun _ => some (i : Int)) (fun k => by simp only [slices_Index_int64_int64.l0]; rw [if_pos (by omega), if_pos (by omega), if_pos (by omega), if_pos h]) (Ev.now _), by rw [drop_rd (by omega), List.contains_cons, ← h, beq_self_eq_true, Bool.true_or, decide_eq_true (by omega)]⟩
    · obtain ⟨r, h1, h2⟩ := ih (i + 1) (by omega)
      exact ⟨r, Ev.step (fun k => by simp only [slices_Index_int64_int64.l0, e5]; rw [if_pos (by omega), if_pos (by omega), if_pos (by omega), if_neg h]) h1, by rw [h2, drop_rd (show i < l.length by omega), List.contains_cons, beq_eq_false_iff_ne.2 h, Bool.false_or]⟩
theorem contains_eq (l : List Int) (c : Int) (hl : l.length ≤ 1048576) : Ev (fun k => slices_Contains_int64_int64.f k l c) (l.contains c) := by
  obtain ⟨r, h1, h2⟩ := index_l0 l c hl l.length 0 (by omega)
  refine Ev.bind h1 ?_
  rw [List.drop_zero] at h2
  rw [← h2]
  exact Ev.now _
theorem ofSuit_l0 (l : List Int) (s : Int) (hl : l.length ≤ 1048576) : ∀ (m i : Nat) (o : List Int), i + m = l.length → o.length ≤ i → Ev (fun k => impl_ofSuit.l0 k s o l (l.length : Int) (i : Int)) (o ++ (l.drop i).filter fun c => decide (suitN c = s)) := by
  intro m
  induction m with
  | zero =>
    intro i o hi ho
    rw [List.drop_eq_nil_of_le (by omega), List.filter_nil, List.append_nil]
    exact Ev.step (fun k => by simp only [impl_ofSuit.l0]; rw [if_neg (by omega)]) (Ev.now _)
  | succ m ih =>
    intro i o hi ho
    have e5 : wrap64 ((i : Int) + 1) = ((i + 1 : Nat) : Int) := by rw [w64 (by omega) (by omega)]; omega
    refine Ev.step (fun k => by simp only [impl_ofSuit.l0, e5]; rw [if_pos (by omega), if_pos (by omega), if_pos (by omega)]) (ev_pure (o := impl_suit.f (rd l (i : Int))) (a := suitN (rd l (i : Int))) rfl ?_)
    rw [drop_rd (show i < l.length by omega), List.filter_cons]
    by_cases h : suitN (rd l (i : Int)) = s
    · rw [decide_eq_true h, if_pos rfl]
      have := ih (i + 1) (o ++ [rd l (i : Int)]) (by omega) (by simp; omega)
      rw [List.append_assoc] at this
      exact ev_if_pos h (ev_if_pos (by omega) this)
    · rw [decide_eq_false h, if_neg (by simp)]
      exact ev_if_neg h (ih (i + 1) o (by omega) (by omega))
theorem ofSuit_eq (l : List Int) (s : Int) (hl : l.length ≤ 1048576) : Ev (fun k => impl_ofSuit.f k l s) (l.filter fun c => decide (suitN c = s)) := by
  have := ofSuit_l0 l s hl l.length 0 [] (by omega) (by simp)
  rw [List.drop_zero, List.nil_append] at this
  exact this
theorem follow_eq (h t : List Int) (hl : h.length ≤ 1048576) : Ev (fun k => impl_follow.f k h t) (followL h t) := by
  unfold followL
  by_cases c : 0 < t.length
  · rw [if_pos c]
    refine ev_if_pos (by omega) (ev_if_pos (by omega) (ev_pure (a := suitN (rd t 0)) rfl (Ev.bind (ofSuit_eq h _ hl) ?_)))
    by_cases g : 0 < (h.filter fun c => decide (suitN c = suitN (rd t 0))).length
    · rw [if_pos g]; exact ev_if_pos (by omega) (Ev.now _)
    · rw [if_neg g]; exact ev_if_neg (by omega) (Ev.now _)
  · rw [if_neg c]
    exact ev_if_neg (by omega) (Ev.now _)
theorem trickAt_eq (l : List Int) (hl : l.length ≤ 1048576) {i : Nat} (hi : i ≤ l.length) : impl_trickAt.f (l.take i) = some (trickL l i) := by
  have ht : (l.take i).length = i := by rw [List.length_take]; omega
  have e : wrap64 (wrap64 ((((l.take i).length : Nat) : Int) / 4) * 4) = ((i / 4 * 4 : Nat) : Int) := by rw [ht, w64 (x := (i : Int) / 4) (by omega) (by omega), w64 (by omega) (by omega)]; omega
  unfold impl_trickAt.f trickL
  rw [e, if_pos (by omega), if_pos (by rw [ht]; omega), Int.toNat_natCast]
theorem seatOf_eq (s ld : Int) (l : List Int) (hl : l.length ≤ 1048576) {i : Nat} (hi : i ≤ l.length) : impl_seatOf.f (leadersOf s ld l) (i : Int) = some (seatI s ld l i) := by
  have e1 : wrap64 (Int.tdiv (i : Int) 4) = ((i / 4 : Nat) : Int) := by rw [Int.tdiv_eq_ediv_of_nonneg (by omega), w64 (by omega) (by omega)]; omega
  have e2 : Int.tmod (i : Int) 4 = ((i % 4 : Nat) : Int) := by rw [Int.tmod_eq_emod_of_nonneg (by omega)]; omega
  unfold impl_seatOf.f seatI
  rw [e1, e2, if_pos (by omega), if_pos (by rw [leadersOf_length]; omega)]
theorem without_eq (h : List Int) (c : Int) (hl : h.length ≤ 1048576) : impl_without.f h c = some (h.filter fun x => !(x == c)) := by
  unfold impl_without.f; rw [if_pos (by omega)]
/-- What the program says of a play of a deal: hands, leaders, loose, plays. -/
def recR (s ld : Int) (l : List Int) (H : List (List Int)) (i m : Nat) (pl : Bool) : List (List Int) × List Int × Bool × Bool :=
  match recL (leadersOf s ld l) l m i H pl with
  | some (H', p) => (H', leadersOf s ld l, true, p)
  | none => ([], [], false, false)
theorem rec_l0 (s ld : Int) (l : List Int) (hl : l.length ≤ 1048576) (h0 : 0 ≤ ld) (h1 : ld ≤ 3) : ∀ (m i : Nat) (H : List (List Int)) (pl : Bool), i + m = l.length → H.length = 4 → (∀ g ∈ H, g.length ≤ 13) →
    Ev (fun k => impl_recordOf.l0 k l (l.length : Int) (i : Int) s ld l H (leadersOf s ld l) true pl) (recR s ld l H i m pl) := by
  intro m
  induction m with
  | zero =>
    intro i H pl hi hH hb
    exact Ev.step (f := fun _ => some (H, leadersOf s ld l, true, pl)) (fun k => by simp only [impl_recordOf.l0]; rw [if_neg (by omega)]) (Ev.now _)
  | succ m ih =>
    intro i H pl hi hH hb
    have e5 : wrap64 ((i : Int) + 1) = ((i + 1 : Nat) : Int) := by rw [w64 (by omega) (by omega)]; omega
    obtain ⟨s0, s1⟩ := seatI_bd (s := s) hl h0 h1 (show i ≤ l.length by omega)
    have hg : rd_L1 H (seatI s ld l i) = H.getD (seatN (leadersOf s ld l) i) [] := rfl
    have hm : (H.getD (seatN (leadersOf s ld l) i) []).length ≤ 13 := by
      rw [seatI_nat, List.getD_eq_getElem?_getD, List.getElem?_eq_getElem (by omega)]
      exact hb _ (List.getElem_mem _)
    have hset : ∀ x ∈ H.set (seatN (leadersOf s ld l) i) ((H.getD (seatN (leadersOf s ld l) i) []).filter fun x => !(x == rd l (i : Int))), x.length ≤ 13 := fun x hx => by
      rcases List.mem_or_eq_of_mem_set hx with hx | rfl
      · exact hb x hx
      · exact Nat.le_trans (List.length_filter_le _ _) hm
    have key : ∀ p, Ev (fun k => impl_recordOf.l0 k l (l.length : Int) ((i + 1 : Nat) : Int) s ld l (H.set (seatI s ld l i).toNat ((H.getD (seatN (leadersOf s ld l) i) []).filter fun x => !(x == rd l (i : Int)))) (leadersOf s ld l) true p) _ := fun p => ih (i + 1) _ p (by omega) (by rw [List.length_set]; exact hH) hset
    have hs1 : seatI s ld l i < (H.length : Int) := by omega
    have hcn := contains_eq (rd_L1 H (seatI s ld l i)) (rd l (i : Int)) (by rw [hg]; omega)
    refine Ev.step (fun k => by simp only [impl_recordOf.l0, e5]; rw [if_pos (by omega), if_pos (by omega), if_pos (by omega)]) (ev_pure (seatOf_eq s ld l hl (by omega)) (ev_if_pos s0 (ev_if_pos hs1 (Ev.bind hcn ?_))))
    rw [hg]
    unfold recR
    rw [recL]
    cases hc : (H.getD (seatN (leadersOf s ld l) i) []).contains (rd l (i : Int)) with
    | false => exact ev_if_neg (by simp) (Ev.now _)
    | true =>
      refine ev_if_pos rfl ?_
      rw [if_pos rfl]
      cases pl with
      | true =>
        refine ev_if_pos rfl (ev_if_pos (by omega) ?_)
        rw [Int.toNat_natCast]
        refine ev_pure (trickAt_eq l hl (by omega)) (Ev.bind (follow_eq _ _ (by omega)) (Ev.bind (contains_eq _ _ ?_) (ev_pure (without_eq _ _ (by omega)) ?_)))
        · unfold followL
          split
          · split
            · exact Nat.le_trans (List.length_filter_le _ _) (by omega)
            · omega
          · omega
        · rw [Bool.true_and]; exact key _
      | false =>
        refine ev_if_neg (by simp) (ev_pure (without_eq _ _ (by omega)) ?_)
        rw [Bool.false_and]; exact key _
/-- recordOf's answer. -/
def recA (H : List (List Int)) (s ld : Int) (l : List Int) : List (List Int) × List Int × Bool × Bool :=
  if dealB H = true then (if impl_IsPlainPlay.ok s ld l = true then recR s ld l H 0 l.length true else ([], [], false, false)) else ([], [], false, false)
theorem ok_seat {a b : Int} {l : List Int} (h : impl_IsPlainPlay.ok a b l = true) : 0 ≤ b ∧ b ≤ 3 := by
  unfold impl_IsPlainPlay.ok at h
  simp only [Bool.and_eq_true, decide_eq_true_eq] at h
  exact h.2.1
theorem ok_nodup {a b : Int} {l : List Int} (h : impl_IsPlainPlay.ok a b l = true) : l.Nodup := by
  unfold impl_IsPlainPlay.ok at h
  simp only [Bool.and_eq_true] at h
  have hs : ∀ (x s : List Int), impl_IsPlainPlay.scan x s = scan x s := fun x => by
    induction x with
    | nil => intro s; rfl
    | cons c cs ih => intro s; simp only [impl_IsPlainPlay.scan, scan, ih, cardB, Bool.and_assoc]
  have := h.2.2.2
  rw [hs] at this
  exact ((scan_iff l []).1 this).2.1
theorem recordOf_eq (H : List (List Int)) (s ld : Int) (l : List Int) (hl : l.length ≤ 1048576) : Ev (fun k => impl_recordOf.f k H s ld l) (recA H s ld l) := by
  have bad : Ev (fun k => impl_recordOf.j0 k true H s ld l false false) ([], [], false, false) := Ev.step (f := fun _ => some ([], [], false, false)) (fun k => by simp only [impl_recordOf.j0]; rw [if_pos trivial]) (Ev.now _)
  refine ev_pure (a := dealB H) rfl ?_
  unfold recA
  by_cases hd : dealB H = true
  · rw [if_pos hd]
    refine ev_if_pos hd (ev_pure (a := impl_IsPlainPlay.ok s ld l) rfl ?_)
    by_cases hp : impl_IsPlainPlay.ok s ld l = true
    · rw [if_pos hp, hp]
      obtain ⟨h0, h1⟩ := ok_seat hp
      have h4 := deal_four hd
      refine Ev.step (fun k => by simp only [impl_recordOf.j0]; rw [if_neg (by simp)]) (Ev.bind (leaders_eq s ld l hl) (ev_pure (a := H) ?_ ?_))
      · unfold slices_Clone_int64_int64_144.f; rw [if_pos (by omega)]
      · exact rec_l0 s ld l hl h0 h1 l.length 0 H true (by omega) h4 (fun g hg => (deal_len hd g hg).2)
    · rw [if_neg hp, show impl_IsPlainPlay.ok s ld l = false by simpa using hp]
      exact bad
  · rw [if_neg hd]
    exact ev_if_neg hd bad
/-- What it comes to. -/
theorem recA_eq {H : List (List Int)} {s ld : Int} {l : List Int} (hd : dealB H = true) (hp : impl_IsPlainPlay.ok s ld l = true) :
    recA H s ld l = if allFrom (looseAt H (leadersOf s ld l) l) l.length 0 = true then (H.map (leftL l l.length), leadersOf s ld l, true, allFrom (legalAt H (leadersOf s ld l) l) l.length 0) else ([], [], false, false) := by
  have h := recL_eq (ok_nodup hp) (deal_apart hd) (leadersOf s ld l) l.length 0 true (by omega)
  have e : H.map (leftL l 0) = H := by
    have : leftL l 0 = id := funext fun x => leftL_zero l x
    rw [this]; simp
  rw [e] at h
  unfold recA recR
  rw [if_pos hd, if_pos hp, h, Nat.zero_add, Bool.true_and]
  by_cases c : allFrom (looseAt H (leadersOf s ld l) l) l.length 0 = true
  · rw [if_pos c, if_pos c]
  · rw [if_neg c, if_neg c]
end Go.Proofs.Ytakepkjcmgcepaa.QFnExactIsClaim
namespace Go.Proofs.Ytakepkjcmgcepaa.QFnExactIsClaim
open Go.RowKit Go.Proofs.YtakepkjcmgcepaaW.PrintWords Go.Proofs.YtakepkjcmgcepaaW.PrintLast Go.Proofs.YtakepkjcmgcepaaW.PrintMore Go.Proofs.Ytakepkjcmgcepaa.Lib
set_option linter.unusedVariables false
set_option linter.unusedSimpArgs false
def playB (H : List (List Int)) (s ld : Int) (l : List Int) : Bool :=
  if dealB H = true then (if impl_IsPlainPlay.ok s ld l = true then allFrom (legalAt H (leadersOf s ld l) l) l.length 0 else false) else false
theorem play_l0 (H : List (List Int)) (s ld : Int) (l : List Int) (hl : l.length ≤ 1048576) (h4 : H.length = 4) (hb : ∀ g ∈ H, g.length ≤ 13) (h0 : 0 ≤ ld) (h1 : ld ≤ 3) : ∀ (m i : Nat), i + m = l.length → Ev (fun k => spec_IsPlay.l0 k (i : Int) H s ld l) (allFrom (legalAt H (leadersOf s ld l) l) m i) := by
  intro m
  induction m with
  | zero =>
    intro i hi
    exact Ev.step (f := fun _ => some true) (fun k => by simp only [spec_IsPlay.l0]; rw [if_neg (by omega)]) (Ev.now _)
  | succ m ih =>
    intro i hi
    have e5 : wrap64 ((i : Int) + 1) = ((i + 1 : Nat) : Int) := by rw [w64 (by omega) (by omega)]; omega
    have hlen := legalL_len H s ld l hb i
    have hh := l01Has_eq (legalL H s ld l i) (rd l (i : Int)) (by omega)
    refine Ev.step (fun k => by simp only [spec_IsPlay.l0, e5]; rw [if_pos (by omega)]) ?_
    refine ev_pure (begin_eq s ld l hl (show i ≤ l.length by omega)) ?_
    refine Ev.bind (legal_eq H s ld l hl h4 hb h0 h1 (show i ≤ l.length by omega)) ?_
    refine ev_if_pos (show (0 : Int) ≤ (i : Int) by omega) ?_
    refine Ev.bind hh ?_
    rw [allFrom]
    have hla : (legalL H s ld l i).contains (rd l (i : Int)) = legalAt H (leadersOf s ld l) l i := rfl
    rw [hla]
    cases legalAt H (leadersOf s ld l) l i with
    | false => exact ev_if_neg (by simp) (Ev.now _)
    | true => exact ev_if_pos rfl (ih (i + 1) (by omega))
theorem sPlay_eq (H : List (List Int)) (s ld : Int) (l : List Int) (hl : l.length ≤ 1048576) : Ev (fun k => spec_IsPlay.f k H s ld l) (playB H s ld l) := by
  have bad : Ev (fun k => spec_IsPlay.j0 k true H s ld l) false := Ev.step (f := fun _ => some false) (fun k => by simp only [spec_IsPlay.j0]; rw [if_pos trivial]) (Ev.now _)
  refine Ev.bind (sDeal_eq H) ?_
  unfold playB
  by_cases hd : dealB H = true
  · rw [if_pos hd]
    refine ev_if_pos hd (Ev.bind (plain_eq s ld l hl) ?_)
    by_cases hp : impl_IsPlainPlay.ok s ld l = true
    · rw [if_pos hp, hp]
      obtain ⟨h0, h1⟩ := ok_seat hp
      exact Ev.step (fun k => by simp only [spec_IsPlay.j0]; rw [if_neg (by simp)]; rfl) (play_l0 H s ld l hl (deal_four hd) (fun g hg => (deal_len hd g hg).2) h0 h1 l.length 0 (by omega))
    · rw [if_neg hp, show impl_IsPlainPlay.ok s ld l = false by simpa using hp]
      exact bad
  · rw [if_neg hd]
    exact ev_if_neg hd bad
/-- What recordOf says: it plays if every card is legal. -/
theorem recA_plays (H : List (List Int)) (s ld : Int) (l : List Int) : (recA H s ld l).2.2.2 = playB H s ld l := by
  unfold playB
  by_cases hd : dealB H = true
  · rw [if_pos hd]
    by_cases hp : impl_IsPlainPlay.ok s ld l = true
    · rw [if_pos hp, recA_eq hd hp]
      by_cases c : allFrom (looseAt H (leadersOf s ld l) l) l.length 0 = true
      · rw [if_pos c]
      · rw [if_neg c]
        cases g : allFrom (legalAt H (leadersOf s ld l) l) l.length 0 with
        | false => rfl
        | true => exact absurd (all_loose g) c
    · rw [if_neg hp]; unfold recA; rw [if_pos hd, if_neg hp]
  · rw [if_neg hd]; unfold recA; rw [if_neg hd]
theorem play_deal {H : List (List Int)} {s ld : Int} {l : List Int} (h : playB H s ld l = true) : dealB H = true ∧ impl_IsPlainPlay.ok s ld l = true ∧ allFrom (legalAt H (leadersOf s ld l) l) l.length 0 = true := by
  unfold playB at h
  by_cases hd : dealB H = true
  · rw [if_pos hd] at h
    by_cases hp : impl_IsPlainPlay.ok s ld l = true
    · rw [if_pos hp] at h; exact ⟨hd, hp, h⟩
    · rw [if_neg hp] at h; cases h
  · rw [if_neg hd] at h; cases h
theorem recA_play {H : List (List Int)} {s ld : Int} {l : List Int} (h : playB H s ld l = true) : recA H s ld l = (H.map (leftL l l.length), leadersOf s ld l, true, true) := by
  obtain ⟨hd, hp, hl⟩ := play_deal h
  rw [recA_eq hd hp, if_pos (all_loose hl), hl]
end Go.Proofs.Ytakepkjcmgcepaa.QFnExactIsClaim
namespace Go.Proofs.Ytakepkjcmgcepaa.QFnExactIsClaim
open Go.RowKit Go.Proofs.YtakepkjcmgcepaaW.PrintWords Go.Proofs.YtakepkjcmgcepaaW.PrintLast Go.Proofs.YtakepkjcmgcepaaW.PrintMore Go.Proofs.Ytakepkjcmgcepaa.Lib
set_option linter.unusedVariables false
def rest (H : List (List Int)) (l : List Int) : Int := wrap64 (((rd_L1 H 0).length : Int) - (wrap64 ((l.length : Int) / 4)))
def within (a b c : Int) : Bool := if b ≤ a then decide (a ≤ c) else false
theorem in_eq (a b c : Int) : spec_l01In.f a b c = some (within a b c) := by
  unfold spec_l01In.f within
  by_cases h : b ≤ a
  · rw [if_pos h, if_pos h]
  · rw [if_neg h, if_neg h]
theorem within_eq (a b c : Int) : impl_within.f a b c = some (within a b c) := by
  unfold impl_within.f within
  by_cases h : b ≤ a
  · rw [if_pos h, if_pos h]
  · rw [if_neg h, if_neg h]
def whole (H : List (List Int)) (s ld : Int) (l : List Int) : Bool := if playB H s ld l = true then ((l.length : Int) % 4 == 0) else false
def claimB (H : List (List Int)) (s ld : Int) (l : List Int) (c d : Int) : Bool := if whole H s ld l = true then (if within c 0 3 = true then within d 0 (rest H l) else false) else false
theorem whole_play {H : List (List Int)} {s ld : Int} {l : List Int} (h : whole H s ld l = true) : playB H s ld l = true := by
  unfold whole at h
  by_cases g : playB H s ld l = true
  · exact g
  · rw [if_neg g] at h; exact absurd h (by decide)
theorem even_eq (H : List (List Int)) (s ld : Int) (l : List Int) (hl : l.length ≤ 1048576) : Ev (fun k => spec_l09Even.f k H s ld l) (whole H s ld l) := by
  refine Ev.bind (sPlay_eq H s ld l hl) ?_
  unfold whole
  by_cases h : playB H s ld l = true
  · have e : (if playB H s ld l = true then ((l.length : Int) % 4 == 0) else false) = ((l.length : Int) % 4 == 0) := if_pos h
    rw [e]; exact ev_if_pos h (Ev.now _)
  · have e : (if playB H s ld l = true then ((l.length : Int) % 4 == 0) else false) = false := if_neg h
    rw [e]; exact ev_if_neg h (Ev.now _)
theorem iplay_eq (H : List (List Int)) (s ld : Int) (l : List Int) (hl : l.length ≤ 1048576) : Ev (fun k => impl_IsPlay.f k H s ld l) (playB H s ld l) := by
  refine Ev.bind (recordOf_eq H s ld l hl) ?_
  rw [← recA_plays]
  exact Ev.now _
theorem isWhole_eq (H : List (List Int)) (s ld : Int) (l : List Int) (hl : l.length ≤ 1048576) : Ev (fun k => impl_isWhole.f k H s ld l) (whole H s ld l) := by
  by_cases m : (l.length : Int) % 4 = 0
  · have e : whole H s ld l = playB H s ld l := by
      unfold whole
      by_cases h : playB H s ld l = true
      · rw [if_pos h, h, m]; rfl
      · rw [if_neg h]; exact (Bool.eq_false_iff.mpr h).symm
    rw [e]
    exact ev_if_pos m (Ev.bind (iplay_eq H s ld l hl) (Ev.now _))
  · have e : whole H s ld l = false := by
      unfold whole
      by_cases h : playB H s ld l = true
      · rw [if_pos h]; exact beq_eq_false_iff_ne.mpr m
      · rw [if_neg h]
    rw [e]
    exact ev_if_neg m (Ev.now _)
theorem spec_ans (H : List (List Int)) (s ld : Int) (l : List Int) (c d : Int) (hl : l.length ≤ 1048576) : Ev (fun k => spec_IsClaim.f k H s ld l c d) (claimB H s ld l c d) := by
  refine Ev.bind (even_eq H s ld l hl) ?_
  by_cases h : whole H s ld l = true
  · have e : claimB H s ld l c d = (if within c 0 3 = true then within d 0 (rest H l) else false) := if_pos h
    rw [e]
    refine ev_if_pos h (ev_pure (in_eq c 0 3) ?_)
    by_cases g : within c 0 3 = true
    · have e2 : (if within c 0 3 = true then within d 0 (rest H l) else false) = within d 0 (rest H l) := if_pos g
      rw [e2]
      have h4 := deal_four (play_deal (whole_play h)).1
      have hr : spec_l09Rest.f H s ld l = some (rest H l) := by unfold spec_l09Rest.f; rw [if_pos (by omega)]; rfl
      exact ev_if_pos g (ev_pure hr (ev_pure (in_eq d 0 (rest H l)) (Ev.now _)))
    · have e2 : (if within c 0 3 = true then within d 0 (rest H l) else false) = false := if_neg g
      rw [e2]
      exact ev_if_neg g (Ev.now _)
  · have e : claimB H s ld l c d = false := if_neg h
    rw [e]
    exact ev_if_neg h (Ev.now _)
theorem impl_ans (H : List (List Int)) (s ld : Int) (l : List Int) (c d : Int) (hl : l.length ≤ 1048576) : Ev (fun k => impl_IsClaim.f k H s ld l c d) (claimB H s ld l c d) := by
  refine Ev.bind (isWhole_eq H s ld l hl) ?_
  by_cases h : whole H s ld l = true
  · have e : claimB H s ld l c d = (if within c 0 3 = true then within d 0 (rest H l) else false) := if_pos h
    rw [e]
    have hs : impl_isSeat.f c = some (within c 0 3) := by unfold impl_isSeat.f; rw [within_eq]; rfl
    refine ev_if_pos h (ev_pure hs ?_)
    by_cases g : within c 0 3 = true
    · have e2 : (if within c 0 3 = true then within d 0 (rest H l) else false) = within d 0 (rest H l) := if_pos g
      rw [e2]
      have h4 := deal_four (play_deal (whole_play h)).1
      have hr : impl_remaining.f H s ld l = some (rest H l) := by unfold impl_remaining.f; rw [if_pos (by omega)]; rfl
      exact ev_if_pos g (ev_pure hr (ev_pure (within_eq d 0 (rest H l)) (Ev.now _)))
    · have e2 : (if within c 0 3 = true then within d 0 (rest H l) else false) = false := if_neg g
      rw [e2]
      exact ev_if_neg g (Ev.now _)
  · have e : claimB H s ld l c d = false := if_neg h
    rw [e]
    exact ev_if_neg h (Ev.now _)
end Go.Proofs.Ytakepkjcmgcepaa.QFnExactIsClaim
namespace Go.Proofs.Ytakepkjcmgcepaa.Pure
open Go.RowKit Go.Proofs.Ytakepkjcmgcepaa.QFnExactIsClaim Go.Proofs.YtakepkjcmgcepaaW.PrintWords Go.Proofs.YtakepkjcmgcepaaW.PrintLast Go.Proofs.Ytakepkjcmgcepaa.Lib

theorem FnExactIsClaim : laws_FnExactIsClaim.Pure := by
  intro H a b l c d hH _ _ hl _ _
  have hm : l.length ≤ 9223372036854775807 := Nat.le_trans hl.1 (by decide)
  have hHm : H.length ≤ 9223372036854775807 := Nat.le_trans hH.1 (by decide)
  have hHr : ∀ h ∈ H, h.length ≤ 9223372036854775807 := fun h hh => Nat.le_trans (hH.2 h hh).1 (by decide)
  refine ev_true (Ev.bind (szDeal_eq H 1048576 hHm hHr (by omega) (by omega)) ?_)
  by_cases hz : szH H 1048576 < 0
  · rw [if_pos hz]
    exact ev_if_pos (by omega) (Ev.now _)
  · rw [if_neg hz]
    obtain ⟨z1, z2⟩ := szH_row (H := H) (n := 1048576) (by omega) (by omega)
    have z3 := szH_le H 1048576 (by omega)
    have zH : H.length ≤ 1048576 := by omega
    have zR : ∀ h ∈ H, h.length ≤ 1048576 := fun h hh => by have := z2 h hh; omega
    refine ev_if_neg (by omega) ?_
    by_cases hs : szH H 1048576 < l.length
    · refine ev_pure (szPlay_eq a b l _ hm (by omega) (by omega)) ?_
      rw [if_pos hs]
      exact ev_if_pos (by omega) (Ev.now _)
    · have hl' : l.length ≤ 1048576 := by omega
      refine ev_pure (szPlay_eq a b l _ hm (by omega) (by omega)) ?_
      rw [if_neg hs]
      refine ev_if_neg (by omega) (Ev.bind (toDeal_eq H zH zR) (Ev.bind (toPlay_eq a b l hl') (ev_pure (a := (c, d)) rfl (Ev.bind (spec_ans H a b l c d hl') (Ev.bind (toDeal_eq H zH zR) (Ev.bind (toPlay_eq a b l hl') (ev_pure (a := (c, d)) rfl (Ev.bind (impl_ans H a b l c d hl') ?_))))))))
      refine ev_if_neg (by simp) (Ev.bind (toDeal_eq H zH zR) (Ev.bind (eqDeal_same H zH zR) (ev_if_pos rfl ?_)))
      exact Ev.bind (toPlay_eq a b l hl') (Ev.bind (eqPlay_same a b l hl') (ev_if_pos rfl (Ev.now _)))
end Go.Proofs.Ytakepkjcmgcepaa.Pure
