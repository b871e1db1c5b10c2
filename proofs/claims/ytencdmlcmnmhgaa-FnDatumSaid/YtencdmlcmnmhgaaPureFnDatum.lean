/- The datum is a mean of the scores that are kept, and the IMPs are those against it: for every code of bytes, no condition. -/
import Derived.Test.YtencdmlcmnmhgaaButlerIFnDatum
import Derived.Test.YtencdmlcmnmhgaaDrawMFnDatum
namespace Go.Proofs.Ytencdmlcmnmhgaa.QFnDatum
set_option linter.unusedVariables false
open Go.RowKit Go.Proofs.YtencdmlcmnmhgaaW.PrintWords Go.Proofs.YtencdmlcmnmhgaaW.PrintLast Go.Proofs.YtencdmlcmnmhgaaW.PrintMore Go.Proofs.Ytencdmlcmnmhgaa.Lib
theorem draw_l0 {l : List Int} : ∀ (m : Nat) (x : List Int) (i : Nat) (a s : Int), Src l a s → i + m = x.length → x.length ≤ 1001 → ∃ y t, y.length ≤ 1001 ∧ Ev (fun k => spec_DrawDatumOf.l0 k x (i : Int) l a s) (y, t) := by
  intro m
  induction m with
  | zero =>
    intro x i a s S hi hx
    obtain ⟨v1, a1, s1, e1, S1, _⟩ := next_src S 5
    obtain ⟨v2, a2, s2, e2, S2, _⟩ := next_src S1 12
    exact ⟨x, wrap64 (v1 - wrap64 (Int.tdiv v2 11)), hx, Ev.step (fun k => by simp only [spec_DrawDatumOf.l0]; rw [if_neg (by omega)]) (by refine ev_pure e1 ?_; refine ev_pure e2 ?_; exact Ev.now _)⟩
  | succ m ih =>
    intro x i a s S hi hx
    have e5 : wrap64 ((i : Int) + 1) = ((i + 1 : Nat) : Int) := by rw [w64 (by omega) (by omega)]; omega
    obtain ⟨v1, a1, s1, e1, S1, _⟩ := next_src S 10
    obtain ⟨y, t, hy, h⟩ := ih (x.set i (wrap64 (rd x (i : Int) + v1))) (i + 1) a1 s1 S1 (by simp; omega) (by simpa using hx)
    exact ⟨y, t, hy, Ev.step (fun k => by simp only [spec_DrawDatumOf.l0, e5]; rw [if_pos (by omega), if_pos (by omega)]) (ev_pure e1 h)⟩
theorem draw_dat {l : List Int} (hl : l.length ≤ 140737488351232) (hb : ∀ x ∈ l, (Lit.int .u8 x).wf = true) : ∃ y t, y.length ≤ 1001 ∧ Ev (fun k => spec_DrawDatumOf.f k l) (y, t) := by
  obtain ⟨s, hS, h0⟩ := from_src hl hb
  obtain ⟨p, q, a1, s1, S1, hp, hq, h1⟩ := drawM hS
  obtain ⟨v2, a2, s2, e2, S2, _⟩ := next_src S1 2
  by_cases c : v2 = 0
  · obtain ⟨y, t, hy, h⟩ := draw_l0 p.length p 0 a2 s2 S2 (by omega) hp
    exact ⟨y, t, hy, Ev.bind h0 (Ev.bind h1 (ev_pure e2 (ev_if_pos c h)))⟩
  · obtain ⟨v3, a3, s3, e3, S3, _⟩ := next_src S2 5
    obtain ⟨v4, a4, s4, e4, S4, _⟩ := next_src S3 12
    exact ⟨_, _, hp, Ev.bind h0 (Ev.bind h1 (ev_pure e2 (ev_if_neg c (ev_pure e3 (ev_pure e4 (Ev.now _))))))⟩
theorem swap_set (P D : List Int) (a x : Int) : ((P ++ a :: x :: D).set (P.length + 1) a).set P.length x = P ++ x :: a :: D := by
  simp [List.set_append]
section
variable (x3 : List Int) (x4 x5 : Int) (x7 : List Int)
theorem fl1 (A rest : List Int) (x : Int) (hlen : A.length + rest.length ≤ 1048576) (r : Bool) : ∀ j, j ≤ A.length → Ev (fun k => laws_FnDatum.l0 k x3 x4 x5 x7 (insAt A x (spot A x j) ++ rest) ((A.length + 1 : Nat) : Int)) r → Ev (fun k => laws_FnDatum.l1 k x3 x4 x5 x7 (insAt A x j ++ rest) (A.length : Int) (j : Int)) r := by
  have e5 : wrap64 ((A.length : Int) + 1) = ((A.length + 1 : Nat) : Int) := by rw [w64 (by omega) (by omega)]; omega
  have hL : ∀ j, j ≤ A.length → (insAt A x j ++ rest).length = A.length + 1 + rest.length := fun j hj => by unfold insAt; simp only [List.length_append, List.length_cons, List.length_take, List.length_drop]; omega
  intro j
  induction j with
  | zero =>
    intro hj h
    rw [spot] at h
    exact Ev.step (fun k => by simp only [laws_FnDatum.l1]; rw [if_neg (by omega), e5]) h
  | succ n ih =>
    intro hj h
    have e1 : wrap64 (((n + 1 : Nat) : Int) - 1) = (n : Int) := by rw [w64 (by omega) (by omega)]; omega
    have hP : (A.take n).length = n := by rw [List.length_take]; omega
    have f1 : insAt A x (n + 1) ++ rest = A.take n ++ rd A (n : Int) :: x :: (A.drop (n + 1) ++ rest) := by unfold insAt; rw [take_succ_rd (by omega)]; simp
    have f2 : insAt A x n ++ rest = A.take n ++ x :: rd A (n : Int) :: (A.drop (n + 1) ++ rest) := by unfold insAt; rw [drop_rd (show n < A.length by omega)]; simp
    have hl1 := hL (n + 1) hj
    have r1 : rd (insAt A x (n + 1) ++ rest) (n : Int) = rd A (n : Int) := by
      rw [rd_lt (by omega)]; simp only [f1]; rw [List.getElem_append_right (by omega)]; simp [hP]
    have r2 : rd (insAt A x (n + 1) ++ rest) ((n + 1 : Nat) : Int) = x := by
      rw [rd_lt (by omega)]; simp only [f1]; rw [List.getElem_append_right (by omega)]; simp [hP]
    have sw : ((insAt A x (n + 1) ++ rest).set (n + 1) (rd A (n : Int))).set n x = insAt A x n ++ rest := by
      rw [f1, f2]
      have := swap_set (A.take n) (A.drop (n + 1) ++ rest) (rd A (n : Int)) x
      rw [hP] at this
      exact this
    rw [spot] at h
    by_cases c : rd A (n : Int) > x
    · rw [if_pos c] at h
      exact Ev.step (fun k => by simp only [laws_FnDatum.l1, e1, r1, r2, Int.toNat_natCast, sw]; rw [if_pos (by omega), if_pos (by omega), if_pos (by omega), if_pos (by omega), if_pos (by omega), if_pos c]) (ih (by omega) h)
    · rw [if_neg c] at h
      exact Ev.step (fun k => by simp only [laws_FnDatum.l1, e1, r1, r2]; rw [if_pos (by omega), if_pos (by omega), if_pos (by omega), if_pos (by omega), if_pos (by omega), if_neg c, e5]) h
/-- What stands behind the loop that sorts. -/
theorem fl0 (p : List Int) (hp : p.length ≤ 1001) (r : Bool) : ∀ (m i : Nat) (A : List Int), i + m = p.length → A.length = i → Ev (fun k => laws_FnDatum.l0 k x3 x4 x5 x7 (isort (p.drop i) A) (p.length : Int)) r → Ev (fun k => laws_FnDatum.l0 k x3 x4 x5 x7 (A ++ p.drop i) (i : Int)) r := by
  intro m
  induction m with
  | zero =>
    intro i A hi hA h
    rw [List.drop_eq_nil_of_le (by omega)] at h ⊢
    rw [List.append_nil]
    rw [isort, show p.length = i by omega] at h
    exact h
  | succ m ih =>
    intro i A hi hA h
    have hd := drop_rd (show i < p.length by omega)
    rw [hd, isort] at h
    have e : A ++ p.drop i = insAt A (rd p (i : Int)) A.length ++ p.drop (i + 1) := by unfold insAt; rw [hd]; simp
    have hl2 : (p.drop (i + 1)).length ≤ 1001 := by rw [List.length_drop]; omega
    rw [e]
    refine Ev.step (fun k => by simp only [laws_FnDatum.l0]; rw [if_pos (by unfold insAt; simp only [List.length_append, List.length_cons, List.length_take, List.length_drop]; omega)]) ?_
    have := fl1 x3 x4 x5 x7 A (p.drop (i + 1)) (rd p (i : Int)) (by omega) r A.length (Nat.le_refl _) (by
      have := ih (i + 1) (ins (rd p (i : Int)) A) (by omega) (by rw [ins_length]; omega) h
      rw [hA]
      rw [show insAt A (rd p (i : Int)) (spot A (rd p (i : Int)) i) = ins (rd p (i : Int)) A by unfold ins; rw [hA]]
      exact this)
    rw [hA] at this
    rw [hA]
    exact this
end
theorem w5_l0 (y : List Int) (hy : y.length ≤ 100) (hb : ∀ x ∈ y, -100000 ≤ x ∧ x ≤ 100000) : ∀ (m i : Nat), i + m = y.length → Ev (fun k => laws_w5Sum.l0 k y (total (y.take i)) (i : Int)) (total y) := by
  intro m
  induction m with
  | zero =>
    intro i hi
    rw [List.take_of_length_le (by omega)]
    exact Ev.step (fun k => by simp only [laws_w5Sum.l0]; rw [if_neg (by omega)]) (Ev.now _)
  | succ m ih =>
    intro i hi
    have e5 : wrap64 ((i : Int) + 1) = ((i + 1 : Nat) : Int) := by rw [w64 (by omega) (by omega)]; omega
    have t1 := total_bd (c := 100000) (y.take i) (fun x hx => hb x (List.mem_of_mem_take hx))
    rw [List.length_take] at t1
    have hx := hb (rd y i) (rd_mem (by omega) (by omega))
    have et : total (y.take (i + 1)) = total (y.take i) + rd y i := by rw [take_succ_rd (by omega), total_append]; simp [total]
    refine Ev.step (fun k => by simp only [laws_w5Sum.l0, e5]; rw [if_pos (by omega), if_pos (by omega), w64 (x := total (y.take i) + rd y i) (by omega) (by omega), ← et]) (ih (i + 1) (by omega))
theorem half_mul {z c : Int} (hz : 0 ≤ z) (hc : 1 ≤ c) : -(5 * c) ≤ half z c * c - z ∧ half z c * c - z ≤ 5 * c := by
  have h1 := Int.mul_ediv_add_emod z (10 * c)
  have h2 := Int.emod_nonneg z (show (10 * c : Int) ≠ 0 by omega)
  have h3 := Int.emod_lt_of_pos z (show (0 : Int) < 10 * c by omega)
  unfold half
  generalize z / (10 * c) = q at h1 ⊢
  generalize z % (10 * c) = r at h1 h2 h3 ⊢
  have e : ∀ u : Int, 10 * u * c = (10 * c) * u := fun u => by rw [Int.mul_assoc, Int.mul_comm u c, ← Int.mul_assoc]
  rw [e]
  by_cases g : 2 * r > 10 * c
  · rw [if_pos g, Int.mul_add, Int.mul_one]; omega
  · rw [if_neg g, Int.add_zero]; omega
theorem dat_mul {S c : Int} (hc : 1 ≤ c) : -(5 * c) ≤ dat S c * c - S ∧ dat S c * c - S ≤ 5 * c := by
  unfold dat
  by_cases g : S < 0
  · rw [if_pos g]
    have := half_mul (z := -S) (c := c) (by omega) hc
    rw [Int.neg_mul]; omega
  · rw [if_neg g]
    exact half_mul (by omega) hc
theorem dat_ten (S c : Int) : Int.tmod (dat S c) 10 = 0 := by
  apply Int.tmod_eq_zero_of_dvd
  unfold dat half
  split
  · exact Int.dvd_neg.2 (Int.dvd_mul_right 10 _)
  · exact Int.dvd_mul_right 10 _
theorem fl2 (p : List Int) (n : Int) (hp : p.length ≤ 1001) : ∀ (m i : Nat), i + m = p.length → Ev (fun k => laws_FnDatum.l2 k p n (against p n) (i : Int)) true := by
  have hl : (against p n).length = p.length := by unfold against; rw [List.length_map]
  intro m
  induction m with
  | zero =>
    intro i hi
    exact Ev.step (fun k => by simp only [laws_FnDatum.l2]; rw [if_neg (by omega)]) (Ev.now _)
  | succ m ih =>
    intro i hi
    have e5 : wrap64 ((i : Int) + 1) = ((i + 1 : Nat) : Int) := by rw [w64 (by omega) (by omega)]; omega
    refine Ev.step (fun k => by simp only [laws_FnDatum.l2, e5]; rw [if_pos (by omega), if_pos (by omega), if_pos (by omega)]) ?_
    refine Ev.bind (impl_imps _) (ev_if_pos ?_ (ih (i + 1) (by omega)))
    rw [rd_lt (by omega), rd_lt (by omega)]
    unfold against
    rw [List.getElem_map]
end Go.Proofs.Ytencdmlcmnmhgaa.QFnDatum
namespace Go.Proofs.Ytencdmlcmnmhgaa.Pure
open Go.RowKit Go.Proofs.Ytencdmlcmnmhgaa.QFnDatum Go.Proofs.YtencdmlcmnmhgaaW.PrintWords Go.Proofs.YtencdmlcmnmhgaaW.PrintLast Go.Proofs.Ytencdmlcmnmhgaa.Lib

theorem FnDatum : laws_FnDatum.Pure := by
  intro l _ hl hb
  obtain ⟨p, t, hp, hd⟩ := draw_dat (l := l) (by omega) hb
  by_cases big : (l.length : Int) > 4096
  · exact ev_true (ev_pure (a := true) (by simp [laws_big.f]; omega) (ev_if_pos rfl (Ev.now _)))
  · refine ev_true (ev_pure (a := false) (by simp [laws_big.f]; omega) (ev_if_neg (by simp) ?_))
    have hi := impl_datum p t
    have hs := spec_datum p t (by omega)
    have hu := impl_butler p t (by omega)
    refine Ev.bind hd (Ev.bind hi (Ev.bind hu (Ev.bind hs (ev_if_pos rfl ?_))))
    rw [show ((butler p t).2 != (datum p t).2) = false by
      unfold butler
      by_cases h : (datum p t).2 = 0
      · rw [if_pos h, h]; rfl
      · rw [if_neg h]; simp]
    refine Ev.step (fun k => by simp only [laws_FnDatum.j0]; rw [if_neg (by simp)]) ?_
    by_cases h : (datum p t).2 = 0
    · have hsc : scores 100 p = true := by
        unfold datum at h
        by_cases g : scores 100 p = true
        · exact g
        · rw [if_neg g] at h; cases h
      have ht : 0 ≤ t ∧ 2 * t < p.length := by
        unfold datum at h
        rw [if_pos hsc] at h
        by_cases g : 0 ≤ t ∧ 2 * t < (p.length : Int)
        · exact g
        · rw [if_neg g] at h; cases h
      have hD : datum p t = (dat (total (mid p t.toNat)) (p.length - 2 * t), 0) := by unfold datum; rw [if_pos hsc, if_pos ht]
      have hB : (butler p t).1 = against p (dat (total (mid p t.toNat)) (p.length - 2 * t)) := by unfold butler; rw [if_pos h, hD]
      obtain ⟨s, rfl⟩ := Int.eq_ofNat_of_zero_le ht.1
      have hn := ((scores_iff 100 p).1 hsc).1
      have f0 : ¬ ((p.length : Int) < ((srt p).length : Int)) := by rw [srt_length]; omega
      have f1 : (0 : Int) ≤ (s : Int) := by omega
      have f2 : (s : Int) ≤ ((p.length - s : Nat) : Int) := by omega
      have f3 : ((p.length - s : Nat) : Int) ≤ ((srt p).length : Int) := by rw [srt_length]; omega
      have hm := mid_bd p s hsc (by omega)
      have hS := total_mid_bd p s hsc (by omega)
      rw [hD, hB]
      simp only [Int.toNat_natCast]
      refine ev_if_pos trivial (ev_pure (a := []) rfl (ev_if_pos (by simp; omega) ?_))
      have hsum : Ev (fun k => laws_w5Sum.f k (((srt p).take (p.length - s)).drop s)) (total (mid p s)) := w5_l0 (mid p s) hm.1 hm.2 (mid p s).length 0 (by omega)
      generalize total (mid p s) = S at hS hsum ⊢
      obtain ⟨c, hc⟩ : ∃ c : Int, c = p.length - 2 * s := ⟨_, rfl⟩
      rw [← hc]
      have c1 : 1 ≤ c := by omega
      have hmul := dat_mul (S := S) (c := c) c1
      have hten := dat_ten S c
      have hend := fl2 p (dat S c) hp p.length 0 (by omega)
      have hlen : (against p (dat S c)).length = p.length := by unfold against; rw [List.length_map]
      generalize dat S c = n at hmul hten hend hlen ⊢
      have c2 : c ≤ 100 := by omega
      have K1 : -9223372036854775808 ≤ 5 * c := by omega
      have K2 : 5 * c ≤ 9223372036854775807 := by omega
      have K3 : -9223372036854775808 ≤ -5 * c := by omega
      have K4 : -5 * c ≤ 9223372036854775807 := by omega
      have G : (-9223372036854775808 ≤ n * c ∧ n * c ≤ 9223372036854775807) ∧ (-9223372036854775808 ≤ n * c - S ∧ n * c - S ≤ 9223372036854775807) ∧ ¬ (n * c - S > 5 * c) ∧ ¬ (n * c - S < -5 * c) := by
        obtain ⟨m1, m2⟩ := hmul
        clear hten hend hlen hsum hm hB hD hsc ht
        generalize n * c = q at m1 m2 ⊢
        omega
      obtain ⟨⟨G1, G2⟩, ⟨G3, G4⟩, G5, G6⟩ := G
      rw [List.nil_append]
      have hpe : p = [rd p ((0 : Nat) : Int)] ++ p.drop 1 := by rw [List.singleton_append, ← drop_rd (show 0 < p.length by omega)]; rfl
      have key := fl0 p s n (against p n) p hp true (p.length - 1) 1 [rd p ((0 : Nat) : Int)] (by omega) rfl ?_
      · rw [← hpe] at key
        exact key
      · have es : isort (p.drop 1) [rd p ((0 : Nat) : Int)] = srt p := by
          rw [← isort_eq]
          conv => rhs; rw [show p = rd p ((0 : Nat) : Int) :: p.drop 1 from hpe, isort]
          rfl
        rw [es]
        have eW : wrap64 (((srt p).length : Int) - (s : Int)) = ((p.length - s : Nat) : Int) := by rw [srt_length, w64 (by omega) (by omega)]; omega
        have eC : wrap64 (((srt p).length : Int) - wrap64 (2 * (s : Int))) = c := by rw [srt_length, w64 (x := 2 * (s : Int)) (by omega) (by omega), w64 (by omega) (by omega)]; omega
        refine Ev.step (fun k => by simp only [laws_FnDatum.l0, eW, eC, Int.toNat_natCast]; rw [if_neg f0, if_pos f1, if_pos f2, if_pos f3]) ?_
        refine Ev.bind hsum ?_
        refine ev_if_pos hten ?_
        rw [w64 (x := n * c) G1 G2, w64 (x := n * c - S) G3 G4, w64 (x := 5 * c) K1 K2, w64 (x := -5 * c) K3 K4]
        refine ev_if_neg G5 ?_
        refine ev_if_neg G6 ?_
        rw [show (((against p n).length : Int) != (p.length : Int)) = false by rw [hlen]; simp]
        exact Ev.step (fun k => by simp only [laws_FnDatum.j3]; rw [if_neg (by simp)]; rfl) hend
    · have hz : (datum p t).1 = 0 := by
        unfold datum at h ⊢
        split
        · split
          · rename_i g1 g2; rw [if_pos g1, if_pos g2] at h; exact absurd rfl h
          · rfl
        · rfl
      have hb0 : (butler p t).1 = [] := by unfold butler; rw [if_neg h]
      rw [hz, hb0]
      exact ev_if_neg h (ev_if_pos rfl (Ev.now _))
end Go.Proofs.Ytencdmlcmnmhgaa.Pure
