/- The functions that the law FnExactAddFractions reaches, as plain functions, and the walks that show that the machine's calls answer so. Written by a program of this session (wip/myprint.py) on the kit's print. -/
import Derived.Test.YtnkdjddnppajaaaQFnExactAddFractionsx0
import Derived.Test.YtnkdjddnppajaaaQFnExactAddFractionsx1
import Derived.Test.YtnkdjddnppajaaaQFnExactAddFractionsx2
import Derived.Test.YtnkdjddnppajaaaQFnExactAddFractionsx3
namespace Go.Proofs.Ytnkdjddnppajaaa.QFnExactAddFractions
open Go.RowKit Go.Proofs.YtnkdjddnppajaaaW.PrintWords Go.Proofs.YtnkdjddnppajaaaW.PrintLast Go.Proofs.YtnkdjddnppajaaaW.PrintMore
attribute [local go_sem] max2_int min2_int max_two min_two max_three min_three max_four min_four   -- for this text's walks alone
set_option linter.unusedVariables false
set_option linter.unusedSimpArgs false

/-! ### laws_FnExactAddFractions: function 9 -/
def laws_FnExactAddFractions.f (k : Nat) (a0_0 : Int) (a0_1 : Int) (a1_0 : Int) (a1_1 : Int) : Option (Bool) := (laws_toFraction.f a0_0 a0_1).bind fun bt157 => ((laws_toFraction.f a1_0 a1_1).bind fun bt159 => ((spec_AddFractions.f k bt157.1 bt157.2 bt159.1 bt159.2).bind fun bt161 => ((laws_toFraction.f a0_0 a0_1).bind fun bt165 => ((laws_toFraction.f a1_0 a1_1).bind fun bt167 => ((impl_AddFractions.f k bt165.1 bt165.2 bt167.1 bt167.2).bind fun bt169 => ((laws_eqFraction.f bt169.1 bt169.2.1 bt161.1 bt161.2.1).bind fun t173 => (if t173 = true then (if bt169.2.2 = bt161.2.2 then (some true) else (some false)) else (some false))))))))
theorem laws_FnExactAddFractions.mono : ∀ a0 a1 a2 a3 k, LeO (laws_FnExactAddFractions.f k a0 a1 a2 a3) (laws_FnExactAddFractions.f (k + 1) a0 a1 a2 a3) := by
 intro a0 a1 a2 a3 k
 unfold laws_FnExactAddFractions.f
 repeat' first
   | (with_reducible exact impl_AddFractions.mono _ _ _ _ _)
   | (with_reducible exact spec_AddFractions.mono _ _ _ _ _)
   | (with_reducible exact LeO.refl _)
   | (with_reducible exact LeO.none _)
   | (with_reducible refine LeO.ite ?_ ?_)
   | (with_reducible refine LeO.bind ?_ (fun _ => ?_))
   | exact impl_AddFractions.mono _ _ _ _ _
   | exact spec_AddFractions.mono _ _ _ _ _
   | exact LeO.none _
   | refine LeO.ite ?_ ?_
   | refine LeO.bind ?_ (fun _ => ?_)
def laws_FnExactAddFractions.T1 : Bool × List (List Nat × List Nat) := (true, [([], []), ([0], [0]), ([], []), ([2, 1], [2]), ([1, 3, 3], [1, 3]), ([4], [4]), ([5], [5]), ([5], [5]), ([], []), ([8, 6, 4, 0, 1, 2, 3, 4, 5, 6, 8], [6, 8]), ([7, 9, 0, 1, 2, 3, 4, 5, 6, 7, 8, 9], [7])])
def laws_FnExactAddFractions.B1 : List Nat := [0, 1, 0, 7, 15, 31, 63, 63, 0, 383, 1023]
theorem laws_FnExactAddFractions.tab1 : rtab .any (opsOf Try.f9 1) = laws_FnExactAddFractions.T1 := by kernel_rfl
theorem laws_FnExactAddFractions.bits1 : waitsOk laws_FnExactAddFractions.T1.2 laws_FnExactAddFractions.B1 = true := by kernel_rfl
def laws_FnExactAddFractions.T2 : Bool × List (List Nat × List Nat) := (true, [([], []), ([0], [0]), ([], []), ([2, 1], [2]), ([1, 3, 3], [1, 3]), ([4], [4]), ([5], [5]), ([5], [5]), ([], []), ([8, 6, 4, 0, 1, 2, 3, 4, 5, 6, 8], [6, 8]), ([7, 9, 0, 1, 2, 3, 4, 5, 6, 7, 8, 9], [7])])
def laws_FnExactAddFractions.B2 : List Nat := [0, 1, 0, 7, 15, 31, 63, 63, 0, 383, 1023]
theorem laws_FnExactAddFractions.tab2 : rtab .any (opsOf Try.f9 2) = laws_FnExactAddFractions.T2 := by kernel_rfl
theorem laws_FnExactAddFractions.bits2 : waitsOk laws_FnExactAddFractions.T2.2 laws_FnExactAddFractions.B2 = true := by kernel_rfl
set_option maxHeartbeats 8000000 in
set_option maxRecDepth 100000 in
theorem laws_FnExactAddFractions.calls (k : Nat) (a0_0 : Int) (a0_1 : Int) (a1_0 : Int) (a1_1 : Int) (r : Bool) (w : World) (h : laws_FnExactAddFractions.f k a0_0 a0_1 a1_0 a1_1 = some r) :
  Calls Try.prog 9 #[.agg #[.int .i64 a0_0, .int .i64 a0_1], .agg #[.int .i64 a1_0, .int .i64 a1_1]] w fun e w' => e = .returned (.bool r) ∧ Below w.heap.size w w' := by
 have hu25 := Try.underlying25
 have hu27 := Try.underlying27
 have HB := aK (Below.refl w.heap.size w)
 have H : ((laws_toFraction.f a0_0 a0_1).bind fun bt157 => ((laws_toFraction.f a1_0 a1_1).bind fun bt159 => ((spec_AddFractions.f k bt157.1 bt157.2 bt159.1 bt159.2).bind fun bt161 => ((laws_toFraction.f a0_0 a0_1).bind fun bt165 => ((laws_toFraction.f a1_0 a1_1).bind fun bt167 => ((impl_AddFractions.f k bt165.1 bt165.2 bt167.1 bt167.2).bind fun bt169 => ((laws_eqFraction.f bt169.1 bt169.2.1 bt161.1 bt161.2.1).bind fun t173 => (if t173 = true then (if bt169.2.2 = bt161.2.2 then (some true) else (some false)) else (some false))))))))) = some r := h
 clear h
 replace H := Option.bind_eq_some_iff.mp H
 obtain ⟨⟨t157, t158⟩, A30, H⟩ := H
 replace H : ((laws_toFraction.f a1_0 a1_1).bind fun bt159 => ((spec_AddFractions.f k t157 t158 bt159.1 bt159.2).bind fun bt161 => ((laws_toFraction.f a0_0 a0_1).bind fun bt165 => ((laws_toFraction.f a1_0 a1_1).bind fun bt167 => ((impl_AddFractions.f k bt165.1 bt165.2 bt167.1 bt167.2).bind fun bt169 => ((laws_eqFraction.f bt169.1 bt169.2.1 bt161.1 bt161.2.1).bind fun t173 => (if t173 = true then (if bt169.2.2 = bt161.2.2 then (some true) else (some false)) else (some false)))))))) = some r := H
 have A3 := aK A30
 clear A30
 replace H := Option.bind_eq_some_iff.mp H
 obtain ⟨⟨t159, t160⟩, A40, H⟩ := H
 replace H : ((spec_AddFractions.f k t157 t158 t159 t160).bind fun bt161 => ((laws_toFraction.f a0_0 a0_1).bind fun bt165 => ((laws_toFraction.f a1_0 a1_1).bind fun bt167 => ((impl_AddFractions.f k bt165.1 bt165.2 bt167.1 bt167.2).bind fun bt169 => ((laws_eqFraction.f bt169.1 bt169.2.1 bt161.1 bt161.2.1).bind fun t173 => (if t173 = true then (if bt169.2.2 = bt161.2.2 then (some true) else (some false)) else (some false))))))) = some r := H
 have A4 := aK A40
 clear A40
 replace H := Option.bind_eq_some_iff.mp H
 obtain ⟨⟨t161, t162, t163⟩, A50, H⟩ := H
 replace H : ((laws_toFraction.f a0_0 a0_1).bind fun bt165 => ((laws_toFraction.f a1_0 a1_1).bind fun bt167 => ((impl_AddFractions.f k bt165.1 bt165.2 bt167.1 bt167.2).bind fun bt169 => ((laws_eqFraction.f bt169.1 bt169.2.1 t161 t162).bind fun t173 => (if t173 = true then (if bt169.2.2 = t163 then (some true) else (some false)) else (some false)))))) = some r := H
 have A5 := aK A50
 clear A50
 replace H := Option.bind_eq_some_iff.mp H
 obtain ⟨⟨t165, t166⟩, A60, H⟩ := H
 replace H : ((laws_toFraction.f a1_0 a1_1).bind fun bt167 => ((impl_AddFractions.f k t165 t166 bt167.1 bt167.2).bind fun bt169 => ((laws_eqFraction.f bt169.1 bt169.2.1 t161 t162).bind fun t173 => (if t173 = true then (if bt169.2.2 = t163 then (some true) else (some false)) else (some false))))) = some r := H
 have A6 := aK A60
 clear A60
 replace H := Option.bind_eq_some_iff.mp H
 obtain ⟨⟨t167, t168⟩, A70, H⟩ := H
 replace H : ((impl_AddFractions.f k t165 t166 t167 t168).bind fun bt169 => ((laws_eqFraction.f bt169.1 bt169.2.1 t161 t162).bind fun t173 => (if t173 = true then (if bt169.2.2 = t163 then (some true) else (some false)) else (some false)))) = some r := H
 have A7 := aK A70
 clear A70
 replace H := Option.bind_eq_some_iff.mp H
 obtain ⟨⟨t169, t170, t171⟩, A80, H⟩ := H
 replace H : ((laws_eqFraction.f t169 t170 t161 t162).bind fun t173 => (if t173 = true then (if t171 = t163 then (some true) else (some false)) else (some false))) = some r := H
 have A8 := aK A80
 clear A80
 replace H := Option.bind_eq_some_iff.mp H
 obtain ⟨t173, A90, H⟩ := H
 replace H : (if t173 = true then (if t171 = t163 then (some true) else (some false)) else (some false)) = some r := H
 have A9 := aK A90
 clear A90
 by_cases c10 : t173 = true
 ·subst c10
  have H1 : (if t171 = t163 then (some true) else (some false)) = some r := by rw [if_pos rfl] at H; exact H
  clear H
  have H := H1
  clear H1
  by_cases c11 : t171 = t163
  ·rw [if_pos c11] at H
   have c11b0 : (t171 == t163) = true := beq_iff_eq.mpr c11
   have c11b1 : (t171 != t163) = false := bne_eq_false_iff_eq.mpr c11
   clear c11
   obtain rfl := Option.some.inj H
   go_enter Try.func9, Try.ntmps9
   try go_wp2_with (first | ((with_reducible refine gate_dst (N := 2) rfl ?_); refine box_event ?hg (N := 2) ?hd (cs := #[.int .i64 a0_0, .int .i64 a0_1]) (t := 25) ?hr ?_; (case hd => rfl); (case hg => rfl); (case hr => first | (go_simp; done) | (go_simp; rfl)); intro gb155 hg w12 hbox hb; have n0_ := aK (below_step (by repeat (first | (with_reducible first | exact HB.out | apply bL | apply bM | apply b1) | exact HB.out)) hb); have n1_ := aK (hbox); have n2_ := aK ((by rw [hg]; exact (below_size (by repeat (first | (with_reducible first | exact HB.out | apply bL | apply bM | apply b1) | exact HB.out))) : w.heap.size ≤ gb155)); have n3_ := aK ((by rw [hg]; exact (below_size (by repeat (first | (with_reducible first | exact HB.out | apply bL | apply bM | apply b1) | exact HB.out))) : w.heap.size ≤ gb155)); clear HB; have HB := n0_; have BK155 := n1_; have GW155 := n2_; have GE155 := n3_; clear n0_ n1_ n2_ n3_; clear hb hbox hg) | ((with_reducible refine gate_dst (N := 3) rfl ?_); refine box_event ?hg (N := 3) ?hd (cs := #[.int .i64 a1_0, .int .i64 a1_1]) (t := 25) ?hr ?_; (case hd => rfl); (case hg => rfl); (case hr => first | (go_simp; done) | (go_simp; rfl)); intro gb156 hg w13 hbox hb; have n0_ := aK (bB (by (with_reducible repeat (first | refine bN ?_ _ | refine bD ?_ | refine bA ?_ _)); exact BK155.out) hb); have n1_ := aK (below_step (by repeat (first | (with_reducible first | exact HB.out | apply bL | apply bM | apply b1 | refine bS ?_ GE155.out) | exact HB.out)) hb); have n2_ := aK (hbox); have n3_ := aK ((by rw [hg]; exact (below_size (by repeat (first | (with_reducible first | exact HB.out | apply bL | apply bM | apply b1 | refine bS ?_ GE155.out) | exact HB.out))) : w.heap.size ≤ gb156)); have n4_ := aK ((by rw [hg]; exact (below_size (by repeat (first | (with_reducible first | exact HB.out | apply bL | apply bM | apply b1 | refine bS ?_ GE155.out) | exact HB.out))) : w.heap.size ≤ gb156)); have n5_ := aK ((by rw [hg]; exact Nat.ne_of_lt (blk_lt (by (with_reducible repeat (first | refine bN ?_ _ | refine bD ?_ | refine bA ?_ _)); exact BK155.out)) : gb155 ≠ gb156)); have n6_ := aK ((by rw [hg]; exact Nat.ne_of_gt (blk_lt (by (with_reducible repeat (first | refine bN ?_ _ | refine bD ?_ | refine bA ?_ _)); exact BK155.out)) : gb156 ≠ gb155)); clear BK155; clear HB; have BK155 := n0_; have HB := n1_; have BK156 := n2_; have GW156 := n3_; have GE156 := n4_; have NB155_156 := n5_; have NB156_155 := n6_; clear n0_ n1_ n2_ n3_ n4_ n5_ n6_; clear hb hbox hg))
   have n0_ := aK (bD BK155.out)
   have n1_ := aK (bD BK156.out)
   have n2_ := aK (b1 HB.out)
   clear BK155
   clear BK156
   clear HB
   have BK155 := n0_
   have BK156 := n1_
   have HB := n2_
   clear n0_ n1_ n2_
   refine start_ (n := 11) (S := fun w' => w'.cell? ⟨gb155, 0, none⟩ = some (.int .i64 a0_0) ∧ w'.cell? ⟨gb155, 1, none⟩ = some (.int .i64 a0_1) ∧ w'.cell? ⟨gb156, 0, none⟩ = some (.int .i64 a1_0) ∧ w'.cell? ⟨gb156, 1, none⟩ = some (.int .i64 a1_1)) (ds := []) #[false, false, false, false, false, false, false, false, false, false, false] (by kernel_rfl) rfl rfl ⟨(bC BK155.out 0).trans rfl, (bC BK155.out 1).trans rfl, (bC BK156.out 0).trans rfl, (bC BK156.out 1).trans rfl⟩ (fun hHeld => ?_); refine with_tabW laws_FnExactAddFractions.tab1 laws_FnExactAddFractions.bits1 (fun HT_ HW_ => ?_)
   generalize w13.drew = w14 at BK155 BK156 HB hHeld ⊢
   refine take_ (i := 0) (N := some 10) (v := ?_) (a' := ?_) #[true, false, false, false, false, false, false, false, false, false, false] rfl rfl (take_ofW HT_.out HW_.out (by kernel_rfl)) (fun _ _ _ h => h) (Or.inl ⟨by rfl, ?_⟩) hHeld ?_ ?_
   rotate_left
   ·rintro w' ⟨s0, s1, s2, s3⟩
    go_simp
    with_reducible rfl
   rotate_left
   ·simp only [Act.put, lA, l0', lS, i64_w, i32_w]
    rfl
   refine take_ (i := 2) (N := some 12) (v := ?_) (a' := ?_) #[true, false, true, false, false, false, false, false, false, false, false] rfl rfl (take_ofW HT_.out HW_.out (by kernel_rfl)) (fun _ _ _ h => h) (Or.inl ⟨by rfl, ?_⟩) hHeld ?_ ?_
   rotate_left
   ·rintro w' ⟨s0, s1, s2, s3⟩
    go_simp
    with_reducible rfl
   rotate_left
   ·simp only [Act.put, lA, l0', lS, i64_w, i32_w]
    rfl
   refine join_ (σ := Nat) 2 #[true, true, true, true, true, true, true, true, true, false, false] (fun s_ => [(11, .agg #[.int .i64 t157, .int .i64 t158]), (13, .agg #[.int .i64 t159, .int .i64 t160]), (14, .tuple #[.agg #[.int .i64 t161, .int .i64 t162], .int .i64 t163]), (5, .pointer (some ⟨s_, 0, none⟩)), (9, .tuple #[.agg #[.int .i64 t161, .int .i64 t162], .int .i64 t163]), (15, .agg #[.int .i64 t161, .int .i64 t162]), (16, .int .i64 t163)]) (fun s_ w' => (w'.cell? ⟨gb155, 0, none⟩ = some (.int .i64 a0_0) ∧ w'.cell? ⟨gb155, 1, none⟩ = some (.int .i64 a0_1) ∧ w'.cell? ⟨gb156, 0, none⟩ = some (.int .i64 a1_0) ∧ w'.cell? ⟨gb156, 1, none⟩ = some (.int .i64 a1_1)) ∧ (w'.heap[gb155]? = some (.cells #[.int .i64 a0_0, .int .i64 a0_1] 25 (0, 0))) ∧ (w'.heap[gb156]? = some (.cells #[.int .i64 a1_0, .int .i64 a1_1] 25 (0, 0))) ∧ (w'.heap[s_]? = some (.cells #[.int .i64 0, .int .i64 0] 27 (0, 0))) ∧ (w.heap.size ≤ s_) ∧ (w.heap.size ≤ s_) ∧ (gb155 ≠ s_) ∧ (s_ ≠ gb155) ∧ (gb156 ≠ s_) ∧ (s_ ≠ gb156) ∧ (Below w.heap.size w w')) ?_ ?_
   rotate_left
   ·intro hCont
    refine two_ (i := 1) (j := 8) (Ni := some 11) (Nj := some 5) #[true, true, true, false, false, false, false, false, false, false, false] #[true, false, true, false, false, false, false, false, true, false, false] rfl rfl rfl rfl (two_of HT_.out (by kernel_rfl)) (by decide) (by decide) (fun K hK => ?_) (fun K hK => ?_)
    ·skip
     refine goes_ Try.func15 (by kernel_rfl) rfl #[.agg #[.int .i64 a0_0, .int .i64 a0_1]] (by rfl) rfl rfl (by (try simp only [mA, mC, mN]); first | done | rfl) ?_
     with_reducible refine (laws_toFraction.calls a0_0 a0_1 t157 t158 _ A3.out).mono ?_
     rintro e w15 ⟨rfl, hb⟩
     refine ⟨_, rfl, ?_⟩
     have n0_ := aK (bB (by (with_reducible repeat (first | refine bN ?_ _ | refine bD ?_ | refine bA ?_ _)); exact BK155.out) hb)
     have n1_ := aK (bB (by (with_reducible repeat (first | refine bN ?_ _ | refine bD ?_ | refine bA ?_ _)); exact BK156.out) hb)
     have n2_ := aK (below_step (by repeat (first | (with_reducible first | exact HB.out | apply bL | apply bM | apply b1 | refine bS ?_ GE155.out | refine bS ?_ GE156.out) | exact HB.out)) hb)
     clear BK155
     clear BK156
     clear HB
     have BK155 := n0_
     have BK156 := n1_
     have HB := n2_
     clear n0_ n1_ n2_
     (try clear hb)
     (try clear hb2)
     (try clear hk)
     (try clear hi)
     refine hK.out _ _ ⟨(bC BK155.out 0).trans rfl, (bC BK155.out 1).trans rfl, (bC BK156.out 0).trans rfl, (bC BK156.out 1).trans rfl⟩ (fun hHeld => ?_)
     clear hK K
     refine norm_ (a' := ?_) ?_ ?_
     rotate_left
     ·show Act.put _ (some 11) _ = _
      simp only [Act.put, lA, l0', lS, i64_w, i32_w]
      rfl
     refine two_ (i := 3) (j := 8) (Ni := some 13) (Nj := some 5) #[true, true, true, true, false, false, false, false, false, false, false] #[true, true, true, false, false, false, false, false, true, false, false] rfl rfl rfl rfl (two_of HT_.out (by kernel_rfl)) (by decide) (by decide) (fun K hK => ?_) (fun K hK => ?_)
     ·skip
      refine goes_ Try.func15 (by kernel_rfl) rfl #[.agg #[.int .i64 a1_0, .int .i64 a1_1]] (by rfl) rfl rfl (by (try simp only [mA, mC, mN]); first | done | rfl) ?_
      with_reducible refine (laws_toFraction.calls a1_0 a1_1 t159 t160 _ A4.out).mono ?_
      rintro e w16 ⟨rfl, hb⟩
      refine ⟨_, rfl, ?_⟩
      have n0_ := aK (bB (by (with_reducible repeat (first | refine bN ?_ _ | refine bD ?_ | refine bA ?_ _)); exact BK155.out) hb)
      have n1_ := aK (bB (by (with_reducible repeat (first | refine bN ?_ _ | refine bD ?_ | refine bA ?_ _)); exact BK156.out) hb)
      have n2_ := aK (below_step (by repeat (first | (with_reducible first | exact HB.out | apply bL | apply bM | apply b1 | refine bS ?_ GE155.out | refine bS ?_ GE156.out) | exact HB.out)) hb)
      clear BK155
      clear BK156
      clear HB
      have BK155 := n0_
      have BK156 := n1_
      have HB := n2_
      clear n0_ n1_ n2_
      (try clear hb)
      (try clear hb2)
      (try clear hk)
      (try clear hi)
      refine hK.out _ _ ⟨(bC BK155.out 0).trans rfl, (bC BK155.out 1).trans rfl, (bC BK156.out 0).trans rfl, (bC BK156.out 1).trans rfl⟩ (fun hHeld => ?_)
      clear hK K
      refine norm_ (a' := ?_) ?_ ?_
      rotate_left
      ·show Act.put _ (some 13) _ = _
       simp only [Act.put, lA, l0', lS, i64_w, i32_w]
       rfl
      refine two_ (i := 4) (j := 8) (Ni := some 14) (Nj := some 5) #[true, true, true, true, true, false, false, false, false, false, false] #[true, true, true, true, false, false, false, false, true, false, false] rfl rfl rfl rfl (two_of HT_.out (by kernel_rfl)) (by decide) (by decide) (fun K hK => ?_) (fun K hK => ?_)
      ·skip
       refine goes_ Try.func26 (by kernel_rfl) rfl #[.agg #[.int .i64 t157, .int .i64 t158], .agg #[.int .i64 t159, .int .i64 t160]] (by rfl) rfl rfl (by (try simp only [mA, mC, mN]); first | done | rfl) ?_
       with_reducible refine (spec_AddFractions.calls k t157 t158 t159 t160 t161 t162 t163 _ A5.out).mono ?_
       rintro e w17 ⟨rfl, hb⟩
       refine ⟨_, rfl, ?_⟩
       have n0_ := aK (bB (by (with_reducible repeat (first | refine bN ?_ _ | refine bD ?_ | refine bA ?_ _)); exact BK155.out) hb)
       have n1_ := aK (bB (by (with_reducible repeat (first | refine bN ?_ _ | refine bD ?_ | refine bA ?_ _)); exact BK156.out) hb)
       have n2_ := aK (below_step (by repeat (first | (with_reducible first | exact HB.out | apply bL | apply bM | apply b1 | refine bS ?_ GE155.out | refine bS ?_ GE156.out) | exact HB.out)) hb)
       clear BK155
       clear BK156
       clear HB
       have BK155 := n0_
       have BK156 := n1_
       have HB := n2_
       clear n0_ n1_ n2_
       (try clear hb)
       (try clear hb2)
       (try clear hk)
       (try clear hi)
       refine hK.out _ _ ⟨(bC BK155.out 0).trans rfl, (bC BK155.out 1).trans rfl, (bC BK156.out 0).trans rfl, (bC BK156.out 1).trans rfl⟩ (fun hHeld => ?_)
       clear hK K
       refine norm_ (a' := ?_) ?_ ?_
       rotate_left
       ·show Act.put _ (some 14) _ = _
        simp only [Act.put, lA, l0', lS, i64_w, i32_w]
        rfl
       refine pure_ (i := 5) (N := some 9) (v := ?_) (a' := ?_) #[true, true, true, true, true, true, false, false, false, false, false] rfl rfl (any_of HT_.out (by kernel_rfl)) (fun _ _ _ h => h) (Or.inl ⟨by rfl, ?_⟩) ?_ ?_
       rotate_left
       ·intro w'
        go_simp
        with_reducible rfl
       rotate_left
       ·simp only [Act.put, lA, l0', lS, i64_w, i32_w]
        rfl
       refine pure_ (i := 6) (N := some 15) (v := ?_) (a' := ?_) #[true, true, true, true, true, true, true, false, false, false, false] rfl rfl (any_of HT_.out (by kernel_rfl)) (fun _ _ _ h => h) (Or.inl ⟨by rfl, ?_⟩) ?_ ?_
       rotate_left
       ·intro w'
        go_simp
        with_reducible rfl
       rotate_left
       ·simp only [Act.put, lA, l0', lS, i64_w, i32_w]
        rfl
       refine pure_ (i := 7) (N := some 16) (v := ?_) (a' := ?_) #[true, true, true, true, true, true, true, true, false, false, false] rfl rfl (any_of HT_.out (by kernel_rfl)) (fun _ _ _ h => h) (Or.inl ⟨by rfl, ?_⟩) ?_ ?_
       rotate_left
       ·intro w'
        go_simp
        with_reducible rfl
       rotate_left
       ·simp only [Act.put, lA, l0', lS, i64_w, i32_w]
        rfl
       refine one_ (i := 8) (N := some 5) #[true, true, true, true, true, true, true, true, true, false, false] rfl rfl (one_of HT_.out (by kernel_rfl)) (by decide) (fun K hK => ?_)
       refine box_step ?hg (N := 5) ?hd (cs := #[.int .i64 0, .int .i64 0]) (t := 27) ?hr ?_; (case hd => rfl); (case hg => rfl); (case hr => first | (go_simp; done) | (go_simp; rfl))
       intro gb164 hg w18 hbox hb
       have n0_ := aK (bB (by (with_reducible repeat (first | refine bN ?_ _ | refine bD ?_ | refine bA ?_ _)); exact BK155.out) hb)
       have n1_ := aK (bB (by (with_reducible repeat (first | refine bN ?_ _ | refine bD ?_ | refine bA ?_ _)); exact BK156.out) hb)
       have n2_ := aK (below_step (by repeat (first | (with_reducible first | exact HB.out | apply bL | apply bM | apply b1 | refine bS ?_ GE155.out | refine bS ?_ GE156.out) | exact HB.out)) hb)
       have n3_ := aK (hbox)
       have n4_ := aK ((by rw [hg]; exact (below_size (by repeat (first | (with_reducible first | exact HB.out | apply bL | apply bM | apply b1 | refine bS ?_ GE155.out | refine bS ?_ GE156.out) | exact HB.out))) : w.heap.size ≤ gb164))
       have n5_ := aK ((by rw [hg]; exact (below_size (by repeat (first | (with_reducible first | exact HB.out | apply bL | apply bM | apply b1 | refine bS ?_ GE155.out | refine bS ?_ GE156.out) | exact HB.out))) : w.heap.size ≤ gb164))
       have n6_ := aK ((by rw [hg]; exact Nat.ne_of_lt (blk_lt (by (with_reducible repeat (first | refine bN ?_ _ | refine bD ?_ | refine bA ?_ _)); exact BK155.out)) : gb155 ≠ gb164))
       have n7_ := aK ((by rw [hg]; exact Nat.ne_of_gt (blk_lt (by (with_reducible repeat (first | refine bN ?_ _ | refine bD ?_ | refine bA ?_ _)); exact BK155.out)) : gb164 ≠ gb155))
       have n8_ := aK ((by rw [hg]; exact Nat.ne_of_lt (blk_lt (by (with_reducible repeat (first | refine bN ?_ _ | refine bD ?_ | refine bA ?_ _)); exact BK156.out)) : gb156 ≠ gb164))
       have n9_ := aK ((by rw [hg]; exact Nat.ne_of_gt (blk_lt (by (with_reducible repeat (first | refine bN ?_ _ | refine bD ?_ | refine bA ?_ _)); exact BK156.out)) : gb164 ≠ gb156))
       clear BK155
       clear BK156
       clear HB
       have BK155 := n0_
       have BK156 := n1_
       have HB := n2_
       have BK164 := n3_
       have GW164 := n4_
       have GE164 := n5_
       have NB155_164 := n6_
       have NB164_155 := n7_
       have NB156_164 := n8_
       have NB164_156 := n9_
       clear n0_ n1_ n2_ n3_ n4_ n5_ n6_ n7_ n8_ n9_
       clear hb hbox hg
       refine hK.out _ _ ⟨(bC BK155.out 0).trans rfl, (bC BK155.out 1).trans rfl, (bC BK156.out 0).trans rfl, (bC BK156.out 1).trans rfl⟩ (fun hHeld => ?_)
       clear hK K
       refine norm_ (a' := ?_) ?_ ?_
       rotate_left
       ·show Act.put _ (some 5) _ = _
        simp only [Act.put, lA, l0', lS, i64_w, i32_w]
        rfl
       exact norm_ (by simp only [putAll, Act.put, lA, l0', lS]) (hCont (gb164) _ ⟨hHeld, (by (with_reducible repeat (first | refine bN ?_ _ | refine bD ?_ | refine bA ?_ _)); exact BK155.out), (by (with_reducible repeat (first | refine bN ?_ _ | refine bD ?_ | refine bA ?_ _)); exact BK156.out), (by (with_reducible repeat (first | refine bN ?_ _ | refine bD ?_ | refine bA ?_ _)); exact BK164.out), GW164.out, GE164.out, NB155_164.out, NB164_155.out, NB156_164.out, NB164_156.out, (by repeat (first | (with_reducible first | exact HB.out | apply bL | apply bM | apply b1 | refine bS ?_ GE155.out | refine bS ?_ GE156.out | refine bS ?_ GE164.out) | exact HB.out))⟩)
      ·skip
       refine box_step ?hg (N := 5) ?hd (cs := #[.int .i64 0, .int .i64 0]) (t := 27) ?hr ?_; (case hd => rfl); (case hg => rfl); (case hr => first | (go_simp; done) | (go_simp; rfl))
       intro gb164 hg w17 hbox hb
       have n0_ := aK (bB (by (with_reducible repeat (first | refine bN ?_ _ | refine bD ?_ | refine bA ?_ _)); exact BK155.out) hb)
       have n1_ := aK (bB (by (with_reducible repeat (first | refine bN ?_ _ | refine bD ?_ | refine bA ?_ _)); exact BK156.out) hb)
       have n2_ := aK (below_step (by repeat (first | (with_reducible first | exact HB.out | apply bL | apply bM | apply b1 | refine bS ?_ GE155.out | refine bS ?_ GE156.out) | exact HB.out)) hb)
       have n3_ := aK (hbox)
       have n4_ := aK ((by rw [hg]; exact (below_size (by repeat (first | (with_reducible first | exact HB.out | apply bL | apply bM | apply b1 | refine bS ?_ GE155.out | refine bS ?_ GE156.out) | exact HB.out))) : w.heap.size ≤ gb164))
       have n5_ := aK ((by rw [hg]; exact (below_size (by repeat (first | (with_reducible first | exact HB.out | apply bL | apply bM | apply b1 | refine bS ?_ GE155.out | refine bS ?_ GE156.out) | exact HB.out))) : w.heap.size ≤ gb164))
       have n6_ := aK ((by rw [hg]; exact Nat.ne_of_lt (blk_lt (by (with_reducible repeat (first | refine bN ?_ _ | refine bD ?_ | refine bA ?_ _)); exact BK155.out)) : gb155 ≠ gb164))
       have n7_ := aK ((by rw [hg]; exact Nat.ne_of_gt (blk_lt (by (with_reducible repeat (first | refine bN ?_ _ | refine bD ?_ | refine bA ?_ _)); exact BK155.out)) : gb164 ≠ gb155))
       have n8_ := aK ((by rw [hg]; exact Nat.ne_of_lt (blk_lt (by (with_reducible repeat (first | refine bN ?_ _ | refine bD ?_ | refine bA ?_ _)); exact BK156.out)) : gb156 ≠ gb164))
       have n9_ := aK ((by rw [hg]; exact Nat.ne_of_gt (blk_lt (by (with_reducible repeat (first | refine bN ?_ _ | refine bD ?_ | refine bA ?_ _)); exact BK156.out)) : gb164 ≠ gb156))
       clear BK155
       clear BK156
       clear HB
       have BK155 := n0_
       have BK156 := n1_
       have HB := n2_
       have BK164 := n3_
       have GW164 := n4_
       have GE164 := n5_
       have NB155_164 := n6_
       have NB164_155 := n7_
       have NB156_164 := n8_
       have NB164_156 := n9_
       clear n0_ n1_ n2_ n3_ n4_ n5_ n6_ n7_ n8_ n9_
       clear hb hbox hg
       refine hK.out _ _ ⟨(bC BK155.out 0).trans rfl, (bC BK155.out 1).trans rfl, (bC BK156.out 0).trans rfl, (bC BK156.out 1).trans rfl⟩ (fun hHeld => ?_)
       clear hK K
       refine norm_ (a' := ?_) ?_ ?_
       rotate_left
       ·show Act.put _ (some 5) _ = _
        simp only [Act.put, lA, l0', lS, i64_w, i32_w]
        rfl
       refine one_ (i := 4) (N := some 14) #[true, true, true, true, true, false, false, false, true, false, false] rfl rfl (one_of HT_.out (by kernel_rfl)) (by decide) (fun K hK => ?_)
       refine goes_ Try.func26 (by kernel_rfl) rfl #[.agg #[.int .i64 t157, .int .i64 t158], .agg #[.int .i64 t159, .int .i64 t160]] (by rfl) rfl rfl (by (try simp only [mA, mC, mN]); first | done | rfl) ?_
       with_reducible refine (spec_AddFractions.calls k t157 t158 t159 t160 t161 t162 t163 _ A5.out).mono ?_
       rintro e w18 ⟨rfl, hb⟩
       refine ⟨_, rfl, ?_⟩
       have n0_ := aK (bB (by (with_reducible repeat (first | refine bN ?_ _ | refine bD ?_ | refine bA ?_ _)); exact BK155.out) hb)
       have n1_ := aK (bB (by (with_reducible repeat (first | refine bN ?_ _ | refine bD ?_ | refine bA ?_ _)); exact BK156.out) hb)
       have n2_ := aK (bB (by (with_reducible repeat (first | refine bN ?_ _ | refine bD ?_ | refine bA ?_ _)); exact BK164.out) hb)
       have n3_ := aK (below_step (by repeat (first | (with_reducible first | exact HB.out | apply bL | apply bM | apply b1 | refine bS ?_ GE155.out | refine bS ?_ GE156.out | refine bS ?_ GE164.out) | exact HB.out)) hb)
       clear BK155
       clear BK156
       clear BK164
       clear HB
       have BK155 := n0_
       have BK156 := n1_
       have BK164 := n2_
       have HB := n3_
       clear n0_ n1_ n2_ n3_
       (try clear hb)
       (try clear hb2)
       (try clear hk)
       (try clear hi)
       refine hK.out _ _ ⟨(bC BK155.out 0).trans rfl, (bC BK155.out 1).trans rfl, (bC BK156.out 0).trans rfl, (bC BK156.out 1).trans rfl⟩ (fun hHeld => ?_)
       clear hK K
       refine norm_ (a' := ?_) ?_ ?_
       rotate_left
       ·show Act.put _ (some 14) _ = _
        simp only [Act.put, lA, l0', lS, i64_w, i32_w]
        rfl
       refine pure_ (i := 5) (N := some 9) (v := ?_) (a' := ?_) #[true, true, true, true, true, true, false, false, true, false, false] rfl rfl (any_of HT_.out (by kernel_rfl)) (fun _ _ _ h => h) (Or.inl ⟨by rfl, ?_⟩) ?_ ?_
       rotate_left
       ·intro w'
        go_simp
        with_reducible rfl
       rotate_left
       ·simp only [Act.put, lA, l0', lS, i64_w, i32_w]
        rfl
       refine pure_ (i := 6) (N := some 15) (v := ?_) (a' := ?_) #[true, true, true, true, true, true, true, false, true, false, false] rfl rfl (any_of HT_.out (by kernel_rfl)) (fun _ _ _ h => h) (Or.inl ⟨by rfl, ?_⟩) ?_ ?_
       rotate_left
       ·intro w'
        go_simp
        with_reducible rfl
       rotate_left
       ·simp only [Act.put, lA, l0', lS, i64_w, i32_w]
        rfl
       refine pure_ (i := 7) (N := some 16) (v := ?_) (a' := ?_) #[true, true, true, true, true, true, true, true, true, false, false] rfl rfl (any_of HT_.out (by kernel_rfl)) (fun _ _ _ h => h) (Or.inl ⟨by rfl, ?_⟩) ?_ ?_
       rotate_left
       ·intro w'
        go_simp
        with_reducible rfl
       rotate_left
       ·simp only [Act.put, lA, l0', lS, i64_w, i32_w]
        rfl
       exact norm_ (by simp only [putAll, Act.put, lA, l0', lS]) (hCont (gb164) _ ⟨hHeld, (by (with_reducible repeat (first | refine bN ?_ _ | refine bD ?_ | refine bA ?_ _)); exact BK155.out), (by (with_reducible repeat (first | refine bN ?_ _ | refine bD ?_ | refine bA ?_ _)); exact BK156.out), (by (with_reducible repeat (first | refine bN ?_ _ | refine bD ?_ | refine bA ?_ _)); exact BK164.out), GW164.out, GE164.out, NB155_164.out, NB164_155.out, NB156_164.out, NB164_156.out, (by repeat (first | (with_reducible first | exact HB.out | apply bL | apply bM | apply b1 | refine bS ?_ GE155.out | refine bS ?_ GE156.out | refine bS ?_ GE164.out) | exact HB.out))⟩)
     ·skip
      refine box_step ?hg (N := 5) ?hd (cs := #[.int .i64 0, .int .i64 0]) (t := 27) ?hr ?_; (case hd => rfl); (case hg => rfl); (case hr => first | (go_simp; done) | (go_simp; rfl))
      intro gb164 hg w16 hbox hb
      have n0_ := aK (bB (by (with_reducible repeat (first | refine bN ?_ _ | refine bD ?_ | refine bA ?_ _)); exact BK155.out) hb)
      have n1_ := aK (bB (by (with_reducible repeat (first | refine bN ?_ _ | refine bD ?_ | refine bA ?_ _)); exact BK156.out) hb)
      have n2_ := aK (below_step (by repeat (first | (with_reducible first | exact HB.out | apply bL | apply bM | apply b1 | refine bS ?_ GE155.out | refine bS ?_ GE156.out) | exact HB.out)) hb)
      have n3_ := aK (hbox)
      have n4_ := aK ((by rw [hg]; exact (below_size (by repeat (first | (with_reducible first | exact HB.out | apply bL | apply bM | apply b1 | refine bS ?_ GE155.out | refine bS ?_ GE156.out) | exact HB.out))) : w.heap.size ≤ gb164))
      have n5_ := aK ((by rw [hg]; exact (below_size (by repeat (first | (with_reducible first | exact HB.out | apply bL | apply bM | apply b1 | refine bS ?_ GE155.out | refine bS ?_ GE156.out) | exact HB.out))) : w.heap.size ≤ gb164))
      have n6_ := aK ((by rw [hg]; exact Nat.ne_of_lt (blk_lt (by (with_reducible repeat (first | refine bN ?_ _ | refine bD ?_ | refine bA ?_ _)); exact BK155.out)) : gb155 ≠ gb164))
      have n7_ := aK ((by rw [hg]; exact Nat.ne_of_gt (blk_lt (by (with_reducible repeat (first | refine bN ?_ _ | refine bD ?_ | refine bA ?_ _)); exact BK155.out)) : gb164 ≠ gb155))
      have n8_ := aK ((by rw [hg]; exact Nat.ne_of_lt (blk_lt (by (with_reducible repeat (first | refine bN ?_ _ | refine bD ?_ | refine bA ?_ _)); exact BK156.out)) : gb156 ≠ gb164))
      have n9_ := aK ((by rw [hg]; exact Nat.ne_of_gt (blk_lt (by (with_reducible repeat (first | refine bN ?_ _ | refine bD ?_ | refine bA ?_ _)); exact BK156.out)) : gb164 ≠ gb156))
      clear BK155
      clear BK156
      clear HB
      have BK155 := n0_
      have BK156 := n1_
      have HB := n2_
      have BK164 := n3_
      have GW164 := n4_
      have GE164 := n5_
      have NB155_164 := n6_
      have NB164_155 := n7_
      have NB156_164 := n8_
      have NB164_156 := n9_
      clear n0_ n1_ n2_ n3_ n4_ n5_ n6_ n7_ n8_ n9_
      clear hb hbox hg
      refine hK.out _ _ ⟨(bC BK155.out 0).trans rfl, (bC BK155.out 1).trans rfl, (bC BK156.out 0).trans rfl, (bC BK156.out 1).trans rfl⟩ (fun hHeld => ?_)
      clear hK K
      refine norm_ (a' := ?_) ?_ ?_
      rotate_left
      ·show Act.put _ (some 5) _ = _
       simp only [Act.put, lA, l0', lS, i64_w, i32_w]
       rfl
      refine one_ (i := 3) (N := some 13) #[true, true, true, true, false, false, false, false, true, false, false] rfl rfl (one_of HT_.out (by kernel_rfl)) (by decide) (fun K hK => ?_)
      refine goes_ Try.func15 (by kernel_rfl) rfl #[.agg #[.int .i64 a1_0, .int .i64 a1_1]] (by rfl) rfl rfl (by (try simp only [mA, mC, mN]); first | done | rfl) ?_
      with_reducible refine (laws_toFraction.calls a1_0 a1_1 t159 t160 _ A4.out).mono ?_
      rintro e w17 ⟨rfl, hb⟩
      refine ⟨_, rfl, ?_⟩
      have n0_ := aK (bB (by (with_reducible repeat (first | refine bN ?_ _ | refine bD ?_ | refine bA ?_ _)); exact BK155.out) hb)
      have n1_ := aK (bB (by (with_reducible repeat (first | refine bN ?_ _ | refine bD ?_ | refine bA ?_ _)); exact BK156.out) hb)
      have n2_ := aK (bB (by (with_reducible repeat (first | refine bN ?_ _ | refine bD ?_ | refine bA ?_ _)); exact BK164.out) hb)
      have n3_ := aK (below_step (by repeat (first | (with_reducible first | exact HB.out | apply bL | apply bM | apply b1 | refine bS ?_ GE155.out | refine bS ?_ GE156.out | refine bS ?_ GE164.out) | exact HB.out)) hb)
      clear BK155
      clear BK156
      clear BK164
      clear HB
      have BK155 := n0_
      have BK156 := n1_
      have BK164 := n2_
      have HB := n3_
      clear n0_ n1_ n2_ n3_
      (try clear hb)
      (try clear hb2)
      (try clear hk)
      (try clear hi)
      refine hK.out _ _ ⟨(bC BK155.out 0).trans rfl, (bC BK155.out 1).trans rfl, (bC BK156.out 0).trans rfl, (bC BK156.out 1).trans rfl⟩ (fun hHeld => ?_)
      clear hK K
      refine norm_ (a' := ?_) ?_ ?_
      rotate_left
      ·show Act.put _ (some 13) _ = _
       simp only [Act.put, lA, l0', lS, i64_w, i32_w]
       rfl
      refine one_ (i := 4) (N := some 14) #[true, true, true, true, true, false, false, false, true, false, false] rfl rfl (one_of HT_.out (by kernel_rfl)) (by decide) (fun K hK => ?_)
      refine goes_ Try.func26 (by kernel_rfl) rfl #[.agg #[.int .i64 t157, .int .i64 t158], .agg #[.int .i64 t159, .int .i64 t160]] (by rfl) rfl rfl (by (try simp only [mA, mC, mN]); first | done | rfl) ?_
      with_reducible refine (spec_AddFractions.calls k t157 t158 t159 t160 t161 t162 t163 _ A5.out).mono ?_
      rintro e w18 ⟨rfl, hb⟩
      refine ⟨_, rfl, ?_⟩
      have n0_ := aK (bB (by (with_reducible repeat (first | refine bN ?_ _ | refine bD ?_ | refine bA ?_ _)); exact BK155.out) hb)
      have n1_ := aK (bB (by (with_reducible repeat (first | refine bN ?_ _ | refine bD ?_ | refine bA ?_ _)); exact BK156.out) hb)
      have n2_ := aK (bB (by (with_reducible repeat (first | refine bN ?_ _ | refine bD ?_ | refine bA ?_ _)); exact BK164.out) hb)
      have n3_ := aK (below_step (by repeat (first | (with_reducible first | exact HB.out | apply bL | apply bM | apply b1 | refine bS ?_ GE155.out | refine bS ?_ GE156.out | refine bS ?_ GE164.out) | exact HB.out)) hb)
      clear BK155
      clear BK156
      clear BK164
      clear HB
      have BK155 := n0_
      have BK156 := n1_
      have BK164 := n2_
      have HB := n3_
      clear n0_ n1_ n2_ n3_
      (try clear hb)
      (try clear hb2)
      (try clear hk)
      (try clear hi)
      refine hK.out _ _ ⟨(bC BK155.out 0).trans rfl, (bC BK155.out 1).trans rfl, (bC BK156.out 0).trans rfl, (bC BK156.out 1).trans rfl⟩ (fun hHeld => ?_)
      clear hK K
      refine norm_ (a' := ?_) ?_ ?_
      rotate_left
      ·show Act.put _ (some 14) _ = _
       simp only [Act.put, lA, l0', lS, i64_w, i32_w]
       rfl
      refine pure_ (i := 5) (N := some 9) (v := ?_) (a' := ?_) #[true, true, true, true, true, true, false, false, true, false, false] rfl rfl (any_of HT_.out (by kernel_rfl)) (fun _ _ _ h => h) (Or.inl ⟨by rfl, ?_⟩) ?_ ?_
      rotate_left
      ·intro w'
       go_simp
       with_reducible rfl
      rotate_left
      ·simp only [Act.put, lA, l0', lS, i64_w, i32_w]
       rfl
      refine pure_ (i := 6) (N := some 15) (v := ?_) (a' := ?_) #[true, true, true, true, true, true, true, false, true, false, false] rfl rfl (any_of HT_.out (by kernel_rfl)) (fun _ _ _ h => h) (Or.inl ⟨by rfl, ?_⟩) ?_ ?_
      rotate_left
      ·intro w'
       go_simp
       with_reducible rfl
      rotate_left
      ·simp only [Act.put, lA, l0', lS, i64_w, i32_w]
       rfl
      refine pure_ (i := 7) (N := some 16) (v := ?_) (a' := ?_) #[true, true, true, true, true, true, true, true, true, false, false] rfl rfl (any_of HT_.out (by kernel_rfl)) (fun _ _ _ h => h) (Or.inl ⟨by rfl, ?_⟩) ?_ ?_
      rotate_left
      ·intro w'
       go_simp
       with_reducible rfl
      rotate_left
      ·simp only [Act.put, lA, l0', lS, i64_w, i32_w]
       rfl
      exact norm_ (by simp only [putAll, Act.put, lA, l0', lS]) (hCont (gb164) _ ⟨hHeld, (by (with_reducible repeat (first | refine bN ?_ _ | refine bD ?_ | refine bA ?_ _)); exact BK155.out), (by (with_reducible repeat (first | refine bN ?_ _ | refine bD ?_ | refine bA ?_ _)); exact BK156.out), (by (with_reducible repeat (first | refine bN ?_ _ | refine bD ?_ | refine bA ?_ _)); exact BK164.out), GW164.out, GE164.out, NB155_164.out, NB164_155.out, NB156_164.out, NB164_156.out, (by repeat (first | (with_reducible first | exact HB.out | apply bL | apply bM | apply b1 | refine bS ?_ GE155.out | refine bS ?_ GE156.out | refine bS ?_ GE164.out) | exact HB.out))⟩)
    ·skip
     refine box_step ?hg (N := 5) ?hd (cs := #[.int .i64 0, .int .i64 0]) (t := 27) ?hr ?_; (case hd => rfl); (case hg => rfl); (case hr => first | (go_simp; done) | (go_simp; rfl))
     intro gb164 hg w15 hbox hb
     have n0_ := aK (bB (by (with_reducible repeat (first | refine bN ?_ _ | refine bD ?_ | refine bA ?_ _)); exact BK155.out) hb)
     have n1_ := aK (bB (by (with_reducible repeat (first | refine bN ?_ _ | refine bD ?_ | refine bA ?_ _)); exact BK156.out) hb)
     have n2_ := aK (below_step (by repeat (first | (with_reducible first | exact HB.out | apply bL | apply bM | apply b1 | refine bS ?_ GE155.out | refine bS ?_ GE156.out) | exact HB.out)) hb)
     have n3_ := aK (hbox)
     have n4_ := aK ((by rw [hg]; exact (below_size (by repeat (first | (with_reducible first | exact HB.out | apply bL | apply bM | apply b1 | refine bS ?_ GE155.out | refine bS ?_ GE156.out) | exact HB.out))) : w.heap.size ≤ gb164))
     have n5_ := aK ((by rw [hg]; exact (below_size (by repeat (first | (with_reducible first | exact HB.out | apply bL | apply bM | apply b1 | refine bS ?_ GE155.out | refine bS ?_ GE156.out) | exact HB.out))) : w.heap.size ≤ gb164))
     have n6_ := aK ((by rw [hg]; exact Nat.ne_of_lt (blk_lt (by (with_reducible repeat (first | refine bN ?_ _ | refine bD ?_ | refine bA ?_ _)); exact BK155.out)) : gb155 ≠ gb164))
     have n7_ := aK ((by rw [hg]; exact Nat.ne_of_gt (blk_lt (by (with_reducible repeat (first | refine bN ?_ _ | refine bD ?_ | refine bA ?_ _)); exact BK155.out)) : gb164 ≠ gb155))
     have n8_ := aK ((by rw [hg]; exact Nat.ne_of_lt (blk_lt (by (with_reducible repeat (first | refine bN ?_ _ | refine bD ?_ | refine bA ?_ _)); exact BK156.out)) : gb156 ≠ gb164))
     have n9_ := aK ((by rw [hg]; exact Nat.ne_of_gt (blk_lt (by (with_reducible repeat (first | refine bN ?_ _ | refine bD ?_ | refine bA ?_ _)); exact BK156.out)) : gb164 ≠ gb156))
     clear BK155
     clear BK156
     clear HB
     have BK155 := n0_
     have BK156 := n1_
     have HB := n2_
     have BK164 := n3_
     have GW164 := n4_
     have GE164 := n5_
     have NB155_164 := n6_
     have NB164_155 := n7_
     have NB156_164 := n8_
     have NB164_156 := n9_
     clear n0_ n1_ n2_ n3_ n4_ n5_ n6_ n7_ n8_ n9_
     clear hb hbox hg
     refine hK.out _ _ ⟨(bC BK155.out 0).trans rfl, (bC BK155.out 1).trans rfl, (bC BK156.out 0).trans rfl, (bC BK156.out 1).trans rfl⟩ (fun hHeld => ?_)
     clear hK K
     refine norm_ (a' := ?_) ?_ ?_
     rotate_left
     ·show Act.put _ (some 5) _ = _
      simp only [Act.put, lA, l0', lS, i64_w, i32_w]
      rfl
     refine one_ (i := 1) (N := some 11) #[true, true, true, false, false, false, false, false, true, false, false] rfl rfl (one_of HT_.out (by kernel_rfl)) (by decide) (fun K hK => ?_)
     refine goes_ Try.func15 (by kernel_rfl) rfl #[.agg #[.int .i64 a0_0, .int .i64 a0_1]] (by rfl) rfl rfl (by (try simp only [mA, mC, mN]); first | done | rfl) ?_
     with_reducible refine (laws_toFraction.calls a0_0 a0_1 t157 t158 _ A3.out).mono ?_
     rintro e w16 ⟨rfl, hb⟩
     refine ⟨_, rfl, ?_⟩
     have n0_ := aK (bB (by (with_reducible repeat (first | refine bN ?_ _ | refine bD ?_ | refine bA ?_ _)); exact BK155.out) hb)
     have n1_ := aK (bB (by (with_reducible repeat (first | refine bN ?_ _ | refine bD ?_ | refine bA ?_ _)); exact BK156.out) hb)
     have n2_ := aK (bB (by (with_reducible repeat (first | refine bN ?_ _ | refine bD ?_ | refine bA ?_ _)); exact BK164.out) hb)
     have n3_ := aK (below_step (by repeat (first | (with_reducible first | exact HB.out | apply bL | apply bM | apply b1 | refine bS ?_ GE155.out | refine bS ?_ GE156.out | refine bS ?_ GE164.out) | exact HB.out)) hb)
     clear BK155
     clear BK156
     clear BK164
     clear HB
     have BK155 := n0_
     have BK156 := n1_
     have BK164 := n2_
     have HB := n3_
     clear n0_ n1_ n2_ n3_
     (try clear hb)
     (try clear hb2)
     (try clear hk)
     (try clear hi)
     refine hK.out _ _ ⟨(bC BK155.out 0).trans rfl, (bC BK155.out 1).trans rfl, (bC BK156.out 0).trans rfl, (bC BK156.out 1).trans rfl⟩ (fun hHeld => ?_)
     clear hK K
     refine norm_ (a' := ?_) ?_ ?_
     rotate_left
     ·show Act.put _ (some 11) _ = _
      simp only [Act.put, lA, l0', lS, i64_w, i32_w]
      rfl
     refine one_ (i := 3) (N := some 13) #[true, true, true, true, false, false, false, false, true, false, false] rfl rfl (one_of HT_.out (by kernel_rfl)) (by decide) (fun K hK => ?_)
     refine goes_ Try.func15 (by kernel_rfl) rfl #[.agg #[.int .i64 a1_0, .int .i64 a1_1]] (by rfl) rfl rfl (by (try simp only [mA, mC, mN]); first | done | rfl) ?_
     with_reducible refine (laws_toFraction.calls a1_0 a1_1 t159 t160 _ A4.out).mono ?_
     rintro e w17 ⟨rfl, hb⟩
     refine ⟨_, rfl, ?_⟩
     have n0_ := aK (bB (by (with_reducible repeat (first | refine bN ?_ _ | refine bD ?_ | refine bA ?_ _)); exact BK155.out) hb)
     have n1_ := aK (bB (by (with_reducible repeat (first | refine bN ?_ _ | refine bD ?_ | refine bA ?_ _)); exact BK156.out) hb)
     have n2_ := aK (bB (by (with_reducible repeat (first | refine bN ?_ _ | refine bD ?_ | refine bA ?_ _)); exact BK164.out) hb)
     have n3_ := aK (below_step (by repeat (first | (with_reducible first | exact HB.out | apply bL | apply bM | apply b1 | refine bS ?_ GE155.out | refine bS ?_ GE156.out | refine bS ?_ GE164.out) | exact HB.out)) hb)
     clear BK155
     clear BK156
     clear BK164
     clear HB
     have BK155 := n0_
     have BK156 := n1_
     have BK164 := n2_
     have HB := n3_
     clear n0_ n1_ n2_ n3_
     (try clear hb)
     (try clear hb2)
     (try clear hk)
     (try clear hi)
     refine hK.out _ _ ⟨(bC BK155.out 0).trans rfl, (bC BK155.out 1).trans rfl, (bC BK156.out 0).trans rfl, (bC BK156.out 1).trans rfl⟩ (fun hHeld => ?_)
     clear hK K
     refine norm_ (a' := ?_) ?_ ?_
     rotate_left
     ·show Act.put _ (some 13) _ = _
      simp only [Act.put, lA, l0', lS, i64_w, i32_w]
      rfl
     refine one_ (i := 4) (N := some 14) #[true, true, true, true, true, false, false, false, true, false, false] rfl rfl (one_of HT_.out (by kernel_rfl)) (by decide) (fun K hK => ?_)
     refine goes_ Try.func26 (by kernel_rfl) rfl #[.agg #[.int .i64 t157, .int .i64 t158], .agg #[.int .i64 t159, .int .i64 t160]] (by rfl) rfl rfl (by (try simp only [mA, mC, mN]); first | done | rfl) ?_
     with_reducible refine (spec_AddFractions.calls k t157 t158 t159 t160 t161 t162 t163 _ A5.out).mono ?_
     rintro e w18 ⟨rfl, hb⟩
     refine ⟨_, rfl, ?_⟩
     have n0_ := aK (bB (by (with_reducible repeat (first | refine bN ?_ _ | refine bD ?_ | refine bA ?_ _)); exact BK155.out) hb)
     have n1_ := aK (bB (by (with_reducible repeat (first | refine bN ?_ _ | refine bD ?_ | refine bA ?_ _)); exact BK156.out) hb)
     have n2_ := aK (bB (by (with_reducible repeat (first | refine bN ?_ _ | refine bD ?_ | refine bA ?_ _)); exact BK164.out) hb)
     have n3_ := aK (below_step (by repeat (first | (with_reducible first | exact HB.out | apply bL | apply bM | apply b1 | refine bS ?_ GE155.out | refine bS ?_ GE156.out | refine bS ?_ GE164.out) | exact HB.out)) hb)
     clear BK155
     clear BK156
     clear BK164
     clear HB
     have BK155 := n0_
     have BK156 := n1_
     have BK164 := n2_
     have HB := n3_
     clear n0_ n1_ n2_ n3_
     (try clear hb)
     (try clear hb2)
     (try clear hk)
     (try clear hi)
     refine hK.out _ _ ⟨(bC BK155.out 0).trans rfl, (bC BK155.out 1).trans rfl, (bC BK156.out 0).trans rfl, (bC BK156.out 1).trans rfl⟩ (fun hHeld => ?_)
     clear hK K
     refine norm_ (a' := ?_) ?_ ?_
     rotate_left
     ·show Act.put _ (some 14) _ = _
      simp only [Act.put, lA, l0', lS, i64_w, i32_w]
      rfl
     refine pure_ (i := 5) (N := some 9) (v := ?_) (a' := ?_) #[true, true, true, true, true, true, false, false, true, false, false] rfl rfl (any_of HT_.out (by kernel_rfl)) (fun _ _ _ h => h) (Or.inl ⟨by rfl, ?_⟩) ?_ ?_
     rotate_left
     ·intro w'
      go_simp
      with_reducible rfl
     rotate_left
     ·simp only [Act.put, lA, l0', lS, i64_w, i32_w]
      rfl
     refine pure_ (i := 6) (N := some 15) (v := ?_) (a' := ?_) #[true, true, true, true, true, true, true, false, true, false, false] rfl rfl (any_of HT_.out (by kernel_rfl)) (fun _ _ _ h => h) (Or.inl ⟨by rfl, ?_⟩) ?_ ?_
     rotate_left
     ·intro w'
      go_simp
      with_reducible rfl
     rotate_left
     ·simp only [Act.put, lA, l0', lS, i64_w, i32_w]
      rfl
     refine pure_ (i := 7) (N := some 16) (v := ?_) (a' := ?_) #[true, true, true, true, true, true, true, true, true, false, false] rfl rfl (any_of HT_.out (by kernel_rfl)) (fun _ _ _ h => h) (Or.inl ⟨by rfl, ?_⟩) ?_ ?_
     rotate_left
     ·intro w'
      go_simp
      with_reducible rfl
     rotate_left
     ·simp only [Act.put, lA, l0', lS, i64_w, i32_w]
      rfl
     exact norm_ (by simp only [putAll, Act.put, lA, l0', lS]) (hCont (gb164) _ ⟨hHeld, (by (with_reducible repeat (first | refine bN ?_ _ | refine bD ?_ | refine bA ?_ _)); exact BK155.out), (by (with_reducible repeat (first | refine bN ?_ _ | refine bD ?_ | refine bA ?_ _)); exact BK156.out), (by (with_reducible repeat (first | refine bN ?_ _ | refine bD ?_ | refine bA ?_ _)); exact BK164.out), GW164.out, GE164.out, NB155_164.out, NB164_155.out, NB156_164.out, NB164_156.out, (by repeat (first | (with_reducible first | exact HB.out | apply bL | apply bM | apply b1 | refine bS ?_ GE155.out | refine bS ?_ GE156.out | refine bS ?_ GE164.out) | exact HB.out))⟩)
   rintro gb164 w19 ⟨hS_, h0_, h1_, h2_, h3_, h4_, h5_, h6_, h7_, h8_, h9_⟩
   have n0_ : Aside0 (w19.heap[gb155]? = some (.cells #[.int .i64 a0_0, .int .i64 a0_1] 25 (0, 0))) := ⟨h0_⟩
   have n1_ : Aside0 (w19.heap[gb156]? = some (.cells #[.int .i64 a1_0, .int .i64 a1_1] 25 (0, 0))) := ⟨h1_⟩
   have n2_ : Aside0 (w19.heap[gb164]? = some (.cells #[.int .i64 0, .int .i64 0] 27 (0, 0))) := ⟨h2_⟩
   have n3_ : Aside0 (w.heap.size ≤ gb164) := ⟨h3_⟩
   have n4_ : Aside0 (w.heap.size ≤ gb164) := ⟨h4_⟩
   have n5_ : Aside0 (gb155 ≠ gb164) := ⟨h5_⟩
   have n6_ : Aside0 (gb164 ≠ gb155) := ⟨h6_⟩
   have n7_ : Aside0 (gb156 ≠ gb164) := ⟨h7_⟩
   have n8_ : Aside0 (gb164 ≠ gb156) := ⟨h8_⟩
   have n9_ : Aside0 (Below w.heap.size w w19) := ⟨h9_⟩
   clear BK155
   clear BK156
   clear HB
   clear h0_ h1_ h2_ h3_ h4_ h5_ h6_ h7_ h8_ h9_
   have BK155 := n0_
   have BK156 := n1_
   have BK164 := n2_
   have GW164 := n3_
   have GE164 := n4_
   have NB155_164 := n5_
   have NB164_155 := n6_
   have NB156_164 := n7_
   have NB164_156 := n8_
   have HB := n9_
   clear n0_ n1_ n2_ n3_ n4_ n5_ n6_ n7_ n8_ n9_
   have hHeld : w19.cell? ⟨gb155, 0, none⟩ = some (.int .i64 a0_0) ∧ w19.cell? ⟨gb155, 1, none⟩ = some (.int .i64 a0_1) ∧ w19.cell? ⟨gb156, 0, none⟩ = some (.int .i64 a1_0) ∧ w19.cell? ⟨gb156, 1, none⟩ = some (.int .i64 a1_1) := hS_
   refine norm_ (a' := ?_) ?_ ?_
   rotate_left
   ·simp only [putAll, Act.put, lA, l0', lS]
    rfl
   refine one_ (i := 9) (N := none) #[true, true, true, true, true, true, true, true, true, true, false] rfl rfl (one_of HT_.out (by kernel_rfl)) (by decide) (fun K hK => ?_)
   have hs20 : w19.cell? ⟨gb164, 0, none⟩ = some (.int .i64 0) := (bC BK164.out 0).trans rfl
   have hfs20 := blk_frozen BK164.out 0
   have hns20_0 := NB155_164.out
   have hns20_1 := NB156_164.out
   have hms20_0 := NB164_155.out
   have hms20_1 := NB164_156.out
   have hs21 : w19.cell? ⟨gb164, 1, none⟩ = some (.int .i64 0) := (bC BK164.out 1).trans rfl
   have hfs21 := blk_frozen BK164.out 1
   have hns21_0 := NB155_164.out
   have hns21_1 := NB156_164.out
   have hms21_0 := NB164_155.out
   have hms21_1 := NB164_156.out
   refine skip_ (w1 := ?_) (by rfl) rfl ?_ ?_
   rotate_left
   ·go_simp
    rfl
   refine hK.out _ _ ⟨((cell_far (p := ⟨gb164, _, none⟩) NB155_164.out _).trans (((cell_far (p := ⟨gb164, _, none⟩) NB155_164.out _).trans (hHeld.1)))), ((cell_far (p := ⟨gb164, _, none⟩) NB155_164.out _).trans (((cell_far (p := ⟨gb164, _, none⟩) NB155_164.out _).trans (hHeld.2.1)))), ((cell_far (p := ⟨gb164, _, none⟩) NB156_164.out _).trans (((cell_far (p := ⟨gb164, _, none⟩) NB156_164.out _).trans (hHeld.2.2.1)))), ((cell_far (p := ⟨gb164, _, none⟩) NB156_164.out _).trans (((cell_far (p := ⟨gb164, _, none⟩) NB156_164.out _).trans (hHeld.2.2.2))))⟩ (fun hHeld => ?_)
   clear hK K
   refine pure_ (i := 10) (N := some 6) (v := ?_) (a' := ?_) #[true, true, true, true, true, true, true, true, true, true, true] rfl rfl (any_of HT_.out (by kernel_rfl)) (fun _ _ _ h => h) (Or.inl ⟨by rfl, ?_⟩) ?_ ?_
   rotate_left
   ·intro w'
    go_simp
    with_reducible rfl
   rotate_left
   ·simp only [Act.put, lA, l0', lS, i64_w, i32_w]
    rfl
   refine done_ (done_of HT_.out (by kernel_rfl)) ?_
   try go_wp2
   have n0_ : Aside0 (((w19.setCell ⟨gb164, 0, none⟩ (.int .i64 t161)).setCell ⟨gb164, 1, none⟩ (.int .i64 t162)).heap[gb155]? = some (.cells #[.int .i64 a0_0, .int .i64 a0_1] 25 (0, 0))) := ⟨by (with_reducible repeat (first | refine bN ?_ _ | refine bD ?_ | refine bA ?_ _)); refine blk_far ?_ NB155_164.out _; (with_reducible repeat (first | refine bN ?_ _ | refine bD ?_ | refine bA ?_ _)); refine blk_far ?_ NB155_164.out _; (with_reducible repeat (first | refine bN ?_ _ | refine bD ?_ | refine bA ?_ _)); exact BK155.out⟩
   have n1_ : Aside0 (((w19.setCell ⟨gb164, 0, none⟩ (.int .i64 t161)).setCell ⟨gb164, 1, none⟩ (.int .i64 t162)).heap[gb156]? = some (.cells #[.int .i64 a1_0, .int .i64 a1_1] 25 (0, 0))) := ⟨by (with_reducible repeat (first | refine bN ?_ _ | refine bD ?_ | refine bA ?_ _)); refine blk_far ?_ NB156_164.out _; (with_reducible repeat (first | refine bN ?_ _ | refine bD ?_ | refine bA ?_ _)); refine blk_far ?_ NB156_164.out _; (with_reducible repeat (first | refine bN ?_ _ | refine bD ?_ | refine bA ?_ _)); exact BK156.out⟩
   have n2_ : Aside0 (((w19.setCell ⟨gb164, 0, none⟩ (.int .i64 t161)).setCell ⟨gb164, 1, none⟩ (.int .i64 t162)).heap[gb164]? = some (.cells #[.int .i64 t161, .int .i64 t162] 27 (0, 0))) := ⟨by (with_reducible repeat (first | refine bN ?_ _ | refine bD ?_ | refine bA ?_ _)); refine blk_put (cs := #[.int .i64 t161, .int .i64 0]) ?_ 1 _ rfl; (with_reducible repeat (first | refine bN ?_ _ | refine bD ?_ | refine bA ?_ _)); refine blk_put (cs := #[.int .i64 0, .int .i64 0]) ?_ 0 _ rfl; (with_reducible repeat (first | refine bN ?_ _ | refine bD ?_ | refine bA ?_ _)); exact BK164.out⟩
   have n3_ : Aside0 (Below w.heap.size w ((w19.setCell ⟨gb164, 0, none⟩ (.int .i64 t161)).setCell ⟨gb164, 1, none⟩ (.int .i64 t162))) := ⟨by repeat (first | (with_reducible first | exact HB.out | apply bL | apply bM | apply b1 | refine bS ?_ GE155.out | refine bS ?_ GE156.out | refine bS ?_ GE164.out) | exact HB.out)⟩
   (try clear BK155)
   (try clear BK156)
   (try clear BK164)
   (try clear HB)
   generalize ((w19.setCell ⟨gb164, 0, none⟩ (.int .i64 t161)).setCell ⟨gb164, 1, none⟩ (.int .i64 t162)) = w22 at n0_ n1_ n2_ n3_ ⊢
   have BK155 := n0_
   have BK156 := n1_
   have BK164 := n2_
   have HB := n3_
   clear n0_ n1_ n2_ n3_
   have n0_ := aK (bD BK155.out)
   have n1_ := aK (bD BK156.out)
   have n2_ := aK (bD BK164.out)
   have n3_ := aK (b1 HB.out)
   clear BK155
   clear BK156
   clear BK164
   clear HB
   have BK155 := n0_
   have BK156 := n1_
   have BK164 := n2_
   have HB := n3_
   clear n0_ n1_ n2_ n3_
   refine start_ (n := 11) (S := fun w' => w'.cell? ⟨gb155, 0, none⟩ = some (.int .i64 a0_0) ∧ w'.cell? ⟨gb155, 1, none⟩ = some (.int .i64 a0_1) ∧ w'.cell? ⟨gb156, 0, none⟩ = some (.int .i64 a1_0) ∧ w'.cell? ⟨gb156, 1, none⟩ = some (.int .i64 a1_1)) (ds := []) #[false, false, false, false, false, false, false, false, false, false, false] (by kernel_rfl) rfl rfl ⟨(bC BK155.out 0).trans rfl, (bC BK155.out 1).trans rfl, (bC BK156.out 0).trans rfl, (bC BK156.out 1).trans rfl⟩ (fun hHeld => ?_); refine with_tabW laws_FnExactAddFractions.tab2 laws_FnExactAddFractions.bits2 (fun HT_ HW_ => ?_)
   generalize w22.drew = w23 at BK155 BK156 BK164 HB hHeld ⊢
   refine take_ (i := 0) (N := some 18) (v := ?_) (a' := ?_) #[true, false, false, false, false, false, false, false, false, false, false] rfl rfl (take_ofW HT_.out HW_.out (by kernel_rfl)) (fun _ _ _ h => h) (Or.inl ⟨by rfl, ?_⟩) hHeld ?_ ?_
   rotate_left
   ·rintro w' ⟨s0, s1, s2, s3⟩
    go_simp
    with_reducible rfl
   rotate_left
   ·simp only [Act.put, lA, l0', lS, i64_w, i32_w]
    rfl
   refine take_ (i := 2) (N := some 20) (v := ?_) (a' := ?_) #[true, false, true, false, false, false, false, false, false, false, false] rfl rfl (take_ofW HT_.out HW_.out (by kernel_rfl)) (fun _ _ _ h => h) (Or.inl ⟨by rfl, ?_⟩) hHeld ?_ ?_
   rotate_left
   ·rintro w' ⟨s0, s1, s2, s3⟩
    go_simp
    with_reducible rfl
   rotate_left
   ·simp only [Act.put, lA, l0', lS, i64_w, i32_w]
    rfl
   refine join_ (σ := Nat) 2 #[true, true, true, true, true, true, true, true, true, false, false] (fun s_ => [(19, .agg #[.int .i64 t165, .int .i64 t166]), (21, .agg #[.int .i64 t167, .int .i64 t168]), (22, .tuple #[.agg #[.int .i64 t169, .int .i64 t170], .int .i64 t171]), (7, .pointer (some ⟨s_, 0, none⟩)), (17, .tuple #[.agg #[.int .i64 t169, .int .i64 t170], .int .i64 t171]), (23, .agg #[.int .i64 t169, .int .i64 t170]), (24, .int .i64 t171)]) (fun s_ w' => (w'.cell? ⟨gb155, 0, none⟩ = some (.int .i64 a0_0) ∧ w'.cell? ⟨gb155, 1, none⟩ = some (.int .i64 a0_1) ∧ w'.cell? ⟨gb156, 0, none⟩ = some (.int .i64 a1_0) ∧ w'.cell? ⟨gb156, 1, none⟩ = some (.int .i64 a1_1)) ∧ (w'.heap[gb155]? = some (.cells #[.int .i64 a0_0, .int .i64 a0_1] 25 (0, 0))) ∧ (w'.heap[gb156]? = some (.cells #[.int .i64 a1_0, .int .i64 a1_1] 25 (0, 0))) ∧ (w'.heap[gb164]? = some (.cells #[.int .i64 t161, .int .i64 t162] 27 (0, 0))) ∧ (w'.heap[s_]? = some (.cells #[.int .i64 0, .int .i64 0] 27 (0, 0))) ∧ (w.heap.size ≤ s_) ∧ (w.heap.size ≤ s_) ∧ (gb155 ≠ s_) ∧ (s_ ≠ gb155) ∧ (gb156 ≠ s_) ∧ (s_ ≠ gb156) ∧ (gb164 ≠ s_) ∧ (s_ ≠ gb164) ∧ (Below w.heap.size w w')) ?_ ?_
   rotate_left
   ·intro hCont
    refine two_ (i := 1) (j := 8) (Ni := some 19) (Nj := some 7) #[true, true, true, false, false, false, false, false, false, false, false] #[true, false, true, false, false, false, false, false, true, false, false] rfl rfl rfl rfl (two_of HT_.out (by kernel_rfl)) (by decide) (by decide) (fun K hK => ?_) (fun K hK => ?_)
    ·skip
     refine goes_ Try.func15 (by kernel_rfl) rfl #[.agg #[.int .i64 a0_0, .int .i64 a0_1]] (by rfl) rfl rfl (by (try simp only [mA, mC, mN]); first | done | rfl) ?_
     with_reducible refine (laws_toFraction.calls a0_0 a0_1 t165 t166 _ A6.out).mono ?_
     rintro e w24 ⟨rfl, hb⟩
     refine ⟨_, rfl, ?_⟩
     have n0_ := aK (bB (by (with_reducible repeat (first | refine bN ?_ _ | refine bD ?_ | refine bA ?_ _)); exact BK155.out) hb)
     have n1_ := aK (bB (by (with_reducible repeat (first | refine bN ?_ _ | refine bD ?_ | refine bA ?_ _)); exact BK156.out) hb)
     have n2_ := aK (bB (by (with_reducible repeat (first | refine bN ?_ _ | refine bD ?_ | refine bA ?_ _)); exact BK164.out) hb)
     have n3_ := aK (below_step (by repeat (first | (with_reducible first | exact HB.out | apply bL | apply bM | apply b1 | refine bS ?_ GE155.out | refine bS ?_ GE156.out | refine bS ?_ GE164.out) | exact HB.out)) hb)
     clear BK155
     clear BK156
     clear BK164
     clear HB
     have BK155 := n0_
     have BK156 := n1_
     have BK164 := n2_
     have HB := n3_
     clear n0_ n1_ n2_ n3_
     (try clear hb)
     (try clear hb2)
     (try clear hk)
     (try clear hi)
     refine hK.out _ _ ⟨(bC BK155.out 0).trans rfl, (bC BK155.out 1).trans rfl, (bC BK156.out 0).trans rfl, (bC BK156.out 1).trans rfl⟩ (fun hHeld => ?_)
     clear hK K
     refine norm_ (a' := ?_) ?_ ?_
     rotate_left
     ·show Act.put _ (some 19) _ = _
      simp only [Act.put, lA, l0', lS, i64_w, i32_w]
      rfl
     refine two_ (i := 3) (j := 8) (Ni := some 21) (Nj := some 7) #[true, true, true, true, false, false, false, false, false, false, false] #[true, true, true, false, false, false, false, false, true, false, false] rfl rfl rfl rfl (two_of HT_.out (by kernel_rfl)) (by decide) (by decide) (fun K hK => ?_) (fun K hK => ?_)
     ·skip
      refine goes_ Try.func15 (by kernel_rfl) rfl #[.agg #[.int .i64 a1_0, .int .i64 a1_1]] (by rfl) rfl rfl (by (try simp only [mA, mC, mN]); first | done | rfl) ?_
      with_reducible refine (laws_toFraction.calls a1_0 a1_1 t167 t168 _ A7.out).mono ?_
      rintro e w25 ⟨rfl, hb⟩
      refine ⟨_, rfl, ?_⟩
      have n0_ := aK (bB (by (with_reducible repeat (first | refine bN ?_ _ | refine bD ?_ | refine bA ?_ _)); exact BK155.out) hb)
      have n1_ := aK (bB (by (with_reducible repeat (first | refine bN ?_ _ | refine bD ?_ | refine bA ?_ _)); exact BK156.out) hb)
      have n2_ := aK (bB (by (with_reducible repeat (first | refine bN ?_ _ | refine bD ?_ | refine bA ?_ _)); exact BK164.out) hb)
      have n3_ := aK (below_step (by repeat (first | (with_reducible first | exact HB.out | apply bL | apply bM | apply b1 | refine bS ?_ GE155.out | refine bS ?_ GE156.out | refine bS ?_ GE164.out) | exact HB.out)) hb)
      clear BK155
      clear BK156
      clear BK164
      clear HB
      have BK155 := n0_
      have BK156 := n1_
      have BK164 := n2_
      have HB := n3_
      clear n0_ n1_ n2_ n3_
      (try clear hb)
      (try clear hb2)
      (try clear hk)
      (try clear hi)
      refine hK.out _ _ ⟨(bC BK155.out 0).trans rfl, (bC BK155.out 1).trans rfl, (bC BK156.out 0).trans rfl, (bC BK156.out 1).trans rfl⟩ (fun hHeld => ?_)
      clear hK K
      refine norm_ (a' := ?_) ?_ ?_
      rotate_left
      ·show Act.put _ (some 21) _ = _
       simp only [Act.put, lA, l0', lS, i64_w, i32_w]
       rfl
      refine two_ (i := 4) (j := 8) (Ni := some 22) (Nj := some 7) #[true, true, true, true, true, false, false, false, false, false, false] #[true, true, true, true, false, false, false, false, true, false, false] rfl rfl rfl rfl (two_of HT_.out (by kernel_rfl)) (by decide) (by decide) (fun K hK => ?_) (fun K hK => ?_)
      ·skip
       refine goes_ Try.func27 (by kernel_rfl) rfl #[.agg #[.int .i64 t165, .int .i64 t166], .agg #[.int .i64 t167, .int .i64 t168]] (by rfl) rfl rfl (by (try simp only [mA, mC, mN]); first | done | rfl) ?_
       with_reducible refine (impl_AddFractions.calls k t165 t166 t167 t168 t169 t170 t171 _ A8.out).mono ?_
       rintro e w26 ⟨rfl, hb⟩
       refine ⟨_, rfl, ?_⟩
       have n0_ := aK (bB (by (with_reducible repeat (first | refine bN ?_ _ | refine bD ?_ | refine bA ?_ _)); exact BK155.out) hb)
       have n1_ := aK (bB (by (with_reducible repeat (first | refine bN ?_ _ | refine bD ?_ | refine bA ?_ _)); exact BK156.out) hb)
       have n2_ := aK (bB (by (with_reducible repeat (first | refine bN ?_ _ | refine bD ?_ | refine bA ?_ _)); exact BK164.out) hb)
       have n3_ := aK (below_step (by repeat (first | (with_reducible first | exact HB.out | apply bL | apply bM | apply b1 | refine bS ?_ GE155.out | refine bS ?_ GE156.out | refine bS ?_ GE164.out) | exact HB.out)) hb)
       clear BK155
       clear BK156
       clear BK164
       clear HB
       have BK155 := n0_
       have BK156 := n1_
       have BK164 := n2_
       have HB := n3_
       clear n0_ n1_ n2_ n3_
       (try clear hb)
       (try clear hb2)
       (try clear hk)
       (try clear hi)
       refine hK.out _ _ ⟨(bC BK155.out 0).trans rfl, (bC BK155.out 1).trans rfl, (bC BK156.out 0).trans rfl, (bC BK156.out 1).trans rfl⟩ (fun hHeld => ?_)
       clear hK K
       refine norm_ (a' := ?_) ?_ ?_
       rotate_left
       ·show Act.put _ (some 22) _ = _
        simp only [Act.put, lA, l0', lS, i64_w, i32_w]
        rfl
       refine pure_ (i := 5) (N := some 17) (v := ?_) (a' := ?_) #[true, true, true, true, true, true, false, false, false, false, false] rfl rfl (any_of HT_.out (by kernel_rfl)) (fun _ _ _ h => h) (Or.inl ⟨by rfl, ?_⟩) ?_ ?_
       rotate_left
       ·intro w'
        go_simp
        with_reducible rfl
       rotate_left
       ·simp only [Act.put, lA, l0', lS, i64_w, i32_w]
        rfl
       refine pure_ (i := 6) (N := some 23) (v := ?_) (a' := ?_) #[true, true, true, true, true, true, true, false, false, false, false] rfl rfl (any_of HT_.out (by kernel_rfl)) (fun _ _ _ h => h) (Or.inl ⟨by rfl, ?_⟩) ?_ ?_
       rotate_left
       ·intro w'
        go_simp
        with_reducible rfl
       rotate_left
       ·simp only [Act.put, lA, l0', lS, i64_w, i32_w]
        rfl
       refine pure_ (i := 7) (N := some 24) (v := ?_) (a' := ?_) #[true, true, true, true, true, true, true, true, false, false, false] rfl rfl (any_of HT_.out (by kernel_rfl)) (fun _ _ _ h => h) (Or.inl ⟨by rfl, ?_⟩) ?_ ?_
       rotate_left
       ·intro w'
        go_simp
        with_reducible rfl
       rotate_left
       ·simp only [Act.put, lA, l0', lS, i64_w, i32_w]
        rfl
       refine one_ (i := 8) (N := some 7) #[true, true, true, true, true, true, true, true, true, false, false] rfl rfl (one_of HT_.out (by kernel_rfl)) (by decide) (fun K hK => ?_)
       refine box_step ?hg (N := 7) ?hd (cs := #[.int .i64 0, .int .i64 0]) (t := 27) ?hr ?_; (case hd => rfl); (case hg => rfl); (case hr => first | (go_simp; done) | (go_simp; rfl))
       intro gb172 hg w27 hbox hb
       have n0_ := aK (bB (by (with_reducible repeat (first | refine bN ?_ _ | refine bD ?_ | refine bA ?_ _)); exact BK155.out) hb)
       have n1_ := aK (bB (by (with_reducible repeat (first | refine bN ?_ _ | refine bD ?_ | refine bA ?_ _)); exact BK156.out) hb)
       have n2_ := aK (bB (by (with_reducible repeat (first | refine bN ?_ _ | refine bD ?_ | refine bA ?_ _)); exact BK164.out) hb)
       have n3_ := aK (below_step (by repeat (first | (with_reducible first | exact HB.out | apply bL | apply bM | apply b1 | refine bS ?_ GE155.out | refine bS ?_ GE156.out | refine bS ?_ GE164.out) | exact HB.out)) hb)
       have n4_ := aK (hbox)
       have n5_ := aK ((by rw [hg]; exact (below_size (by repeat (first | (with_reducible first | exact HB.out | apply bL | apply bM | apply b1 | refine bS ?_ GE155.out | refine bS ?_ GE156.out | refine bS ?_ GE164.out) | exact HB.out))) : w.heap.size ≤ gb172))
       have n6_ := aK ((by rw [hg]; exact (below_size (by repeat (first | (with_reducible first | exact HB.out | apply bL | apply bM | apply b1 | refine bS ?_ GE155.out | refine bS ?_ GE156.out | refine bS ?_ GE164.out) | exact HB.out))) : w.heap.size ≤ gb172))
       have n7_ := aK ((by rw [hg]; exact Nat.ne_of_lt (blk_lt (by (with_reducible repeat (first | refine bN ?_ _ | refine bD ?_ | refine bA ?_ _)); exact BK155.out)) : gb155 ≠ gb172))
       have n8_ := aK ((by rw [hg]; exact Nat.ne_of_gt (blk_lt (by (with_reducible repeat (first | refine bN ?_ _ | refine bD ?_ | refine bA ?_ _)); exact BK155.out)) : gb172 ≠ gb155))
       have n9_ := aK ((by rw [hg]; exact Nat.ne_of_lt (blk_lt (by (with_reducible repeat (first | refine bN ?_ _ | refine bD ?_ | refine bA ?_ _)); exact BK156.out)) : gb156 ≠ gb172))
       have n10_ := aK ((by rw [hg]; exact Nat.ne_of_gt (blk_lt (by (with_reducible repeat (first | refine bN ?_ _ | refine bD ?_ | refine bA ?_ _)); exact BK156.out)) : gb172 ≠ gb156))
       have n11_ := aK ((by rw [hg]; exact Nat.ne_of_lt (blk_lt (by (with_reducible repeat (first | refine bN ?_ _ | refine bD ?_ | refine bA ?_ _)); exact BK164.out)) : gb164 ≠ gb172))
       have n12_ := aK ((by rw [hg]; exact Nat.ne_of_gt (blk_lt (by (with_reducible repeat (first | refine bN ?_ _ | refine bD ?_ | refine bA ?_ _)); exact BK164.out)) : gb172 ≠ gb164))
       clear BK155
       clear BK156
       clear BK164
       clear HB
       have BK155 := n0_
       have BK156 := n1_
       have BK164 := n2_
       have HB := n3_
       have BK172 := n4_
       have GW172 := n5_
       have GE172 := n6_
       have NB155_172 := n7_
       have NB172_155 := n8_
       have NB156_172 := n9_
       have NB172_156 := n10_
       have NB164_172 := n11_
       have NB172_164 := n12_
       clear n0_ n1_ n2_ n3_ n4_ n5_ n6_ n7_ n8_ n9_ n10_ n11_ n12_
       clear hb hbox hg
       refine hK.out _ _ ⟨(bC BK155.out 0).trans rfl, (bC BK155.out 1).trans rfl, (bC BK156.out 0).trans rfl, (bC BK156.out 1).trans rfl⟩ (fun hHeld => ?_)
       clear hK K
       refine norm_ (a' := ?_) ?_ ?_
       rotate_left
       ·show Act.put _ (some 7) _ = _
        simp only [Act.put, lA, l0', lS, i64_w, i32_w]
        rfl
       exact norm_ (by simp only [putAll, Act.put, lA, l0', lS]) (hCont (gb172) _ ⟨hHeld, (by (with_reducible repeat (first | refine bN ?_ _ | refine bD ?_ | refine bA ?_ _)); exact BK155.out), (by (with_reducible repeat (first | refine bN ?_ _ | refine bD ?_ | refine bA ?_ _)); exact BK156.out), (by (with_reducible repeat (first | refine bN ?_ _ | refine bD ?_ | refine bA ?_ _)); exact BK164.out), (by (with_reducible repeat (first | refine bN ?_ _ | refine bD ?_ | refine bA ?_ _)); exact BK172.out), GW172.out, GE172.out, NB155_172.out, NB172_155.out, NB156_172.out, NB172_156.out, NB164_172.out, NB172_164.out, (by repeat (first | (with_reducible first | exact HB.out | apply bL | apply bM | apply b1 | refine bS ?_ GE155.out | refine bS ?_ GE156.out | refine bS ?_ GE164.out | refine bS ?_ GE172.out) | exact HB.out))⟩)
      ·skip
       refine box_step ?hg (N := 7) ?hd (cs := #[.int .i64 0, .int .i64 0]) (t := 27) ?hr ?_; (case hd => rfl); (case hg => rfl); (case hr => first | (go_simp; done) | (go_simp; rfl))
       intro gb172 hg w26 hbox hb
       have n0_ := aK (bB (by (with_reducible repeat (first | refine bN ?_ _ | refine bD ?_ | refine bA ?_ _)); exact BK155.out) hb)
       have n1_ := aK (bB (by (with_reducible repeat (first | refine bN ?_ _ | refine bD ?_ | refine bA ?_ _)); exact BK156.out) hb)
       have n2_ := aK (bB (by (with_reducible repeat (first | refine bN ?_ _ | refine bD ?_ | refine bA ?_ _)); exact BK164.out) hb)
       have n3_ := aK (below_step (by repeat (first | (with_reducible first | exact HB.out | apply bL | apply bM | apply b1 | refine bS ?_ GE155.out | refine bS ?_ GE156.out | refine bS ?_ GE164.out) | exact HB.out)) hb)
       have n4_ := aK (hbox)
       have n5_ := aK ((by rw [hg]; exact (below_size (by repeat (first | (with_reducible first | exact HB.out | apply bL | apply bM | apply b1 | refine bS ?_ GE155.out | refine bS ?_ GE156.out | refine bS ?_ GE164.out) | exact HB.out))) : w.heap.size ≤ gb172))
       have n6_ := aK ((by rw [hg]; exact (below_size (by repeat (first | (with_reducible first | exact HB.out | apply bL | apply bM | apply b1 | refine bS ?_ GE155.out | refine bS ?_ GE156.out | refine bS ?_ GE164.out) | exact HB.out))) : w.heap.size ≤ gb172))
       have n7_ := aK ((by rw [hg]; exact Nat.ne_of_lt (blk_lt (by (with_reducible repeat (first | refine bN ?_ _ | refine bD ?_ | refine bA ?_ _)); exact BK155.out)) : gb155 ≠ gb172))
       have n8_ := aK ((by rw [hg]; exact Nat.ne_of_gt (blk_lt (by (with_reducible repeat (first | refine bN ?_ _ | refine bD ?_ | refine bA ?_ _)); exact BK155.out)) : gb172 ≠ gb155))
       have n9_ := aK ((by rw [hg]; exact Nat.ne_of_lt (blk_lt (by (with_reducible repeat (first | refine bN ?_ _ | refine bD ?_ | refine bA ?_ _)); exact BK156.out)) : gb156 ≠ gb172))
       have n10_ := aK ((by rw [hg]; exact Nat.ne_of_gt (blk_lt (by (with_reducible repeat (first | refine bN ?_ _ | refine bD ?_ | refine bA ?_ _)); exact BK156.out)) : gb172 ≠ gb156))
       have n11_ := aK ((by rw [hg]; exact Nat.ne_of_lt (blk_lt (by (with_reducible repeat (first | refine bN ?_ _ | refine bD ?_ | refine bA ?_ _)); exact BK164.out)) : gb164 ≠ gb172))
       have n12_ := aK ((by rw [hg]; exact Nat.ne_of_gt (blk_lt (by (with_reducible repeat (first | refine bN ?_ _ | refine bD ?_ | refine bA ?_ _)); exact BK164.out)) : gb172 ≠ gb164))
       clear BK155
       clear BK156
       clear BK164
       clear HB
       have BK155 := n0_
       have BK156 := n1_
       have BK164 := n2_
       have HB := n3_
       have BK172 := n4_
       have GW172 := n5_
       have GE172 := n6_
       have NB155_172 := n7_
       have NB172_155 := n8_
       have NB156_172 := n9_
       have NB172_156 := n10_
       have NB164_172 := n11_
       have NB172_164 := n12_
       clear n0_ n1_ n2_ n3_ n4_ n5_ n6_ n7_ n8_ n9_ n10_ n11_ n12_
       clear hb hbox hg
       refine hK.out _ _ ⟨(bC BK155.out 0).trans rfl, (bC BK155.out 1).trans rfl, (bC BK156.out 0).trans rfl, (bC BK156.out 1).trans rfl⟩ (fun hHeld => ?_)
       clear hK K
       refine norm_ (a' := ?_) ?_ ?_
       rotate_left
       ·show Act.put _ (some 7) _ = _
        simp only [Act.put, lA, l0', lS, i64_w, i32_w]
        rfl
       refine one_ (i := 4) (N := some 22) #[true, true, true, true, true, false, false, false, true, false, false] rfl rfl (one_of HT_.out (by kernel_rfl)) (by decide) (fun K hK => ?_)
       refine goes_ Try.func27 (by kernel_rfl) rfl #[.agg #[.int .i64 t165, .int .i64 t166], .agg #[.int .i64 t167, .int .i64 t168]] (by rfl) rfl rfl (by (try simp only [mA, mC, mN]); first | done | rfl) ?_
       with_reducible refine (impl_AddFractions.calls k t165 t166 t167 t168 t169 t170 t171 _ A8.out).mono ?_
       rintro e w27 ⟨rfl, hb⟩
       refine ⟨_, rfl, ?_⟩
       have n0_ := aK (bB (by (with_reducible repeat (first | refine bN ?_ _ | refine bD ?_ | refine bA ?_ _)); exact BK155.out) hb)
       have n1_ := aK (bB (by (with_reducible repeat (first | refine bN ?_ _ | refine bD ?_ | refine bA ?_ _)); exact BK156.out) hb)
       have n2_ := aK (bB (by (with_reducible repeat (first | refine bN ?_ _ | refine bD ?_ | refine bA ?_ _)); exact BK164.out) hb)
       have n3_ := aK (bB (by (with_reducible repeat (first | refine bN ?_ _ | refine bD ?_ | refine bA ?_ _)); exact BK172.out) hb)
       have n4_ := aK (below_step (by repeat (first | (with_reducible first | exact HB.out | apply bL | apply bM | apply b1 | refine bS ?_ GE155.out | refine bS ?_ GE156.out | refine bS ?_ GE164.out | refine bS ?_ GE172.out) | exact HB.out)) hb)
       clear BK155
       clear BK156
       clear BK164
       clear BK172
       clear HB
       have BK155 := n0_
       have BK156 := n1_
       have BK164 := n2_
       have BK172 := n3_
       have HB := n4_
       clear n0_ n1_ n2_ n3_ n4_
       (try clear hb)
       (try clear hb2)
       (try clear hk)
       (try clear hi)
       refine hK.out _ _ ⟨(bC BK155.out 0).trans rfl, (bC BK155.out 1).trans rfl, (bC BK156.out 0).trans rfl, (bC BK156.out 1).trans rfl⟩ (fun hHeld => ?_)
       clear hK K
       refine norm_ (a' := ?_) ?_ ?_
       rotate_left
       ·show Act.put _ (some 22) _ = _
        simp only [Act.put, lA, l0', lS, i64_w, i32_w]
        rfl
       refine pure_ (i := 5) (N := some 17) (v := ?_) (a' := ?_) #[true, true, true, true, true, true, false, false, true, false, false] rfl rfl (any_of HT_.out (by kernel_rfl)) (fun _ _ _ h => h) (Or.inl ⟨by rfl, ?_⟩) ?_ ?_
       rotate_left
       ·intro w'
        go_simp
        with_reducible rfl
       rotate_left
       ·simp only [Act.put, lA, l0', lS, i64_w, i32_w]
        rfl
       refine pure_ (i := 6) (N := some 23) (v := ?_) (a' := ?_) #[true, true, true, true, true, true, true, false, true, false, false] rfl rfl (any_of HT_.out (by kernel_rfl)) (fun _ _ _ h => h) (Or.inl ⟨by rfl, ?_⟩) ?_ ?_
       rotate_left
       ·intro w'
        go_simp
        with_reducible rfl
       rotate_left
       ·simp only [Act.put, lA, l0', lS, i64_w, i32_w]
        rfl
       refine pure_ (i := 7) (N := some 24) (v := ?_) (a' := ?_) #[true, true, true, true, true, true, true, true, true, false, false] rfl rfl (any_of HT_.out (by kernel_rfl)) (fun _ _ _ h => h) (Or.inl ⟨by rfl, ?_⟩) ?_ ?_
       rotate_left
       ·intro w'
        go_simp
        with_reducible rfl
       rotate_left
       ·simp only [Act.put, lA, l0', lS, i64_w, i32_w]
        rfl
       exact norm_ (by simp only [putAll, Act.put, lA, l0', lS]) (hCont (gb172) _ ⟨hHeld, (by (with_reducible repeat (first | refine bN ?_ _ | refine bD ?_ | refine bA ?_ _)); exact BK155.out), (by (with_reducible repeat (first | refine bN ?_ _ | refine bD ?_ | refine bA ?_ _)); exact BK156.out), (by (with_reducible repeat (first | refine bN ?_ _ | refine bD ?_ | refine bA ?_ _)); exact BK164.out), (by (with_reducible repeat (first | refine bN ?_ _ | refine bD ?_ | refine bA ?_ _)); exact BK172.out), GW172.out, GE172.out, NB155_172.out, NB172_155.out, NB156_172.out, NB172_156.out, NB164_172.out, NB172_164.out, (by repeat (first | (with_reducible first | exact HB.out | apply bL | apply bM | apply b1 | refine bS ?_ GE155.out | refine bS ?_ GE156.out | refine bS ?_ GE164.out | refine bS ?_ GE172.out) | exact HB.out))⟩)
     ·skip
      refine box_step ?hg (N := 7) ?hd (cs := #[.int .i64 0, .int .i64 0]) (t := 27) ?hr ?_; (case hd => rfl); (case hg => rfl); (case hr => first | (go_simp; done) | (go_simp; rfl))
      intro gb172 hg w25 hbox hb
      have n0_ := aK (bB (by (with_reducible repeat (first | refine bN ?_ _ | refine bD ?_ | refine bA ?_ _)); exact BK155.out) hb)
      have n1_ := aK (bB (by (with_reducible repeat (first | refine bN ?_ _ | refine bD ?_ | refine bA ?_ _)); exact BK156.out) hb)
      have n2_ := aK (bB (by (with_reducible repeat (first | refine bN ?_ _ | refine bD ?_ | refine bA ?_ _)); exact BK164.out) hb)
      have n3_ := aK (below_step (by repeat (first | (with_reducible first | exact HB.out | apply bL | apply bM | apply b1 | refine bS ?_ GE155.out | refine bS ?_ GE156.out | refine bS ?_ GE164.out) | exact HB.out)) hb)
      have n4_ := aK (hbox)
      have n5_ := aK ((by rw [hg]; exact (below_size (by repeat (first | (with_reducible first | exact HB.out | apply bL | apply bM | apply b1 | refine bS ?_ GE155.out | refine bS ?_ GE156.out | refine bS ?_ GE164.out) | exact HB.out))) : w.heap.size ≤ gb172))
      have n6_ := aK ((by rw [hg]; exact (below_size (by repeat (first | (with_reducible first | exact HB.out | apply bL | apply bM | apply b1 | refine bS ?_ GE155.out | refine bS ?_ GE156.out | refine bS ?_ GE164.out) | exact HB.out))) : w.heap.size ≤ gb172))
      have n7_ := aK ((by rw [hg]; exact Nat.ne_of_lt (blk_lt (by (with_reducible repeat (first | refine bN ?_ _ | refine bD ?_ | refine bA ?_ _)); exact BK155.out)) : gb155 ≠ gb172))
      have n8_ := aK ((by rw [hg]; exact Nat.ne_of_gt (blk_lt (by (with_reducible repeat (first | refine bN ?_ _ | refine bD ?_ | refine bA ?_ _)); exact BK155.out)) : gb172 ≠ gb155))
      have n9_ := aK ((by rw [hg]; exact Nat.ne_of_lt (blk_lt (by (with_reducible repeat (first | refine bN ?_ _ | refine bD ?_ | refine bA ?_ _)); exact BK156.out)) : gb156 ≠ gb172))
      have n10_ := aK ((by rw [hg]; exact Nat.ne_of_gt (blk_lt (by (with_reducible repeat (first | refine bN ?_ _ | refine bD ?_ | refine bA ?_ _)); exact BK156.out)) : gb172 ≠ gb156))
      have n11_ := aK ((by rw [hg]; exact Nat.ne_of_lt (blk_lt (by (with_reducible repeat (first | refine bN ?_ _ | refine bD ?_ | refine bA ?_ _)); exact BK164.out)) : gb164 ≠ gb172))
      have n12_ := aK ((by rw [hg]; exact Nat.ne_of_gt (blk_lt (by (with_reducible repeat (first | refine bN ?_ _ | refine bD ?_ | refine bA ?_ _)); exact BK164.out)) : gb172 ≠ gb164))
      clear BK155
      clear BK156
      clear BK164
      clear HB
      have BK155 := n0_
      have BK156 := n1_
      have BK164 := n2_
      have HB := n3_
      have BK172 := n4_
      have GW172 := n5_
      have GE172 := n6_
      have NB155_172 := n7_
      have NB172_155 := n8_
      have NB156_172 := n9_
      have NB172_156 := n10_
      have NB164_172 := n11_
      have NB172_164 := n12_
      clear n0_ n1_ n2_ n3_ n4_ n5_ n6_ n7_ n8_ n9_ n10_ n11_ n12_
      clear hb hbox hg
      refine hK.out _ _ ⟨(bC BK155.out 0).trans rfl, (bC BK155.out 1).trans rfl, (bC BK156.out 0).trans rfl, (bC BK156.out 1).trans rfl⟩ (fun hHeld => ?_)
      clear hK K
      refine norm_ (a' := ?_) ?_ ?_
      rotate_left
      ·show Act.put _ (some 7) _ = _
       simp only [Act.put, lA, l0', lS, i64_w, i32_w]
       rfl
      refine one_ (i := 3) (N := some 21) #[true, true, true, true, false, false, false, false, true, false, false] rfl rfl (one_of HT_.out (by kernel_rfl)) (by decide) (fun K hK => ?_)
      refine goes_ Try.func15 (by kernel_rfl) rfl #[.agg #[.int .i64 a1_0, .int .i64 a1_1]] (by rfl) rfl rfl (by (try simp only [mA, mC, mN]); first | done | rfl) ?_
      with_reducible refine (laws_toFraction.calls a1_0 a1_1 t167 t168 _ A7.out).mono ?_
      rintro e w26 ⟨rfl, hb⟩
      refine ⟨_, rfl, ?_⟩
      have n0_ := aK (bB (by (with_reducible repeat (first | refine bN ?_ _ | refine bD ?_ | refine bA ?_ _)); exact BK155.out) hb)
      have n1_ := aK (bB (by (with_reducible repeat (first | refine bN ?_ _ | refine bD ?_ | refine bA ?_ _)); exact BK156.out) hb)
      have n2_ := aK (bB (by (with_reducible repeat (first | refine bN ?_ _ | refine bD ?_ | refine bA ?_ _)); exact BK164.out) hb)
      have n3_ := aK (bB (by (with_reducible repeat (first | refine bN ?_ _ | refine bD ?_ | refine bA ?_ _)); exact BK172.out) hb)
      have n4_ := aK (below_step (by repeat (first | (with_reducible first | exact HB.out | apply bL | apply bM | apply b1 | refine bS ?_ GE155.out | refine bS ?_ GE156.out | refine bS ?_ GE164.out | refine bS ?_ GE172.out) | exact HB.out)) hb)
      clear BK155
      clear BK156
      clear BK164
      clear BK172
      clear HB
      have BK155 := n0_
      have BK156 := n1_
      have BK164 := n2_
      have BK172 := n3_
      have HB := n4_
      clear n0_ n1_ n2_ n3_ n4_
      (try clear hb)
      (try clear hb2)
      (try clear hk)
      (try clear hi)
      refine hK.out _ _ ⟨(bC BK155.out 0).trans rfl, (bC BK155.out 1).trans rfl, (bC BK156.out 0).trans rfl, (bC BK156.out 1).trans rfl⟩ (fun hHeld => ?_)
      clear hK K
      refine norm_ (a' := ?_) ?_ ?_
      rotate_left
      ·show Act.put _ (some 21) _ = _
       simp only [Act.put, lA, l0', lS, i64_w, i32_w]
       rfl
      refine one_ (i := 4) (N := some 22) #[true, true, true, true, true, false, false, false, true, false, false] rfl rfl (one_of HT_.out (by kernel_rfl)) (by decide) (fun K hK => ?_)
      refine goes_ Try.func27 (by kernel_rfl) rfl #[.agg #[.int .i64 t165, .int .i64 t166], .agg #[.int .i64 t167, .int .i64 t168]] (by rfl) rfl rfl (by (try simp only [mA, mC, mN]); first | done | rfl) ?_
      with_reducible refine (impl_AddFractions.calls k t165 t166 t167 t168 t169 t170 t171 _ A8.out).mono ?_
      rintro e w27 ⟨rfl, hb⟩
      refine ⟨_, rfl, ?_⟩
      have n0_ := aK (bB (by (with_reducible repeat (first | refine bN ?_ _ | refine bD ?_ | refine bA ?_ _)); exact BK155.out) hb)
      have n1_ := aK (bB (by (with_reducible repeat (first | refine bN ?_ _ | refine bD ?_ | refine bA ?_ _)); exact BK156.out) hb)
      have n2_ := aK (bB (by (with_reducible repeat (first | refine bN ?_ _ | refine bD ?_ | refine bA ?_ _)); exact BK164.out) hb)
      have n3_ := aK (bB (by (with_reducible repeat (first | refine bN ?_ _ | refine bD ?_ | refine bA ?_ _)); exact BK172.out) hb)
      have n4_ := aK (below_step (by repeat (first | (with_reducible first | exact HB.out | apply bL | apply bM | apply b1 | refine bS ?_ GE155.out | refine bS ?_ GE156.out | refine bS ?_ GE164.out | refine bS ?_ GE172.out) | exact HB.out)) hb)
      clear BK155
      clear BK156
      clear BK164
      clear BK172
      clear HB
      have BK155 := n0_
      have BK156 := n1_
      have BK164 := n2_
      have BK172 := n3_
      have HB := n4_
      clear n0_ n1_ n2_ n3_ n4_
      (try clear hb)
      (try clear hb2)
      (try clear hk)
      (try clear hi)
      refine hK.out _ _ ⟨(bC BK155.out 0).trans rfl, (bC BK155.out 1).trans rfl, (bC BK156.out 0).trans rfl, (bC BK156.out 1).trans rfl⟩ (fun hHeld => ?_)
      clear hK K
      refine norm_ (a' := ?_) ?_ ?_
      rotate_left
      ·show Act.put _ (some 22) _ = _
       simp only [Act.put, lA, l0', lS, i64_w, i32_w]
       rfl
      refine pure_ (i := 5) (N := some 17) (v := ?_) (a' := ?_) #[true, true, true, true, true, true, false, false, true, false, false] rfl rfl (any_of HT_.out (by kernel_rfl)) (fun _ _ _ h => h) (Or.inl ⟨by rfl, ?_⟩) ?_ ?_
      rotate_left
      ·intro w'
       go_simp
       with_reducible rfl
      rotate_left
      ·simp only [Act.put, lA, l0', lS, i64_w, i32_w]
       rfl
      refine pure_ (i := 6) (N := some 23) (v := ?_) (a' := ?_) #[true, true, true, true, true, true, true, false, true, false, false] rfl rfl (any_of HT_.out (by kernel_rfl)) (fun _ _ _ h => h) (Or.inl ⟨by rfl, ?_⟩) ?_ ?_
      rotate_left
      ·intro w'
       go_simp
       with_reducible rfl
      rotate_left
      ·simp only [Act.put, lA, l0', lS, i64_w, i32_w]
       rfl
      refine pure_ (i := 7) (N := some 24) (v := ?_) (a' := ?_) #[true, true, true, true, true, true, true, true, true, false, false] rfl rfl (any_of HT_.out (by kernel_rfl)) (fun _ _ _ h => h) (Or.inl ⟨by rfl, ?_⟩) ?_ ?_
      rotate_left
      ·intro w'
       go_simp
       with_reducible rfl
      rotate_left
      ·simp only [Act.put, lA, l0', lS, i64_w, i32_w]
       rfl
      exact norm_ (by simp only [putAll, Act.put, lA, l0', lS]) (hCont (gb172) _ ⟨hHeld, (by (with_reducible repeat (first | refine bN ?_ _ | refine bD ?_ | refine bA ?_ _)); exact BK155.out), (by (with_reducible repeat (first | refine bN ?_ _ | refine bD ?_ | refine bA ?_ _)); exact BK156.out), (by (with_reducible repeat (first | refine bN ?_ _ | refine bD ?_ | refine bA ?_ _)); exact BK164.out), (by (with_reducible repeat (first | refine bN ?_ _ | refine bD ?_ | refine bA ?_ _)); exact BK172.out), GW172.out, GE172.out, NB155_172.out, NB172_155.out, NB156_172.out, NB172_156.out, NB164_172.out, NB172_164.out, (by repeat (first | (with_reducible first | exact HB.out | apply bL | apply bM | apply b1 | refine bS ?_ GE155.out | refine bS ?_ GE156.out | refine bS ?_ GE164.out | refine bS ?_ GE172.out) | exact HB.out))⟩)
    ·skip
     refine box_step ?hg (N := 7) ?hd (cs := #[.int .i64 0, .int .i64 0]) (t := 27) ?hr ?_; (case hd => rfl); (case hg => rfl); (case hr => first | (go_simp; done) | (go_simp; rfl))
     intro gb172 hg w24 hbox hb
     have n0_ := aK (bB (by (with_reducible repeat (first | refine bN ?_ _ | refine bD ?_ | refine bA ?_ _)); exact BK155.out) hb)
     have n1_ := aK (bB (by (with_reducible repeat (first | refine bN ?_ _ | refine bD ?_ | refine bA ?_ _)); exact BK156.out) hb)
     have n2_ := aK (bB (by (with_reducible repeat (first | refine bN ?_ _ | refine bD ?_ | refine bA ?_ _)); exact BK164.out) hb)
     have n3_ := aK (below_step (by repeat (first | (with_reducible first | exact HB.out | apply bL | apply bM | apply b1 | refine bS ?_ GE155.out | refine bS ?_ GE156.out | refine bS ?_ GE164.out) | exact HB.out)) hb)
     have n4_ := aK (hbox)
     have n5_ := aK ((by rw [hg]; exact (below_size (by repeat (first | (with_reducible first | exact HB.out | apply bL | apply bM | apply b1 | refine bS ?_ GE155.out | refine bS ?_ GE156.out | refine bS ?_ GE164.out) | exact HB.out))) : w.heap.size ≤ gb172))
     have n6_ := aK ((by rw [hg]; exact (below_size (by repeat (first | (with_reducible first | exact HB.out | apply bL | apply bM | apply b1 | refine bS ?_ GE155.out | refine bS ?_ GE156.out | refine bS ?_ GE164.out) | exact HB.out))) : w.heap.size ≤ gb172))
     have n7_ := aK ((by rw [hg]; exact Nat.ne_of_lt (blk_lt (by (with_reducible repeat (first | refine bN ?_ _ | refine bD ?_ | refine bA ?_ _)); exact BK155.out)) : gb155 ≠ gb172))
     have n8_ := aK ((by rw [hg]; exact Nat.ne_of_gt (blk_lt (by (with_reducible repeat (first | refine bN ?_ _ | refine bD ?_ | refine bA ?_ _)); exact BK155.out)) : gb172 ≠ gb155))
     have n9_ := aK ((by rw [hg]; exact Nat.ne_of_lt (blk_lt (by (with_reducible repeat (first | refine bN ?_ _ | refine bD ?_ | refine bA ?_ _)); exact BK156.out)) : gb156 ≠ gb172))
     have n10_ := aK ((by rw [hg]; exact Nat.ne_of_gt (blk_lt (by (with_reducible repeat (first | refine bN ?_ _ | refine bD ?_ | refine bA ?_ _)); exact BK156.out)) : gb172 ≠ gb156))
     have n11_ := aK ((by rw [hg]; exact Nat.ne_of_lt (blk_lt (by (with_reducible repeat (first | refine bN ?_ _ | refine bD ?_ | refine bA ?_ _)); exact BK164.out)) : gb164 ≠ gb172))
     have n12_ := aK ((by rw [hg]; exact Nat.ne_of_gt (blk_lt (by (with_reducible repeat (first | refine bN ?_ _ | refine bD ?_ | refine bA ?_ _)); exact BK164.out)) : gb172 ≠ gb164))
     clear BK155
     clear BK156
     clear BK164
     clear HB
     have BK155 := n0_
     have BK156 := n1_
     have BK164 := n2_
     have HB := n3_
     have BK172 := n4_
     have GW172 := n5_
     have GE172 := n6_
     have NB155_172 := n7_
     have NB172_155 := n8_
     have NB156_172 := n9_
     have NB172_156 := n10_
     have NB164_172 := n11_
     have NB172_164 := n12_
     clear n0_ n1_ n2_ n3_ n4_ n5_ n6_ n7_ n8_ n9_ n10_ n11_ n12_
     clear hb hbox hg
     refine hK.out _ _ ⟨(bC BK155.out 0).trans rfl, (bC BK155.out 1).trans rfl, (bC BK156.out 0).trans rfl, (bC BK156.out 1).trans rfl⟩ (fun hHeld => ?_)
     clear hK K
     refine norm_ (a' := ?_) ?_ ?_
     rotate_left
     ·show Act.put _ (some 7) _ = _
      simp only [Act.put, lA, l0', lS, i64_w, i32_w]
      rfl
     refine one_ (i := 1) (N := some 19) #[true, true, true, false, false, false, false, false, true, false, false] rfl rfl (one_of HT_.out (by kernel_rfl)) (by decide) (fun K hK => ?_)
     refine goes_ Try.func15 (by kernel_rfl) rfl #[.agg #[.int .i64 a0_0, .int .i64 a0_1]] (by rfl) rfl rfl (by (try simp only [mA, mC, mN]); first | done | rfl) ?_
     with_reducible refine (laws_toFraction.calls a0_0 a0_1 t165 t166 _ A6.out).mono ?_
     rintro e w25 ⟨rfl, hb⟩
     refine ⟨_, rfl, ?_⟩
     have n0_ := aK (bB (by (with_reducible repeat (first | refine bN ?_ _ | refine bD ?_ | refine bA ?_ _)); exact BK155.out) hb)
     have n1_ := aK (bB (by (with_reducible repeat (first | refine bN ?_ _ | refine bD ?_ | refine bA ?_ _)); exact BK156.out) hb)
     have n2_ := aK (bB (by (with_reducible repeat (first | refine bN ?_ _ | refine bD ?_ | refine bA ?_ _)); exact BK164.out) hb)
     have n3_ := aK (bB (by (with_reducible repeat (first | refine bN ?_ _ | refine bD ?_ | refine bA ?_ _)); exact BK172.out) hb)
     have n4_ := aK (below_step (by repeat (first | (with_reducible first | exact HB.out | apply bL | apply bM | apply b1 | refine bS ?_ GE155.out | refine bS ?_ GE156.out | refine bS ?_ GE164.out | refine bS ?_ GE172.out) | exact HB.out)) hb)
     clear BK155
     clear BK156
     clear BK164
     clear BK172
     clear HB
     have BK155 := n0_
     have BK156 := n1_
     have BK164 := n2_
     have BK172 := n3_
     have HB := n4_
     clear n0_ n1_ n2_ n3_ n4_
     (try clear hb)
     (try clear hb2)
     (try clear hk)
     (try clear hi)
     refine hK.out _ _ ⟨(bC BK155.out 0).trans rfl, (bC BK155.out 1).trans rfl, (bC BK156.out 0).trans rfl, (bC BK156.out 1).trans rfl⟩ (fun hHeld => ?_)
     clear hK K
     refine norm_ (a' := ?_) ?_ ?_
     rotate_left
     ·show Act.put _ (some 19) _ = _
      simp only [Act.put, lA, l0', lS, i64_w, i32_w]
      rfl
     refine one_ (i := 3) (N := some 21) #[true, true, true, true, false, false, false, false, true, false, false] rfl rfl (one_of HT_.out (by kernel_rfl)) (by decide) (fun K hK => ?_)
     refine goes_ Try.func15 (by kernel_rfl) rfl #[.agg #[.int .i64 a1_0, .int .i64 a1_1]] (by rfl) rfl rfl (by (try simp only [mA, mC, mN]); first | done | rfl) ?_
     with_reducible refine (laws_toFraction.calls a1_0 a1_1 t167 t168 _ A7.out).mono ?_
     rintro e w26 ⟨rfl, hb⟩
     refine ⟨_, rfl, ?_⟩
     have n0_ := aK (bB (by (with_reducible repeat (first | refine bN ?_ _ | refine bD ?_ | refine bA ?_ _)); exact BK155.out) hb)
     have n1_ := aK (bB (by (with_reducible repeat (first | refine bN ?_ _ | refine bD ?_ | refine bA ?_ _)); exact BK156.out) hb)
     have n2_ := aK (bB (by (with_reducible repeat (first | refine bN ?_ _ | refine bD ?_ | refine bA ?_ _)); exact BK164.out) hb)
     have n3_ := aK (bB (by (with_reducible repeat (first | refine bN ?_ _ | refine bD ?_ | refine bA ?_ _)); exact BK172.out) hb)
     have n4_ := aK (below_step (by repeat (first | (with_reducible first | exact HB.out | apply bL | apply bM | apply b1 | refine bS ?_ GE155.out | refine bS ?_ GE156.out | refine bS ?_ GE164.out | refine bS ?_ GE172.out) | exact HB.out)) hb)
     clear BK155
     clear BK156
     clear BK164
     clear BK172
     clear HB
     have BK155 := n0_
     have BK156 := n1_
     have BK164 := n2_
     have BK172 := n3_
     have HB := n4_
     clear n0_ n1_ n2_ n3_ n4_
     (try clear hb)
     (try clear hb2)
     (try clear hk)
     (try clear hi)
     refine hK.out _ _ ⟨(bC BK155.out 0).trans rfl, (bC BK155.out 1).trans rfl, (bC BK156.out 0).trans rfl, (bC BK156.out 1).trans rfl⟩ (fun hHeld => ?_)
     clear hK K
     refine norm_ (a' := ?_) ?_ ?_
     rotate_left
     ·show Act.put _ (some 21) _ = _
      simp only [Act.put, lA, l0', lS, i64_w, i32_w]
      rfl
     refine one_ (i := 4) (N := some 22) #[true, true, true, true, true, false, false, false, true, false, false] rfl rfl (one_of HT_.out (by kernel_rfl)) (by decide) (fun K hK => ?_)
     refine goes_ Try.func27 (by kernel_rfl) rfl #[.agg #[.int .i64 t165, .int .i64 t166], .agg #[.int .i64 t167, .int .i64 t168]] (by rfl) rfl rfl (by (try simp only [mA, mC, mN]); first | done | rfl) ?_
     with_reducible refine (impl_AddFractions.calls k t165 t166 t167 t168 t169 t170 t171 _ A8.out).mono ?_
     rintro e w27 ⟨rfl, hb⟩
     refine ⟨_, rfl, ?_⟩
     have n0_ := aK (bB (by (with_reducible repeat (first | refine bN ?_ _ | refine bD ?_ | refine bA ?_ _)); exact BK155.out) hb)
     have n1_ := aK (bB (by (with_reducible repeat (first | refine bN ?_ _ | refine bD ?_ | refine bA ?_ _)); exact BK156.out) hb)
     have n2_ := aK (bB (by (with_reducible repeat (first | refine bN ?_ _ | refine bD ?_ | refine bA ?_ _)); exact BK164.out) hb)
     have n3_ := aK (bB (by (with_reducible repeat (first | refine bN ?_ _ | refine bD ?_ | refine bA ?_ _)); exact BK172.out) hb)
     have n4_ := aK (below_step (by repeat (first | (with_reducible first | exact HB.out | apply bL | apply bM | apply b1 | refine bS ?_ GE155.out | refine bS ?_ GE156.out | refine bS ?_ GE164.out | refine bS ?_ GE172.out) | exact HB.out)) hb)
     clear BK155
     clear BK156
     clear BK164
     clear BK172
     clear HB
     have BK155 := n0_
     have BK156 := n1_
     have BK164 := n2_
     have BK172 := n3_
     have HB := n4_
     clear n0_ n1_ n2_ n3_ n4_
     (try clear hb)
     (try clear hb2)
     (try clear hk)
     (try clear hi)
     refine hK.out _ _ ⟨(bC BK155.out 0).trans rfl, (bC BK155.out 1).trans rfl, (bC BK156.out 0).trans rfl, (bC BK156.out 1).trans rfl⟩ (fun hHeld => ?_)
     clear hK K
     refine norm_ (a' := ?_) ?_ ?_
     rotate_left
     ·show Act.put _ (some 22) _ = _
      simp only [Act.put, lA, l0', lS, i64_w, i32_w]
      rfl
     refine pure_ (i := 5) (N := some 17) (v := ?_) (a' := ?_) #[true, true, true, true, true, true, false, false, true, false, false] rfl rfl (any_of HT_.out (by kernel_rfl)) (fun _ _ _ h => h) (Or.inl ⟨by rfl, ?_⟩) ?_ ?_
     rotate_left
     ·intro w'
      go_simp
      with_reducible rfl
     rotate_left
     ·simp only [Act.put, lA, l0', lS, i64_w, i32_w]
      rfl
     refine pure_ (i := 6) (N := some 23) (v := ?_) (a' := ?_) #[true, true, true, true, true, true, true, false, true, false, false] rfl rfl (any_of HT_.out (by kernel_rfl)) (fun _ _ _ h => h) (Or.inl ⟨by rfl, ?_⟩) ?_ ?_
     rotate_left
     ·intro w'
      go_simp
      with_reducible rfl
     rotate_left
     ·simp only [Act.put, lA, l0', lS, i64_w, i32_w]
      rfl
     refine pure_ (i := 7) (N := some 24) (v := ?_) (a' := ?_) #[true, true, true, true, true, true, true, true, true, false, false] rfl rfl (any_of HT_.out (by kernel_rfl)) (fun _ _ _ h => h) (Or.inl ⟨by rfl, ?_⟩) ?_ ?_
     rotate_left
     ·intro w'
      go_simp
      with_reducible rfl
     rotate_left
     ·simp only [Act.put, lA, l0', lS, i64_w, i32_w]
      rfl
     exact norm_ (by simp only [putAll, Act.put, lA, l0', lS]) (hCont (gb172) _ ⟨hHeld, (by (with_reducible repeat (first | refine bN ?_ _ | refine bD ?_ | refine bA ?_ _)); exact BK155.out), (by (with_reducible repeat (first | refine bN ?_ _ | refine bD ?_ | refine bA ?_ _)); exact BK156.out), (by (with_reducible repeat (first | refine bN ?_ _ | refine bD ?_ | refine bA ?_ _)); exact BK164.out), (by (with_reducible repeat (first | refine bN ?_ _ | refine bD ?_ | refine bA ?_ _)); exact BK172.out), GW172.out, GE172.out, NB155_172.out, NB172_155.out, NB156_172.out, NB172_156.out, NB164_172.out, NB172_164.out, (by repeat (first | (with_reducible first | exact HB.out | apply bL | apply bM | apply b1 | refine bS ?_ GE155.out | refine bS ?_ GE156.out | refine bS ?_ GE164.out | refine bS ?_ GE172.out) | exact HB.out))⟩)
   rintro gb172 w28 ⟨hS_, h0_, h1_, h2_, h3_, h4_, h5_, h6_, h7_, h8_, h9_, h10_, h11_, h12_⟩
   have n0_ : Aside0 (w28.heap[gb155]? = some (.cells #[.int .i64 a0_0, .int .i64 a0_1] 25 (0, 0))) := ⟨h0_⟩
   have n1_ : Aside0 (w28.heap[gb156]? = some (.cells #[.int .i64 a1_0, .int .i64 a1_1] 25 (0, 0))) := ⟨h1_⟩
   have n2_ : Aside0 (w28.heap[gb164]? = some (.cells #[.int .i64 t161, .int .i64 t162] 27 (0, 0))) := ⟨h2_⟩
   have n3_ : Aside0 (w28.heap[gb172]? = some (.cells #[.int .i64 0, .int .i64 0] 27 (0, 0))) := ⟨h3_⟩
   have n4_ : Aside0 (w.heap.size ≤ gb172) := ⟨h4_⟩
   have n5_ : Aside0 (w.heap.size ≤ gb172) := ⟨h5_⟩
   have n6_ : Aside0 (gb155 ≠ gb172) := ⟨h6_⟩
   have n7_ : Aside0 (gb172 ≠ gb155) := ⟨h7_⟩
   have n8_ : Aside0 (gb156 ≠ gb172) := ⟨h8_⟩
   have n9_ : Aside0 (gb172 ≠ gb156) := ⟨h9_⟩
   have n10_ : Aside0 (gb164 ≠ gb172) := ⟨h10_⟩
   have n11_ : Aside0 (gb172 ≠ gb164) := ⟨h11_⟩
   have n12_ : Aside0 (Below w.heap.size w w28) := ⟨h12_⟩
   clear BK155
   clear BK156
   clear BK164
   clear HB
   clear h0_ h1_ h2_ h3_ h4_ h5_ h6_ h7_ h8_ h9_ h10_ h11_ h12_
   have BK155 := n0_
   have BK156 := n1_
   have BK164 := n2_
   have BK172 := n3_
   have GW172 := n4_
   have GE172 := n5_
   have NB155_172 := n6_
   have NB172_155 := n7_
   have NB156_172 := n8_
   have NB172_156 := n9_
   have NB164_172 := n10_
   have NB172_164 := n11_
   have HB := n12_
   clear n0_ n1_ n2_ n3_ n4_ n5_ n6_ n7_ n8_ n9_ n10_ n11_ n12_
   have hHeld : w28.cell? ⟨gb155, 0, none⟩ = some (.int .i64 a0_0) ∧ w28.cell? ⟨gb155, 1, none⟩ = some (.int .i64 a0_1) ∧ w28.cell? ⟨gb156, 0, none⟩ = some (.int .i64 a1_0) ∧ w28.cell? ⟨gb156, 1, none⟩ = some (.int .i64 a1_1) := hS_
   refine norm_ (a' := ?_) ?_ ?_
   rotate_left
   ·simp only [putAll, Act.put, lA, l0', lS]
    rfl
   refine one_ (i := 9) (N := none) #[true, true, true, true, true, true, true, true, true, true, false] rfl rfl (one_of HT_.out (by kernel_rfl)) (by decide) (fun K hK => ?_)
   have hs29 : w28.cell? ⟨gb172, 0, none⟩ = some (.int .i64 0) := (bC BK172.out 0).trans rfl
   have hfs29 := blk_frozen BK172.out 0
   have hns29_0 := NB155_172.out
   have hns29_1 := NB156_172.out
   have hns29_2 := NB164_172.out
   have hms29_0 := NB172_155.out
   have hms29_1 := NB172_156.out
   have hms29_2 := NB172_164.out
   have hs30 : w28.cell? ⟨gb172, 1, none⟩ = some (.int .i64 0) := (bC BK172.out 1).trans rfl
   have hfs30 := blk_frozen BK172.out 1
   have hns30_0 := NB155_172.out
   have hns30_1 := NB156_172.out
   have hns30_2 := NB164_172.out
   have hms30_0 := NB172_155.out
   have hms30_1 := NB172_156.out
   have hms30_2 := NB172_164.out
   refine skip_ (w1 := ?_) (by rfl) rfl ?_ ?_
   rotate_left
   ·go_simp
    rfl
   refine hK.out _ _ ⟨((cell_far (p := ⟨gb172, _, none⟩) NB155_172.out _).trans (((cell_far (p := ⟨gb172, _, none⟩) NB155_172.out _).trans (hHeld.1)))), ((cell_far (p := ⟨gb172, _, none⟩) NB155_172.out _).trans (((cell_far (p := ⟨gb172, _, none⟩) NB155_172.out _).trans (hHeld.2.1)))), ((cell_far (p := ⟨gb172, _, none⟩) NB156_172.out _).trans (((cell_far (p := ⟨gb172, _, none⟩) NB156_172.out _).trans (hHeld.2.2.1)))), ((cell_far (p := ⟨gb172, _, none⟩) NB156_172.out _).trans (((cell_far (p := ⟨gb172, _, none⟩) NB156_172.out _).trans (hHeld.2.2.2))))⟩ (fun hHeld => ?_)
   clear hK K
   refine pure_ (i := 10) (N := some 8) (v := ?_) (a' := ?_) #[true, true, true, true, true, true, true, true, true, true, true] rfl rfl (any_of HT_.out (by kernel_rfl)) (fun _ _ _ h => h) (Or.inl ⟨by rfl, ?_⟩) ?_ ?_
   rotate_left
   ·intro w'
    go_simp
    with_reducible rfl
   rotate_left
   ·simp only [Act.put, lA, l0', lS, i64_w, i32_w]
    rfl
   refine done_ (done_of HT_.out (by kernel_rfl)) ?_
   have hnb31 := NB172_155.out
   have hnc31 := NB155_172.out
   have hnb32 := NB172_156.out
   have hnc32 := NB156_172.out
   have hnb33 := NB172_164.out
   have hnc33 := NB164_172.out
   have hcz34_0 : w28.cell? ⟨gb172, 0, none⟩ = some (.int .i64 0) := (bC BK172.out 0).trans rfl
   have hcz34_1 : w28.cell? ⟨gb172, 1, none⟩ = some (.int .i64 0) := (bC BK172.out 1).trans rfl
   have hfz34_0 := blk_frozen BK172.out 0
   have hfz34_1 := blk_frozen BK172.out 1
   have hnb35 := NB164_155.out
   have hnc35 := NB155_164.out
   have hnb36 := NB164_156.out
   have hnc36 := NB156_164.out
   have hcz37_0 : w28.cell? ⟨gb164, 0, none⟩ = some (.int .i64 t161) := (bC BK164.out 0).trans rfl
   have hcz37_1 : w28.cell? ⟨gb164, 1, none⟩ = some (.int .i64 t162) := (bC BK164.out 1).trans rfl
   have hfz37_0 := blk_frozen BK164.out 0
   have hfz37_1 := blk_frozen BK164.out 1
   try go_wp2_with (first | ((with_reducible refine gate_callee (f := 25) rfl ?_); refine goesL_ (some 27) rfl rfl Try.func25 (by kernel_rfl) rfl #[.agg #[.int .i64 t169, .int .i64 t170], .agg #[.int .i64 t161, .int .i64 t162]] rfl (by (try simp only [mA, mC, mN]); first | done | rfl) ?_; (with_reducible refine (laws_eqFraction.calls t169 t170 t161 t162 true _ A9.out).mono ?_); rintro e w38 ⟨rfl, hb⟩; refine ⟨_, rfl, ?_⟩; have n0_ := aK (bB (g := gb155) (o := .cells #[.int .i64 a0_0, .int .i64 a0_1] 25 (0, 0)) (by (with_reducible repeat (first | refine bN ?_ _ | refine bD ?_ | refine bA ?_ _)); refine blk_far ?_ NB155_172.out _; (with_reducible repeat (first | refine bN ?_ _ | refine bD ?_ | refine bA ?_ _)); refine blk_far ?_ NB155_172.out _; (with_reducible repeat (first | refine bN ?_ _ | refine bD ?_ | refine bA ?_ _)); exact BK155.out) hb); have n1_ := aK (bB (g := gb156) (o := .cells #[.int .i64 a1_0, .int .i64 a1_1] 25 (0, 0)) (by (with_reducible repeat (first | refine bN ?_ _ | refine bD ?_ | refine bA ?_ _)); refine blk_far ?_ NB156_172.out _; (with_reducible repeat (first | refine bN ?_ _ | refine bD ?_ | refine bA ?_ _)); refine blk_far ?_ NB156_172.out _; (with_reducible repeat (first | refine bN ?_ _ | refine bD ?_ | refine bA ?_ _)); exact BK156.out) hb); have n2_ := aK (bB (g := gb164) (o := .cells #[.int .i64 t161, .int .i64 t162] 27 (0, 0)) (by (with_reducible repeat (first | refine bN ?_ _ | refine bD ?_ | refine bA ?_ _)); refine blk_far ?_ NB164_172.out _; (with_reducible repeat (first | refine bN ?_ _ | refine bD ?_ | refine bA ?_ _)); refine blk_far ?_ NB164_172.out _; (with_reducible repeat (first | refine bN ?_ _ | refine bD ?_ | refine bA ?_ _)); exact BK164.out) hb); have n3_ := aK (bB (g := gb172) (o := .cells #[.int .i64 t169, .int .i64 t170] 27 (0, 0)) (by (with_reducible repeat (first | refine bN ?_ _ | refine bD ?_ | refine bA ?_ _)); refine blk_put (cs := #[.int .i64 t169, .int .i64 0]) ?_ 1 _ rfl; (with_reducible repeat (first | refine bN ?_ _ | refine bD ?_ | refine bA ?_ _)); refine blk_put (cs := #[.int .i64 0, .int .i64 0]) ?_ 0 _ rfl; (with_reducible repeat (first | refine bN ?_ _ | refine bD ?_ | refine bA ?_ _)); exact BK172.out) hb); have n4_ := aK (below_step (by repeat (first | (with_reducible first | exact HB.out | apply bL | apply bM | apply b1 | refine bS ?_ GE155.out | refine bS ?_ GE156.out | refine bS ?_ GE164.out | refine bS ?_ GE172.out) | exact HB.out)) hb); clear BK155; clear BK156; clear BK164; clear BK172; clear HB; have BK155 := n0_; have BK156 := n1_; have BK164 := n2_; have BK172 := n3_; have HB := n4_; clear n0_ n1_ n2_ n3_ n4_; (try clear hb); (try clear hb2); (try clear hk); (try clear hi)))
   go_ret
   exact ⟨by first | rfl | (simp [errW_none, errW_some] <;> rfl) | (simp [*, errW_none, errW_some] <;> rfl), by repeat (first | (with_reducible first | exact HB.out | apply bL | apply bM | apply b1 | refine bS ?_ GE155.out | refine bS ?_ GE156.out | refine bS ?_ GE164.out | refine bS ?_ GE172.out) | exact HB.out)⟩
  ·rw [if_neg c11] at H
   have c11b0 : (t171 == t163) = false := beq_eq_false_iff_ne.mpr c11
   have c11b1 : (t171 != t163) = true := bne_iff_ne.mpr c11
   obtain rfl := Option.some.inj H
   go_enter Try.func9, Try.ntmps9
   try go_wp2_with (first | ((with_reducible refine gate_dst (N := 2) rfl ?_); refine box_event ?hg (N := 2) ?hd (cs := #[.int .i64 a0_0, .int .i64 a0_1]) (t := 25) ?hr ?_; (case hd => rfl); (case hg => rfl); (case hr => first | (go_simp; done) | (go_simp; rfl)); intro gb155 hg w39 hbox hb; have n0_ := aK (below_step (by repeat (first | (with_reducible first | exact HB.out | apply bL | apply bM | apply b1) | exact HB.out)) hb); have n1_ := aK (hbox); have n2_ := aK ((by rw [hg]; exact (below_size (by repeat (first | (with_reducible first | exact HB.out | apply bL | apply bM | apply b1) | exact HB.out))) : w.heap.size ≤ gb155)); have n3_ := aK ((by rw [hg]; exact (below_size (by repeat (first | (with_reducible first | exact HB.out | apply bL | apply bM | apply b1) | exact HB.out))) : w.heap.size ≤ gb155)); clear HB; have HB := n0_; have BK155 := n1_; have GW155 := n2_; have GE155 := n3_; clear n0_ n1_ n2_ n3_; clear hb hbox hg) | ((with_reducible refine gate_dst (N := 3) rfl ?_); refine box_event ?hg (N := 3) ?hd (cs := #[.int .i64 a1_0, .int .i64 a1_1]) (t := 25) ?hr ?_; (case hd => rfl); (case hg => rfl); (case hr => first | (go_simp; done) | (go_simp; rfl)); intro gb156 hg w40 hbox hb; have n0_ := aK (bB (by (with_reducible repeat (first | refine bN ?_ _ | refine bD ?_ | refine bA ?_ _)); exact BK155.out) hb); have n1_ := aK (below_step (by repeat (first | (with_reducible first | exact HB.out | apply bL | apply bM | apply b1 | refine bS ?_ GE155.out) | exact HB.out)) hb); have n2_ := aK (hbox); have n3_ := aK ((by rw [hg]; exact (below_size (by repeat (first | (with_reducible first | exact HB.out | apply bL | apply bM | apply b1 | refine bS ?_ GE155.out) | exact HB.out))) : w.heap.size ≤ gb156)); have n4_ := aK ((by rw [hg]; exact (below_size (by repeat (first | (with_reducible first | exact HB.out | apply bL | apply bM | apply b1 | refine bS ?_ GE155.out) | exact HB.out))) : w.heap.size ≤ gb156)); have n5_ := aK ((by rw [hg]; exact Nat.ne_of_lt (blk_lt (by (with_reducible repeat (first | refine bN ?_ _ | refine bD ?_ | refine bA ?_ _)); exact BK155.out)) : gb155 ≠ gb156)); have n6_ := aK ((by rw [hg]; exact Nat.ne_of_gt (blk_lt (by (with_reducible repeat (first | refine bN ?_ _ | refine bD ?_ | refine bA ?_ _)); exact BK155.out)) : gb156 ≠ gb155)); clear BK155; clear HB; have BK155 := n0_; have HB := n1_; have BK156 := n2_; have GW156 := n3_; have GE156 := n4_; have NB155_156 := n5_; have NB156_155 := n6_; clear n0_ n1_ n2_ n3_ n4_ n5_ n6_; clear hb hbox hg))
   have n0_ := aK (bD BK155.out)
   have n1_ := aK (bD BK156.out)
   have n2_ := aK (b1 HB.out)
   clear BK155
   clear BK156
   clear HB
   have BK155 := n0_
   have BK156 := n1_
   have HB := n2_
   clear n0_ n1_ n2_
   refine start_ (n := 11) (S := fun w' => w'.cell? ⟨gb155, 0, none⟩ = some (.int .i64 a0_0) ∧ w'.cell? ⟨gb155, 1, none⟩ = some (.int .i64 a0_1) ∧ w'.cell? ⟨gb156, 0, none⟩ = some (.int .i64 a1_0) ∧ w'.cell? ⟨gb156, 1, none⟩ = some (.int .i64 a1_1)) (ds := []) #[false, false, false, false, false, false, false, false, false, false, false] (by kernel_rfl) rfl rfl ⟨(bC BK155.out 0).trans rfl, (bC BK155.out 1).trans rfl, (bC BK156.out 0).trans rfl, (bC BK156.out 1).trans rfl⟩ (fun hHeld => ?_); refine with_tabW laws_FnExactAddFractions.tab1 laws_FnExactAddFractions.bits1 (fun HT_ HW_ => ?_)
   generalize w40.drew = w41 at BK155 BK156 HB hHeld ⊢
   refine take_ (i := 0) (N := some 10) (v := ?_) (a' := ?_) #[true, false, false, false, false, false, false, false, false, false, false] rfl rfl (take_ofW HT_.out HW_.out (by kernel_rfl)) (fun _ _ _ h => h) (Or.inl ⟨by rfl, ?_⟩) hHeld ?_ ?_
   rotate_left
   ·rintro w' ⟨s0, s1, s2, s3⟩
    go_simp
    with_reducible rfl
   rotate_left
   ·simp only [Act.put, lA, l0', lS, i64_w, i32_w]
    rfl
   refine take_ (i := 2) (N := some 12) (v := ?_) (a' := ?_) #[true, false, true, false, false, false, false, false, false, false, false] rfl rfl (take_ofW HT_.out HW_.out (by kernel_rfl)) (fun _ _ _ h => h) (Or.inl ⟨by rfl, ?_⟩) hHeld ?_ ?_
   rotate_left
   ·rintro w' ⟨s0, s1, s2, s3⟩
    go_simp
    with_reducible rfl
   rotate_left
   ·simp only [Act.put, lA, l0', lS, i64_w, i32_w]
    rfl
   refine join_ (σ := Nat) 2 #[true, true, true, true, true, true, true, true, true, false, false] (fun s_ => [(11, .agg #[.int .i64 t157, .int .i64 t158]), (13, .agg #[.int .i64 t159, .int .i64 t160]), (14, .tuple #[.agg #[.int .i64 t161, .int .i64 t162], .int .i64 t163]), (5, .pointer (some ⟨s_, 0, none⟩)), (9, .tuple #[.agg #[.int .i64 t161, .int .i64 t162], .int .i64 t163]), (15, .agg #[.int .i64 t161, .int .i64 t162]), (16, .int .i64 t163)]) (fun s_ w' => (w'.cell? ⟨gb155, 0, none⟩ = some (.int .i64 a0_0) ∧ w'.cell? ⟨gb155, 1, none⟩ = some (.int .i64 a0_1) ∧ w'.cell? ⟨gb156, 0, none⟩ = some (.int .i64 a1_0) ∧ w'.cell? ⟨gb156, 1, none⟩ = some (.int .i64 a1_1)) ∧ (w'.heap[gb155]? = some (.cells #[.int .i64 a0_0, .int .i64 a0_1] 25 (0, 0))) ∧ (w'.heap[gb156]? = some (.cells #[.int .i64 a1_0, .int .i64 a1_1] 25 (0, 0))) ∧ (w'.heap[s_]? = some (.cells #[.int .i64 0, .int .i64 0] 27 (0, 0))) ∧ (w.heap.size ≤ s_) ∧ (w.heap.size ≤ s_) ∧ (gb155 ≠ s_) ∧ (s_ ≠ gb155) ∧ (gb156 ≠ s_) ∧ (s_ ≠ gb156) ∧ (Below w.heap.size w w')) ?_ ?_
   rotate_left
   ·intro hCont
    refine two_ (i := 1) (j := 8) (Ni := some 11) (Nj := some 5) #[true, true, true, false, false, false, false, false, false, false, false] #[true, false, true, false, false, false, false, false, true, false, false] rfl rfl rfl rfl (two_of HT_.out (by kernel_rfl)) (by decide) (by decide) (fun K hK => ?_) (fun K hK => ?_)
    ·skip
     refine goes_ Try.func15 (by kernel_rfl) rfl #[.agg #[.int .i64 a0_0, .int .i64 a0_1]] (by rfl) rfl rfl (by (try simp only [mA, mC, mN]); first | done | rfl) ?_
     with_reducible refine (laws_toFraction.calls a0_0 a0_1 t157 t158 _ A3.out).mono ?_
     rintro e w42 ⟨rfl, hb⟩
     refine ⟨_, rfl, ?_⟩
     have n0_ := aK (bB (by (with_reducible repeat (first | refine bN ?_ _ | refine bD ?_ | refine bA ?_ _)); exact BK155.out) hb)
     have n1_ := aK (bB (by (with_reducible repeat (first | refine bN ?_ _ | refine bD ?_ | refine bA ?_ _)); exact BK156.out) hb)
     have n2_ := aK (below_step (by repeat (first | (with_reducible first | exact HB.out | apply bL | apply bM | apply b1 | refine bS ?_ GE155.out | refine bS ?_ GE156.out) | exact HB.out)) hb)
     clear BK155
     clear BK156
     clear HB
     have BK155 := n0_
     have BK156 := n1_
     have HB := n2_
     clear n0_ n1_ n2_
     (try clear hb)
     (try clear hb2)
     (try clear hk)
     (try clear hi)
     refine hK.out _ _ ⟨(bC BK155.out 0).trans rfl, (bC BK155.out 1).trans rfl, (bC BK156.out 0).trans rfl, (bC BK156.out 1).trans rfl⟩ (fun hHeld => ?_)
     clear hK K
     refine norm_ (a' := ?_) ?_ ?_
     rotate_left
     ·show Act.put _ (some 11) _ = _
      simp only [Act.put, lA, l0', lS, i64_w, i32_w]
      rfl
     refine two_ (i := 3) (j := 8) (Ni := some 13) (Nj := some 5) #[true, true, true, true, false, false, false, false, false, false, false] #[true, true, true, false, false, false, false, false, true, false, false] rfl rfl rfl rfl (two_of HT_.out (by kernel_rfl)) (by decide) (by decide) (fun K hK => ?_) (fun K hK => ?_)
     ·skip
      refine goes_ Try.func15 (by kernel_rfl) rfl #[.agg #[.int .i64 a1_0, .int .i64 a1_1]] (by rfl) rfl rfl (by (try simp only [mA, mC, mN]); first | done | rfl) ?_
      with_reducible refine (laws_toFraction.calls a1_0 a1_1 t159 t160 _ A4.out).mono ?_
      rintro e w43 ⟨rfl, hb⟩
      refine ⟨_, rfl, ?_⟩
      have n0_ := aK (bB (by (with_reducible repeat (first | refine bN ?_ _ | refine bD ?_ | refine bA ?_ _)); exact BK155.out) hb)
      have n1_ := aK (bB (by (with_reducible repeat (first | refine bN ?_ _ | refine bD ?_ | refine bA ?_ _)); exact BK156.out) hb)
      have n2_ := aK (below_step (by repeat (first | (with_reducible first | exact HB.out | apply bL | apply bM | apply b1 | refine bS ?_ GE155.out | refine bS ?_ GE156.out) | exact HB.out)) hb)
      clear BK155
      clear BK156
      clear HB
      have BK155 := n0_
      have BK156 := n1_
      have HB := n2_
      clear n0_ n1_ n2_
      (try clear hb)
      (try clear hb2)
      (try clear hk)
      (try clear hi)
      refine hK.out _ _ ⟨(bC BK155.out 0).trans rfl, (bC BK155.out 1).trans rfl, (bC BK156.out 0).trans rfl, (bC BK156.out 1).trans rfl⟩ (fun hHeld => ?_)
      clear hK K
      refine norm_ (a' := ?_) ?_ ?_
      rotate_left
      ·show Act.put _ (some 13) _ = _
       simp only [Act.put, lA, l0', lS, i64_w, i32_w]
       rfl
      refine two_ (i := 4) (j := 8) (Ni := some 14) (Nj := some 5) #[true, true, true, true, true, false, false, false, false, false, false] #[true, true, true, true, false, false, false, false, true, false, false] rfl rfl rfl rfl (two_of HT_.out (by kernel_rfl)) (by decide) (by decide) (fun K hK => ?_) (fun K hK => ?_)
      ·skip
       refine goes_ Try.func26 (by kernel_rfl) rfl #[.agg #[.int .i64 t157, .int .i64 t158], .agg #[.int .i64 t159, .int .i64 t160]] (by rfl) rfl rfl (by (try simp only [mA, mC, mN]); first | done | rfl) ?_
       with_reducible refine (spec_AddFractions.calls k t157 t158 t159 t160 t161 t162 t163 _ A5.out).mono ?_
       rintro e w44 ⟨rfl, hb⟩
       refine ⟨_, rfl, ?_⟩
       have n0_ := aK (bB (by (with_reducible repeat (first | refine bN ?_ _ | refine bD ?_ | refine bA ?_ _)); exact BK155.out) hb)
       have n1_ := aK (bB (by (with_reducible repeat (first | refine bN ?_ _ | refine bD ?_ | refine bA ?_ _)); exact BK156.out) hb)
       have n2_ := aK (below_step (by repeat (first | (with_reducible first | exact HB.out | apply bL | apply bM | apply b1 | refine bS ?_ GE155.out | refine bS ?_ GE156.out) | exact HB.out)) hb)
       clear BK155
       clear BK156
       clear HB
       have BK155 := n0_
       have BK156 := n1_
       have HB := n2_
       clear n0_ n1_ n2_
       (try clear hb)
       (try clear hb2)
       (try clear hk)
       (try clear hi)
       refine hK.out _ _ ⟨(bC BK155.out 0).trans rfl, (bC BK155.out 1).trans rfl, (bC BK156.out 0).trans rfl, (bC BK156.out 1).trans rfl⟩ (fun hHeld => ?_)
       clear hK K
       refine norm_ (a' := ?_) ?_ ?_
       rotate_left
       ·show Act.put _ (some 14) _ = _
        simp only [Act.put, lA, l0', lS, i64_w, i32_w]
        rfl
       refine pure_ (i := 5) (N := some 9) (v := ?_) (a' := ?_) #[true, true, true, true, true, true, false, false, false, false, false] rfl rfl (any_of HT_.out (by kernel_rfl)) (fun _ _ _ h => h) (Or.inl ⟨by rfl, ?_⟩) ?_ ?_
       rotate_left
       ·intro w'
        go_simp
        with_reducible rfl
       rotate_left
       ·simp only [Act.put, lA, l0', lS, i64_w, i32_w]
        rfl
       refine pure_ (i := 6) (N := some 15) (v := ?_) (a' := ?_) #[true, true, true, true, true, true, true, false, false, false, false] rfl rfl (any_of HT_.out (by kernel_rfl)) (fun _ _ _ h => h) (Or.inl ⟨by rfl, ?_⟩) ?_ ?_
       rotate_left
       ·intro w'
        go_simp
        with_reducible rfl
       rotate_left
       ·simp only [Act.put, lA, l0', lS, i64_w, i32_w]
        rfl
       refine pure_ (i := 7) (N := some 16) (v := ?_) (a' := ?_) #[true, true, true, true, true, true, true, true, false, false, false] rfl rfl (any_of HT_.out (by kernel_rfl)) (fun _ _ _ h => h) (Or.inl ⟨by rfl, ?_⟩) ?_ ?_
       rotate_left
       ·intro w'
        go_simp
        with_reducible rfl
       rotate_left
       ·simp only [Act.put, lA, l0', lS, i64_w, i32_w]
        rfl
       refine one_ (i := 8) (N := some 5) #[true, true, true, true, true, true, true, true, true, false, false] rfl rfl (one_of HT_.out (by kernel_rfl)) (by decide) (fun K hK => ?_)
       refine box_step ?hg (N := 5) ?hd (cs := #[.int .i64 0, .int .i64 0]) (t := 27) ?hr ?_; (case hd => rfl); (case hg => rfl); (case hr => first | (go_simp; done) | (go_simp; rfl))
       intro gb164 hg w45 hbox hb
       have n0_ := aK (bB (by (with_reducible repeat (first | refine bN ?_ _ | refine bD ?_ | refine bA ?_ _)); exact BK155.out) hb)
       have n1_ := aK (bB (by (with_reducible repeat (first | refine bN ?_ _ | refine bD ?_ | refine bA ?_ _)); exact BK156.out) hb)
       have n2_ := aK (below_step (by repeat (first | (with_reducible first | exact HB.out | apply bL | apply bM | apply b1 | refine bS ?_ GE155.out | refine bS ?_ GE156.out) | exact HB.out)) hb)
       have n3_ := aK (hbox)
       have n4_ := aK ((by rw [hg]; exact (below_size (by repeat (first | (with_reducible first | exact HB.out | apply bL | apply bM | apply b1 | refine bS ?_ GE155.out | refine bS ?_ GE156.out) | exact HB.out))) : w.heap.size ≤ gb164))
       have n5_ := aK ((by rw [hg]; exact (below_size (by repeat (first | (with_reducible first | exact HB.out | apply bL | apply bM | apply b1 | refine bS ?_ GE155.out | refine bS ?_ GE156.out) | exact HB.out))) : w.heap.size ≤ gb164))
       have n6_ := aK ((by rw [hg]; exact Nat.ne_of_lt (blk_lt (by (with_reducible repeat (first | refine bN ?_ _ | refine bD ?_ | refine bA ?_ _)); exact BK155.out)) : gb155 ≠ gb164))
       have n7_ := aK ((by rw [hg]; exact Nat.ne_of_gt (blk_lt (by (with_reducible repeat (first | refine bN ?_ _ | refine bD ?_ | refine bA ?_ _)); exact BK155.out)) : gb164 ≠ gb155))
       have n8_ := aK ((by rw [hg]; exact Nat.ne_of_lt (blk_lt (by (with_reducible repeat (first | refine bN ?_ _ | refine bD ?_ | refine bA ?_ _)); exact BK156.out)) : gb156 ≠ gb164))
       have n9_ := aK ((by rw [hg]; exact Nat.ne_of_gt (blk_lt (by (with_reducible repeat (first | refine bN ?_ _ | refine bD ?_ | refine bA ?_ _)); exact BK156.out)) : gb164 ≠ gb156))
       clear BK155
       clear BK156
       clear HB
       have BK155 := n0_
       have BK156 := n1_
       have HB := n2_
       have BK164 := n3_
       have GW164 := n4_
       have GE164 := n5_
       have NB155_164 := n6_
       have NB164_155 := n7_
       have NB156_164 := n8_
       have NB164_156 := n9_
       clear n0_ n1_ n2_ n3_ n4_ n5_ n6_ n7_ n8_ n9_
       clear hb hbox hg
       refine hK.out _ _ ⟨(bC BK155.out 0).trans rfl, (bC BK155.out 1).trans rfl, (bC BK156.out 0).trans rfl, (bC BK156.out 1).trans rfl⟩ (fun hHeld => ?_)
       clear hK K
       refine norm_ (a' := ?_) ?_ ?_
       rotate_left
       ·show Act.put _ (some 5) _ = _
        simp only [Act.put, lA, l0', lS, i64_w, i32_w]
        rfl
       exact norm_ (by simp only [putAll, Act.put, lA, l0', lS]) (hCont (gb164) _ ⟨hHeld, (by (with_reducible repeat (first | refine bN ?_ _ | refine bD ?_ | refine bA ?_ _)); exact BK155.out), (by (with_reducible repeat (first | refine bN ?_ _ | refine bD ?_ | refine bA ?_ _)); exact BK156.out), (by (with_reducible repeat (first | refine bN ?_ _ | refine bD ?_ | refine bA ?_ _)); exact BK164.out), GW164.out, GE164.out, NB155_164.out, NB164_155.out, NB156_164.out, NB164_156.out, (by repeat (first | (with_reducible first | exact HB.out | apply bL | apply bM | apply b1 | refine bS ?_ GE155.out | refine bS ?_ GE156.out | refine bS ?_ GE164.out) | exact HB.out))⟩)
      ·skip
       refine box_step ?hg (N := 5) ?hd (cs := #[.int .i64 0, .int .i64 0]) (t := 27) ?hr ?_; (case hd => rfl); (case hg => rfl); (case hr => first | (go_simp; done) | (go_simp; rfl))
       intro gb164 hg w44 hbox hb
       have n0_ := aK (bB (by (with_reducible repeat (first | refine bN ?_ _ | refine bD ?_ | refine bA ?_ _)); exact BK155.out) hb)
       have n1_ := aK (bB (by (with_reducible repeat (first | refine bN ?_ _ | refine bD ?_ | refine bA ?_ _)); exact BK156.out) hb)
       have n2_ := aK (below_step (by repeat (first | (with_reducible first | exact HB.out | apply bL | apply bM | apply b1 | refine bS ?_ GE155.out | refine bS ?_ GE156.out) | exact HB.out)) hb)
       have n3_ := aK (hbox)
       have n4_ := aK ((by rw [hg]; exact (below_size (by repeat (first | (with_reducible first | exact HB.out | apply bL | apply bM | apply b1 | refine bS ?_ GE155.out | refine bS ?_ GE156.out) | exact HB.out))) : w.heap.size ≤ gb164))
       have n5_ := aK ((by rw [hg]; exact (below_size (by repeat (first | (with_reducible first | exact HB.out | apply bL | apply bM | apply b1 | refine bS ?_ GE155.out | refine bS ?_ GE156.out) | exact HB.out))) : w.heap.size ≤ gb164))
       have n6_ := aK ((by rw [hg]; exact Nat.ne_of_lt (blk_lt (by (with_reducible repeat (first | refine bN ?_ _ | refine bD ?_ | refine bA ?_ _)); exact BK155.out)) : gb155 ≠ gb164))
       have n7_ := aK ((by rw [hg]; exact Nat.ne_of_gt (blk_lt (by (with_reducible repeat (first | refine bN ?_ _ | refine bD ?_ | refine bA ?_ _)); exact BK155.out)) : gb164 ≠ gb155))
       have n8_ := aK ((by rw [hg]; exact Nat.ne_of_lt (blk_lt (by (with_reducible repeat (first | refine bN ?_ _ | refine bD ?_ | refine bA ?_ _)); exact BK156.out)) : gb156 ≠ gb164))
       have n9_ := aK ((by rw [hg]; exact Nat.ne_of_gt (blk_lt (by (with_reducible repeat (first | refine bN ?_ _ | refine bD ?_ | refine bA ?_ _)); exact BK156.out)) : gb164 ≠ gb156))
       clear BK155
       clear BK156
       clear HB
       have BK155 := n0_
       have BK156 := n1_
       have HB := n2_
       have BK164 := n3_
       have GW164 := n4_
       have GE164 := n5_
       have NB155_164 := n6_
       have NB164_155 := n7_
       have NB156_164 := n8_
       have NB164_156 := n9_
       clear n0_ n1_ n2_ n3_ n4_ n5_ n6_ n7_ n8_ n9_
       clear hb hbox hg
       refine hK.out _ _ ⟨(bC BK155.out 0).trans rfl, (bC BK155.out 1).trans rfl, (bC BK156.out 0).trans rfl, (bC BK156.out 1).trans rfl⟩ (fun hHeld => ?_)
       clear hK K
       refine norm_ (a' := ?_) ?_ ?_
       rotate_left
       ·show Act.put _ (some 5) _ = _
        simp only [Act.put, lA, l0', lS, i64_w, i32_w]
        rfl
       refine one_ (i := 4) (N := some 14) #[true, true, true, true, true, false, false, false, true, false, false] rfl rfl (one_of HT_.out (by kernel_rfl)) (by decide) (fun K hK => ?_)
       refine goes_ Try.func26 (by kernel_rfl) rfl #[.agg #[.int .i64 t157, .int .i64 t158], .agg #[.int .i64 t159, .int .i64 t160]] (by rfl) rfl rfl (by (try simp only [mA, mC, mN]); first | done | rfl) ?_
       with_reducible refine (spec_AddFractions.calls k t157 t158 t159 t160 t161 t162 t163 _ A5.out).mono ?_
       rintro e w45 ⟨rfl, hb⟩
       refine ⟨_, rfl, ?_⟩
       have n0_ := aK (bB (by (with_reducible repeat (first | refine bN ?_ _ | refine bD ?_ | refine bA ?_ _)); exact BK155.out) hb)
       have n1_ := aK (bB (by (with_reducible repeat (first | refine bN ?_ _ | refine bD ?_ | refine bA ?_ _)); exact BK156.out) hb)
       have n2_ := aK (bB (by (with_reducible repeat (first | refine bN ?_ _ | refine bD ?_ | refine bA ?_ _)); exact BK164.out) hb)
       have n3_ := aK (below_step (by repeat (first | (with_reducible first | exact HB.out | apply bL | apply bM | apply b1 | refine bS ?_ GE155.out | refine bS ?_ GE156.out | refine bS ?_ GE164.out) | exact HB.out)) hb)
       clear BK155
       clear BK156
       clear BK164
       clear HB
       have BK155 := n0_
       have BK156 := n1_
       have BK164 := n2_
       have HB := n3_
       clear n0_ n1_ n2_ n3_
       (try clear hb)
       (try clear hb2)
       (try clear hk)
       (try clear hi)
       refine hK.out _ _ ⟨(bC BK155.out 0).trans rfl, (bC BK155.out 1).trans rfl, (bC BK156.out 0).trans rfl, (bC BK156.out 1).trans rfl⟩ (fun hHeld => ?_)
       clear hK K
       refine norm_ (a' := ?_) ?_ ?_
       rotate_left
       ·show Act.put _ (some 14) _ = _
        simp only [Act.put, lA, l0', lS, i64_w, i32_w]
        rfl
       refine pure_ (i := 5) (N := some 9) (v := ?_) (a' := ?_) #[true, true, true, true, true, true, false, false, true, false, false] rfl rfl (any_of HT_.out (by kernel_rfl)) (fun _ _ _ h => h) (Or.inl ⟨by rfl, ?_⟩) ?_ ?_
       rotate_left
       ·intro w'
        go_simp
        with_reducible rfl
       rotate_left
       ·simp only [Act.put, lA, l0', lS, i64_w, i32_w]
        rfl
       refine pure_ (i := 6) (N := some 15) (v := ?_) (a' := ?_) #[true, true, true, true, true, true, true, false, true, false, false] rfl rfl (any_of HT_.out (by kernel_rfl)) (fun _ _ _ h => h) (Or.inl ⟨by rfl, ?_⟩) ?_ ?_
       rotate_left
       ·intro w'
        go_simp
        with_reducible rfl
       rotate_left
       ·simp only [Act.put, lA, l0', lS, i64_w, i32_w]
        rfl
       refine pure_ (i := 7) (N := some 16) (v := ?_) (a' := ?_) #[true, true, true, true, true, true, true, true, true, false, false] rfl rfl (any_of HT_.out (by kernel_rfl)) (fun _ _ _ h => h) (Or.inl ⟨by rfl, ?_⟩) ?_ ?_
       rotate_left
       ·intro w'
        go_simp
        with_reducible rfl
       rotate_left
       ·simp only [Act.put, lA, l0', lS, i64_w, i32_w]
        rfl
       exact norm_ (by simp only [putAll, Act.put, lA, l0', lS]) (hCont (gb164) _ ⟨hHeld, (by (with_reducible repeat (first | refine bN ?_ _ | refine bD ?_ | refine bA ?_ _)); exact BK155.out), (by (with_reducible repeat (first | refine bN ?_ _ | refine bD ?_ | refine bA ?_ _)); exact BK156.out), (by (with_reducible repeat (first | refine bN ?_ _ | refine bD ?_ | refine bA ?_ _)); exact BK164.out), GW164.out, GE164.out, NB155_164.out, NB164_155.out, NB156_164.out, NB164_156.out, (by repeat (first | (with_reducible first | exact HB.out | apply bL | apply bM | apply b1 | refine bS ?_ GE155.out | refine bS ?_ GE156.out | refine bS ?_ GE164.out) | exact HB.out))⟩)
     ·skip
      refine box_step ?hg (N := 5) ?hd (cs := #[.int .i64 0, .int .i64 0]) (t := 27) ?hr ?_; (case hd => rfl); (case hg => rfl); (case hr => first | (go_simp; done) | (go_simp; rfl))
      intro gb164 hg w43 hbox hb
      have n0_ := aK (bB (by (with_reducible repeat (first | refine bN ?_ _ | refine bD ?_ | refine bA ?_ _)); exact BK155.out) hb)
      have n1_ := aK (bB (by (with_reducible repeat (first | refine bN ?_ _ | refine bD ?_ | refine bA ?_ _)); exact BK156.out) hb)
      have n2_ := aK (below_step (by repeat (first | (with_reducible first | exact HB.out | apply bL | apply bM | apply b1 | refine bS ?_ GE155.out | refine bS ?_ GE156.out) | exact HB.out)) hb)
      have n3_ := aK (hbox)
      have n4_ := aK ((by rw [hg]; exact (below_size (by repeat (first | (with_reducible first | exact HB.out | apply bL | apply bM | apply b1 | refine bS ?_ GE155.out | refine bS ?_ GE156.out) | exact HB.out))) : w.heap.size ≤ gb164))
      have n5_ := aK ((by rw [hg]; exact (below_size (by repeat (first | (with_reducible first | exact HB.out | apply bL | apply bM | apply b1 | refine bS ?_ GE155.out | refine bS ?_ GE156.out) | exact HB.out))) : w.heap.size ≤ gb164))
      have n6_ := aK ((by rw [hg]; exact Nat.ne_of_lt (blk_lt (by (with_reducible repeat (first | refine bN ?_ _ | refine bD ?_ | refine bA ?_ _)); exact BK155.out)) : gb155 ≠ gb164))
      have n7_ := aK ((by rw [hg]; exact Nat.ne_of_gt (blk_lt (by (with_reducible repeat (first | refine bN ?_ _ | refine bD ?_ | refine bA ?_ _)); exact BK155.out)) : gb164 ≠ gb155))
      have n8_ := aK ((by rw [hg]; exact Nat.ne_of_lt (blk_lt (by (with_reducible repeat (first | refine bN ?_ _ | refine bD ?_ | refine bA ?_ _)); exact BK156.out)) : gb156 ≠ gb164))
      have n9_ := aK ((by rw [hg]; exact Nat.ne_of_gt (blk_lt (by (with_reducible repeat (first | refine bN ?_ _ | refine bD ?_ | refine bA ?_ _)); exact BK156.out)) : gb164 ≠ gb156))
      clear BK155
      clear BK156
      clear HB
      have BK155 := n0_
      have BK156 := n1_
      have HB := n2_
      have BK164 := n3_
      have GW164 := n4_
      have GE164 := n5_
      have NB155_164 := n6_
      have NB164_155 := n7_
      have NB156_164 := n8_
      have NB164_156 := n9_
      clear n0_ n1_ n2_ n3_ n4_ n5_ n6_ n7_ n8_ n9_
      clear hb hbox hg
      refine hK.out _ _ ⟨(bC BK155.out 0).trans rfl, (bC BK155.out 1).trans rfl, (bC BK156.out 0).trans rfl, (bC BK156.out 1).trans rfl⟩ (fun hHeld => ?_)
      clear hK K
      refine norm_ (a' := ?_) ?_ ?_
      rotate_left
      ·show Act.put _ (some 5) _ = _
       simp only [Act.put, lA, l0', lS, i64_w, i32_w]
       rfl
      refine one_ (i := 3) (N := some 13) #[true, true, true, true, false, false, false, false, true, false, false] rfl rfl (one_of HT_.out (by kernel_rfl)) (by decide) (fun K hK => ?_)
      refine goes_ Try.func15 (by kernel_rfl) rfl #[.agg #[.int .i64 a1_0, .int .i64 a1_1]] (by rfl) rfl rfl (by (try simp only [mA, mC, mN]); first | done | rfl) ?_
      with_reducible refine (laws_toFraction.calls a1_0 a1_1 t159 t160 _ A4.out).mono ?_
      rintro e w44 ⟨rfl, hb⟩
      refine ⟨_, rfl, ?_⟩
      have n0_ := aK (bB (by (with_reducible repeat (first | refine bN ?_ _ | refine bD ?_ | refine bA ?_ _)); exact BK155.out) hb)
      have n1_ := aK (bB (by (with_reducible repeat (first | refine bN ?_ _ | refine bD ?_ | refine bA ?_ _)); exact BK156.out) hb)
      have n2_ := aK (bB (by (with_reducible repeat (first | refine bN ?_ _ | refine bD ?_ | refine bA ?_ _)); exact BK164.out) hb)
      have n3_ := aK (below_step (by repeat (first | (with_reducible first | exact HB.out | apply bL | apply bM | apply b1 | refine bS ?_ GE155.out | refine bS ?_ GE156.out | refine bS ?_ GE164.out) | exact HB.out)) hb)
      clear BK155
      clear BK156
      clear BK164
      clear HB
      have BK155 := n0_
      have BK156 := n1_
      have BK164 := n2_
      have HB := n3_
      clear n0_ n1_ n2_ n3_
      (try clear hb)
      (try clear hb2)
      (try clear hk)
      (try clear hi)
      refine hK.out _ _ ⟨(bC BK155.out 0).trans rfl, (bC BK155.out 1).trans rfl, (bC BK156.out 0).trans rfl, (bC BK156.out 1).trans rfl⟩ (fun hHeld => ?_)
      clear hK K
      refine norm_ (a' := ?_) ?_ ?_
      rotate_left
      ·show Act.put _ (some 13) _ = _
       simp only [Act.put, lA, l0', lS, i64_w, i32_w]
       rfl
      refine one_ (i := 4) (N := some 14) #[true, true, true, true, true, false, false, false, true, false, false] rfl rfl (one_of HT_.out (by kernel_rfl)) (by decide) (fun K hK => ?_)
      refine goes_ Try.func26 (by kernel_rfl) rfl #[.agg #[.int .i64 t157, .int .i64 t158], .agg #[.int .i64 t159, .int .i64 t160]] (by rfl) rfl rfl (by (try simp only [mA, mC, mN]); first | done | rfl) ?_
      with_reducible refine (spec_AddFractions.calls k t157 t158 t159 t160 t161 t162 t163 _ A5.out).mono ?_
      rintro e w45 ⟨rfl, hb⟩
      refine ⟨_, rfl, ?_⟩
      have n0_ := aK (bB (by (with_reducible repeat (first | refine bN ?_ _ | refine bD ?_ | refine bA ?_ _)); exact BK155.out) hb)
      have n1_ := aK (bB (by (with_reducible repeat (first | refine bN ?_ _ | refine bD ?_ | refine bA ?_ _)); exact BK156.out) hb)
      have n2_ := aK (bB (by (with_reducible repeat (first | refine bN ?_ _ | refine bD ?_ | refine bA ?_ _)); exact BK164.out) hb)
      have n3_ := aK (below_step (by repeat (first | (with_reducible first | exact HB.out | apply bL | apply bM | apply b1 | refine bS ?_ GE155.out | refine bS ?_ GE156.out | refine bS ?_ GE164.out) | exact HB.out)) hb)
      clear BK155
      clear BK156
      clear BK164
      clear HB
      have BK155 := n0_
      have BK156 := n1_
      have BK164 := n2_
      have HB := n3_
      clear n0_ n1_ n2_ n3_
      (try clear hb)
      (try clear hb2)
      (try clear hk)
      (try clear hi)
      refine hK.out _ _ ⟨(bC BK155.out 0).trans rfl, (bC BK155.out 1).trans rfl, (bC BK156.out 0).trans rfl, (bC BK156.out 1).trans rfl⟩ (fun hHeld => ?_)
      clear hK K
      refine norm_ (a' := ?_) ?_ ?_
      rotate_left
      ·show Act.put _ (some 14) _ = _
       simp only [Act.put, lA, l0', lS, i64_w, i32_w]
       rfl
      refine pure_ (i := 5) (N := some 9) (v := ?_) (a' := ?_) #[true, true, true, true, true, true, false, false, true, false, false] rfl rfl (any_of HT_.out (by kernel_rfl)) (fun _ _ _ h => h) (Or.inl ⟨by rfl, ?_⟩) ?_ ?_
      rotate_left
      ·intro w'
       go_simp
       with_reducible rfl
      rotate_left
      ·simp only [Act.put, lA, l0', lS, i64_w, i32_w]
       rfl
      refine pure_ (i := 6) (N := some 15) (v := ?_) (a' := ?_) #[true, true, true, true, true, true, true, false, true, false, false] rfl rfl (any_of HT_.out (by kernel_rfl)) (fun _ _ _ h => h) (Or.inl ⟨by rfl, ?_⟩) ?_ ?_
      rotate_left
      ·intro w'
       go_simp
       with_reducible rfl
      rotate_left
      ·simp only [Act.put, lA, l0', lS, i64_w, i32_w]
       rfl
      refine pure_ (i := 7) (N := some 16) (v := ?_) (a' := ?_) #[true, true, true, true, true, true, true, true, true, false, false] rfl rfl (any_of HT_.out (by kernel_rfl)) (fun _ _ _ h => h) (Or.inl ⟨by rfl, ?_⟩) ?_ ?_
      rotate_left
      ·intro w'
       go_simp
       with_reducible rfl
      rotate_left
      ·simp only [Act.put, lA, l0', lS, i64_w, i32_w]
       rfl
      exact norm_ (by simp only [putAll, Act.put, lA, l0', lS]) (hCont (gb164) _ ⟨hHeld, (by (with_reducible repeat (first | refine bN ?_ _ | refine bD ?_ | refine bA ?_ _)); exact BK155.out), (by (with_reducible repeat (first | refine bN ?_ _ | refine bD ?_ | refine bA ?_ _)); exact BK156.out), (by (with_reducible repeat (first | refine bN ?_ _ | refine bD ?_ | refine bA ?_ _)); exact BK164.out), GW164.out, GE164.out, NB155_164.out, NB164_155.out, NB156_164.out, NB164_156.out, (by repeat (first | (with_reducible first | exact HB.out | apply bL | apply bM | apply b1 | refine bS ?_ GE155.out | refine bS ?_ GE156.out | refine bS ?_ GE164.out) | exact HB.out))⟩)
    ·skip
     refine box_step ?hg (N := 5) ?hd (cs := #[.int .i64 0, .int .i64 0]) (t := 27) ?hr ?_; (case hd => rfl); (case hg => rfl); (case hr => first | (go_simp; done) | (go_simp; rfl))
     intro gb164 hg w42 hbox hb
     have n0_ := aK (bB (by (with_reducible repeat (first | refine bN ?_ _ | refine bD ?_ | refine bA ?_ _)); exact BK155.out) hb)
     have n1_ := aK (bB (by (with_reducible repeat (first | refine bN ?_ _ | refine bD ?_ | refine bA ?_ _)); exact BK156.out) hb)
     have n2_ := aK (below_step (by repeat (first | (with_reducible first | exact HB.out | apply bL | apply bM | apply b1 | refine bS ?_ GE155.out | refine bS ?_ GE156.out) | exact HB.out)) hb)
     have n3_ := aK (hbox)
     have n4_ := aK ((by rw [hg]; exact (below_size (by repeat (first | (with_reducible first | exact HB.out | apply bL | apply bM | apply b1 | refine bS ?_ GE155.out | refine bS ?_ GE156.out) | exact HB.out))) : w.heap.size ≤ gb164))
     have n5_ := aK ((by rw [hg]; exact (below_size (by repeat (first | (with_reducible first | exact HB.out | apply bL | apply bM | apply b1 | refine bS ?_ GE155.out | refine bS ?_ GE156.out) | exact HB.out))) : w.heap.size ≤ gb164))
     have n6_ := aK ((by rw [hg]; exact Nat.ne_of_lt (blk_lt (by (with_reducible repeat (first | refine bN ?_ _ | refine bD ?_ | refine bA ?_ _)); exact BK155.out)) : gb155 ≠ gb164))
     have n7_ := aK ((by rw [hg]; exact Nat.ne_of_gt (blk_lt (by (with_reducible repeat (first | refine bN ?_ _ | refine bD ?_ | refine bA ?_ _)); exact BK155.out)) : gb164 ≠ gb155))
     have n8_ := aK ((by rw [hg]; exact Nat.ne_of_lt (blk_lt (by (with_reducible repeat (first | refine bN ?_ _ | refine bD ?_ | refine bA ?_ _)); exact BK156.out)) : gb156 ≠ gb164))
     have n9_ := aK ((by rw [hg]; exact Nat.ne_of_gt (blk_lt (by (with_reducible repeat (first | refine bN ?_ _ | refine bD ?_ | refine bA ?_ _)); exact BK156.out)) : gb164 ≠ gb156))
     clear BK155
     clear BK156
     clear HB
     have BK155 := n0_
     have BK156 := n1_
     have HB := n2_
     have BK164 := n3_
     have GW164 := n4_
     have GE164 := n5_
     have NB155_164 := n6_
     have NB164_155 := n7_
     have NB156_164 := n8_
     have NB164_156 := n9_
     clear n0_ n1_ n2_ n3_ n4_ n5_ n6_ n7_ n8_ n9_
     clear hb hbox hg
     refine hK.out _ _ ⟨(bC BK155.out 0).trans rfl, (bC BK155.out 1).trans rfl, (bC BK156.out 0).trans rfl, (bC BK156.out 1).trans rfl⟩ (fun hHeld => ?_)
     clear hK K
     refine norm_ (a' := ?_) ?_ ?_
     rotate_left
     ·show Act.put _ (some 5) _ = _
      simp only [Act.put, lA, l0', lS, i64_w, i32_w]
      rfl
     refine one_ (i := 1) (N := some 11) #[true, true, true, false, false, false, false, false, true, false, false] rfl rfl (one_of HT_.out (by kernel_rfl)) (by decide) (fun K hK => ?_)
     refine goes_ Try.func15 (by kernel_rfl) rfl #[.agg #[.int .i64 a0_0, .int .i64 a0_1]] (by rfl) rfl rfl (by (try simp only [mA, mC, mN]); first | done | rfl) ?_
     with_reducible refine (laws_toFraction.calls a0_0 a0_1 t157 t158 _ A3.out).mono ?_
     rintro e w43 ⟨rfl, hb⟩
     refine ⟨_, rfl, ?_⟩
     have n0_ := aK (bB (by (with_reducible repeat (first | refine bN ?_ _ | refine bD ?_ | refine bA ?_ _)); exact BK155.out) hb)
     have n1_ := aK (bB (by (with_reducible repeat (first | refine bN ?_ _ | refine bD ?_ | refine bA ?_ _)); exact BK156.out) hb)
     have n2_ := aK (bB (by (with_reducible repeat (first | refine bN ?_ _ | refine bD ?_ | refine bA ?_ _)); exact BK164.out) hb)
     have n3_ := aK (below_step (by repeat (first | (with_reducible first | exact HB.out | apply bL | apply bM | apply b1 | refine bS ?_ GE155.out | refine bS ?_ GE156.out | refine bS ?_ GE164.out) | exact HB.out)) hb)
     clear BK155
     clear BK156
     clear BK164
     clear HB
     have BK155 := n0_
     have BK156 := n1_
     have BK164 := n2_
     have HB := n3_
     clear n0_ n1_ n2_ n3_
     (try clear hb)
     (try clear hb2)
     (try clear hk)
     (try clear hi)
     refine hK.out _ _ ⟨(bC BK155.out 0).trans rfl, (bC BK155.out 1).trans rfl, (bC BK156.out 0).trans rfl, (bC BK156.out 1).trans rfl⟩ (fun hHeld => ?_)
     clear hK K
     refine norm_ (a' := ?_) ?_ ?_
     rotate_left
     ·show Act.put _ (some 11) _ = _
      simp only [Act.put, lA, l0', lS, i64_w, i32_w]
      rfl
     refine one_ (i := 3) (N := some 13) #[true, true, true, true, false, false, false, false, true, false, false] rfl rfl (one_of HT_.out (by kernel_rfl)) (by decide) (fun K hK => ?_)
     refine goes_ Try.func15 (by kernel_rfl) rfl #[.agg #[.int .i64 a1_0, .int .i64 a1_1]] (by rfl) rfl rfl (by (try simp only [mA, mC, mN]); first | done | rfl) ?_
     with_reducible refine (laws_toFraction.calls a1_0 a1_1 t159 t160 _ A4.out).mono ?_
     rintro e w44 ⟨rfl, hb⟩
     refine ⟨_, rfl, ?_⟩
     have n0_ := aK (bB (by (with_reducible repeat (first | refine bN ?_ _ | refine bD ?_ | refine bA ?_ _)); exact BK155.out) hb)
     have n1_ := aK (bB (by (with_reducible repeat (first | refine bN ?_ _ | refine bD ?_ | refine bA ?_ _)); exact BK156.out) hb)
     have n2_ := aK (bB (by (with_reducible repeat (first | refine bN ?_ _ | refine bD ?_ | refine bA ?_ _)); exact BK164.out) hb)
     have n3_ := aK (below_step (by repeat (first | (with_reducible first | exact HB.out | apply bL | apply bM | apply b1 | refine bS ?_ GE155.out | refine bS ?_ GE156.out | refine bS ?_ GE164.out) | exact HB.out)) hb)
     clear BK155
     clear BK156
     clear BK164
     clear HB
     have BK155 := n0_
     have BK156 := n1_
     have BK164 := n2_
     have HB := n3_
     clear n0_ n1_ n2_ n3_
     (try clear hb)
     (try clear hb2)
     (try clear hk)
     (try clear hi)
     refine hK.out _ _ ⟨(bC BK155.out 0).trans rfl, (bC BK155.out 1).trans rfl, (bC BK156.out 0).trans rfl, (bC BK156.out 1).trans rfl⟩ (fun hHeld => ?_)
     clear hK K
     refine norm_ (a' := ?_) ?_ ?_
     rotate_left
     ·show Act.put _ (some 13) _ = _
      simp only [Act.put, lA, l0', lS, i64_w, i32_w]
      rfl
     refine one_ (i := 4) (N := some 14) #[true, true, true, true, true, false, false, false, true, false, false] rfl rfl (one_of HT_.out (by kernel_rfl)) (by decide) (fun K hK => ?_)
     refine goes_ Try.func26 (by kernel_rfl) rfl #[.agg #[.int .i64 t157, .int .i64 t158], .agg #[.int .i64 t159, .int .i64 t160]] (by rfl) rfl rfl (by (try simp only [mA, mC, mN]); first | done | rfl) ?_
     with_reducible refine (spec_AddFractions.calls k t157 t158 t159 t160 t161 t162 t163 _ A5.out).mono ?_
     rintro e w45 ⟨rfl, hb⟩
     refine ⟨_, rfl, ?_⟩
     have n0_ := aK (bB (by (with_reducible repeat (first | refine bN ?_ _ | refine bD ?_ | refine bA ?_ _)); exact BK155.out) hb)
     have n1_ := aK (bB (by (with_reducible repeat (first | refine bN ?_ _ | refine bD ?_ | refine bA ?_ _)); exact BK156.out) hb)
     have n2_ := aK (bB (by (with_reducible repeat (first | refine bN ?_ _ | refine bD ?_ | refine bA ?_ _)); exact BK164.out) hb)
     have n3_ := aK (below_step (by repeat (first | (with_reducible first | exact HB.out | apply bL | apply bM | apply b1 | refine bS ?_ GE155.out | refine bS ?_ GE156.out | refine bS ?_ GE164.out) | exact HB.out)) hb)
     clear BK155
     clear BK156
     clear BK164
     clear HB
     have BK155 := n0_
     have BK156 := n1_
     have BK164 := n2_
     have HB := n3_
     clear n0_ n1_ n2_ n3_
     (try clear hb)
     (try clear hb2)
     (try clear hk)
     (try clear hi)
     refine hK.out _ _ ⟨(bC BK155.out 0).trans rfl, (bC BK155.out 1).trans rfl, (bC BK156.out 0).trans rfl, (bC BK156.out 1).trans rfl⟩ (fun hHeld => ?_)
     clear hK K
     refine norm_ (a' := ?_) ?_ ?_
     rotate_left
     ·show Act.put _ (some 14) _ = _
      simp only [Act.put, lA, l0', lS, i64_w, i32_w]
      rfl
     refine pure_ (i := 5) (N := some 9) (v := ?_) (a' := ?_) #[true, true, true, true, true, true, false, false, true, false, false] rfl rfl (any_of HT_.out (by kernel_rfl)) (fun _ _ _ h => h) (Or.inl ⟨by rfl, ?_⟩) ?_ ?_
     rotate_left
     ·intro w'
      go_simp
      with_reducible rfl
     rotate_left
     ·simp only [Act.put, lA, l0', lS, i64_w, i32_w]
      rfl
     refine pure_ (i := 6) (N := some 15) (v := ?_) (a' := ?_) #[true, true, true, true, true, true, true, false, true, false, false] rfl rfl (any_of HT_.out (by kernel_rfl)) (fun _ _ _ h => h) (Or.inl ⟨by rfl, ?_⟩) ?_ ?_
     rotate_left
     ·intro w'
      go_simp
      with_reducible rfl
     rotate_left
     ·simp only [Act.put, lA, l0', lS, i64_w, i32_w]
      rfl
     refine pure_ (i := 7) (N := some 16) (v := ?_) (a' := ?_) #[true, true, true, true, true, true, true, true, true, false, false] rfl rfl (any_of HT_.out (by kernel_rfl)) (fun _ _ _ h => h) (Or.inl ⟨by rfl, ?_⟩) ?_ ?_
     rotate_left
     ·intro w'
      go_simp
      with_reducible rfl
     rotate_left
     ·simp only [Act.put, lA, l0', lS, i64_w, i32_w]
      rfl
     exact norm_ (by simp only [putAll, Act.put, lA, l0', lS]) (hCont (gb164) _ ⟨hHeld, (by (with_reducible repeat (first | refine bN ?_ _ | refine bD ?_ | refine bA ?_ _)); exact BK155.out), (by (with_reducible repeat (first | refine bN ?_ _ | refine bD ?_ | refine bA ?_ _)); exact BK156.out), (by (with_reducible repeat (first | refine bN ?_ _ | refine bD ?_ | refine bA ?_ _)); exact BK164.out), GW164.out, GE164.out, NB155_164.out, NB164_155.out, NB156_164.out, NB164_156.out, (by repeat (first | (with_reducible first | exact HB.out | apply bL | apply bM | apply b1 | refine bS ?_ GE155.out | refine bS ?_ GE156.out | refine bS ?_ GE164.out) | exact HB.out))⟩)
   rintro gb164 w46 ⟨hS_, h0_, h1_, h2_, h3_, h4_, h5_, h6_, h7_, h8_, h9_⟩
   have n0_ : Aside0 (w46.heap[gb155]? = some (.cells #[.int .i64 a0_0, .int .i64 a0_1] 25 (0, 0))) := ⟨h0_⟩
   have n1_ : Aside0 (w46.heap[gb156]? = some (.cells #[.int .i64 a1_0, .int .i64 a1_1] 25 (0, 0))) := ⟨h1_⟩
   have n2_ : Aside0 (w46.heap[gb164]? = some (.cells #[.int .i64 0, .int .i64 0] 27 (0, 0))) := ⟨h2_⟩
   have n3_ : Aside0 (w.heap.size ≤ gb164) := ⟨h3_⟩
   have n4_ : Aside0 (w.heap.size ≤ gb164) := ⟨h4_⟩
   have n5_ : Aside0 (gb155 ≠ gb164) := ⟨h5_⟩
   have n6_ : Aside0 (gb164 ≠ gb155) := ⟨h6_⟩
   have n7_ : Aside0 (gb156 ≠ gb164) := ⟨h7_⟩
   have n8_ : Aside0 (gb164 ≠ gb156) := ⟨h8_⟩
   have n9_ : Aside0 (Below w.heap.size w w46) := ⟨h9_⟩
   clear BK155
   clear BK156
   clear HB
   clear h0_ h1_ h2_ h3_ h4_ h5_ h6_ h7_ h8_ h9_
   have BK155 := n0_
   have BK156 := n1_
   have BK164 := n2_
   have GW164 := n3_
   have GE164 := n4_
   have NB155_164 := n5_
   have NB164_155 := n6_
   have NB156_164 := n7_
   have NB164_156 := n8_
   have HB := n9_
   clear n0_ n1_ n2_ n3_ n4_ n5_ n6_ n7_ n8_ n9_
   have hHeld : w46.cell? ⟨gb155, 0, none⟩ = some (.int .i64 a0_0) ∧ w46.cell? ⟨gb155, 1, none⟩ = some (.int .i64 a0_1) ∧ w46.cell? ⟨gb156, 0, none⟩ = some (.int .i64 a1_0) ∧ w46.cell? ⟨gb156, 1, none⟩ = some (.int .i64 a1_1) := hS_
   refine norm_ (a' := ?_) ?_ ?_
   rotate_left
   ·simp only [putAll, Act.put, lA, l0', lS]
    rfl
   refine one_ (i := 9) (N := none) #[true, true, true, true, true, true, true, true, true, true, false] rfl rfl (one_of HT_.out (by kernel_rfl)) (by decide) (fun K hK => ?_)
   have hs47 : w46.cell? ⟨gb164, 0, none⟩ = some (.int .i64 0) := (bC BK164.out 0).trans rfl
   have hfs47 := blk_frozen BK164.out 0
   have hns47_0 := NB155_164.out
   have hns47_1 := NB156_164.out
   have hms47_0 := NB164_155.out
   have hms47_1 := NB164_156.out
   have hs48 : w46.cell? ⟨gb164, 1, none⟩ = some (.int .i64 0) := (bC BK164.out 1).trans rfl
   have hfs48 := blk_frozen BK164.out 1
   have hns48_0 := NB155_164.out
   have hns48_1 := NB156_164.out
   have hms48_0 := NB164_155.out
   have hms48_1 := NB164_156.out
   refine skip_ (w1 := ?_) (by rfl) rfl ?_ ?_
   rotate_left
   ·go_simp
    rfl
   refine hK.out _ _ ⟨((cell_far (p := ⟨gb164, _, none⟩) NB155_164.out _).trans (((cell_far (p := ⟨gb164, _, none⟩) NB155_164.out _).trans (hHeld.1)))), ((cell_far (p := ⟨gb164, _, none⟩) NB155_164.out _).trans (((cell_far (p := ⟨gb164, _, none⟩) NB155_164.out _).trans (hHeld.2.1)))), ((cell_far (p := ⟨gb164, _, none⟩) NB156_164.out _).trans (((cell_far (p := ⟨gb164, _, none⟩) NB156_164.out _).trans (hHeld.2.2.1)))), ((cell_far (p := ⟨gb164, _, none⟩) NB156_164.out _).trans (((cell_far (p := ⟨gb164, _, none⟩) NB156_164.out _).trans (hHeld.2.2.2))))⟩ (fun hHeld => ?_)
   clear hK K
   refine pure_ (i := 10) (N := some 6) (v := ?_) (a' := ?_) #[true, true, true, true, true, true, true, true, true, true, true] rfl rfl (any_of HT_.out (by kernel_rfl)) (fun _ _ _ h => h) (Or.inl ⟨by rfl, ?_⟩) ?_ ?_
   rotate_left
   ·intro w'
    go_simp
    with_reducible rfl
   rotate_left
   ·simp only [Act.put, lA, l0', lS, i64_w, i32_w]
    rfl
   refine done_ (done_of HT_.out (by kernel_rfl)) ?_
   try go_wp2
   have n0_ : Aside0 (((w46.setCell ⟨gb164, 0, none⟩ (.int .i64 t161)).setCell ⟨gb164, 1, none⟩ (.int .i64 t162)).heap[gb155]? = some (.cells #[.int .i64 a0_0, .int .i64 a0_1] 25 (0, 0))) := ⟨by (with_reducible repeat (first | refine bN ?_ _ | refine bD ?_ | refine bA ?_ _)); refine blk_far ?_ NB155_164.out _; (with_reducible repeat (first | refine bN ?_ _ | refine bD ?_ | refine bA ?_ _)); refine blk_far ?_ NB155_164.out _; (with_reducible repeat (first | refine bN ?_ _ | refine bD ?_ | refine bA ?_ _)); exact BK155.out⟩
   have n1_ : Aside0 (((w46.setCell ⟨gb164, 0, none⟩ (.int .i64 t161)).setCell ⟨gb164, 1, none⟩ (.int .i64 t162)).heap[gb156]? = some (.cells #[.int .i64 a1_0, .int .i64 a1_1] 25 (0, 0))) := ⟨by (with_reducible repeat (first | refine bN ?_ _ | refine bD ?_ | refine bA ?_ _)); refine blk_far ?_ NB156_164.out _; (with_reducible repeat (first | refine bN ?_ _ | refine bD ?_ | refine bA ?_ _)); refine blk_far ?_ NB156_164.out _; (with_reducible repeat (first | refine bN ?_ _ | refine bD ?_ | refine bA ?_ _)); exact BK156.out⟩
   have n2_ : Aside0 (((w46.setCell ⟨gb164, 0, none⟩ (.int .i64 t161)).setCell ⟨gb164, 1, none⟩ (.int .i64 t162)).heap[gb164]? = some (.cells #[.int .i64 t161, .int .i64 t162] 27 (0, 0))) := ⟨by (with_reducible repeat (first | refine bN ?_ _ | refine bD ?_ | refine bA ?_ _)); refine blk_put (cs := #[.int .i64 t161, .int .i64 0]) ?_ 1 _ rfl; (with_reducible repeat (first | refine bN ?_ _ | refine bD ?_ | refine bA ?_ _)); refine blk_put (cs := #[.int .i64 0, .int .i64 0]) ?_ 0 _ rfl; (with_reducible repeat (first | refine bN ?_ _ | refine bD ?_ | refine bA ?_ _)); exact BK164.out⟩
   have n3_ : Aside0 (Below w.heap.size w ((w46.setCell ⟨gb164, 0, none⟩ (.int .i64 t161)).setCell ⟨gb164, 1, none⟩ (.int .i64 t162))) := ⟨by repeat (first | (with_reducible first | exact HB.out | apply bL | apply bM | apply b1 | refine bS ?_ GE155.out | refine bS ?_ GE156.out | refine bS ?_ GE164.out) | exact HB.out)⟩
   (try clear BK155)
   (try clear BK156)
   (try clear BK164)
   (try clear HB)
   generalize ((w46.setCell ⟨gb164, 0, none⟩ (.int .i64 t161)).setCell ⟨gb164, 1, none⟩ (.int .i64 t162)) = w49 at n0_ n1_ n2_ n3_ ⊢
   have BK155 := n0_
   have BK156 := n1_
   have BK164 := n2_
   have HB := n3_
   clear n0_ n1_ n2_ n3_
   have n0_ := aK (bD BK155.out)
   have n1_ := aK (bD BK156.out)
   have n2_ := aK (bD BK164.out)
   have n3_ := aK (b1 HB.out)
   clear BK155
   clear BK156
   clear BK164
   clear HB
   have BK155 := n0_
   have BK156 := n1_
   have BK164 := n2_
   have HB := n3_
   clear n0_ n1_ n2_ n3_
   refine start_ (n := 11) (S := fun w' => w'.cell? ⟨gb155, 0, none⟩ = some (.int .i64 a0_0) ∧ w'.cell? ⟨gb155, 1, none⟩ = some (.int .i64 a0_1) ∧ w'.cell? ⟨gb156, 0, none⟩ = some (.int .i64 a1_0) ∧ w'.cell? ⟨gb156, 1, none⟩ = some (.int .i64 a1_1)) (ds := []) #[false, false, false, false, false, false, false, false, false, false, false] (by kernel_rfl) rfl rfl ⟨(bC BK155.out 0).trans rfl, (bC BK155.out 1).trans rfl, (bC BK156.out 0).trans rfl, (bC BK156.out 1).trans rfl⟩ (fun hHeld => ?_); refine with_tabW laws_FnExactAddFractions.tab2 laws_FnExactAddFractions.bits2 (fun HT_ HW_ => ?_)
   generalize w49.drew = w50 at BK155 BK156 BK164 HB hHeld ⊢
   refine take_ (i := 0) (N := some 18) (v := ?_) (a' := ?_) #[true, false, false, false, false, false, false, false, false, false, false] rfl rfl (take_ofW HT_.out HW_.out (by kernel_rfl)) (fun _ _ _ h => h) (Or.inl ⟨by rfl, ?_⟩) hHeld ?_ ?_
   rotate_left
   ·rintro w' ⟨s0, s1, s2, s3⟩
    go_simp
    with_reducible rfl
   rotate_left
   ·simp only [Act.put, lA, l0', lS, i64_w, i32_w]
    rfl
   refine take_ (i := 2) (N := some 20) (v := ?_) (a' := ?_) #[true, false, true, false, false, false, false, false, false, false, false] rfl rfl (take_ofW HT_.out HW_.out (by kernel_rfl)) (fun _ _ _ h => h) (Or.inl ⟨by rfl, ?_⟩) hHeld ?_ ?_
   rotate_left
   ·rintro w' ⟨s0, s1, s2, s3⟩
    go_simp
    with_reducible rfl
   rotate_left
   ·simp only [Act.put, lA, l0', lS, i64_w, i32_w]
    rfl
   refine join_ (σ := Nat) 2 #[true, true, true, true, true, true, true, true, true, false, false] (fun s_ => [(19, .agg #[.int .i64 t165, .int .i64 t166]), (21, .agg #[.int .i64 t167, .int .i64 t168]), (22, .tuple #[.agg #[.int .i64 t169, .int .i64 t170], .int .i64 t171]), (7, .pointer (some ⟨s_, 0, none⟩)), (17, .tuple #[.agg #[.int .i64 t169, .int .i64 t170], .int .i64 t171]), (23, .agg #[.int .i64 t169, .int .i64 t170]), (24, .int .i64 t171)]) (fun s_ w' => (w'.cell? ⟨gb155, 0, none⟩ = some (.int .i64 a0_0) ∧ w'.cell? ⟨gb155, 1, none⟩ = some (.int .i64 a0_1) ∧ w'.cell? ⟨gb156, 0, none⟩ = some (.int .i64 a1_0) ∧ w'.cell? ⟨gb156, 1, none⟩ = some (.int .i64 a1_1)) ∧ (w'.heap[gb155]? = some (.cells #[.int .i64 a0_0, .int .i64 a0_1] 25 (0, 0))) ∧ (w'.heap[gb156]? = some (.cells #[.int .i64 a1_0, .int .i64 a1_1] 25 (0, 0))) ∧ (w'.heap[gb164]? = some (.cells #[.int .i64 t161, .int .i64 t162] 27 (0, 0))) ∧ (w'.heap[s_]? = some (.cells #[.int .i64 0, .int .i64 0] 27 (0, 0))) ∧ (w.heap.size ≤ s_) ∧ (w.heap.size ≤ s_) ∧ (gb155 ≠ s_) ∧ (s_ ≠ gb155) ∧ (gb156 ≠ s_) ∧ (s_ ≠ gb156) ∧ (gb164 ≠ s_) ∧ (s_ ≠ gb164) ∧ (Below w.heap.size w w')) ?_ ?_
   rotate_left
   ·intro hCont
    refine two_ (i := 1) (j := 8) (Ni := some 19) (Nj := some 7) #[true, true, true, false, false, false, false, false, false, false, false] #[true, false, true, false, false, false, false, false, true, false, false] rfl rfl rfl rfl (two_of HT_.out (by kernel_rfl)) (by decide) (by decide) (fun K hK => ?_) (fun K hK => ?_)
    ·skip
     refine goes_ Try.func15 (by kernel_rfl) rfl #[.agg #[.int .i64 a0_0, .int .i64 a0_1]] (by rfl) rfl rfl (by (try simp only [mA, mC, mN]); first | done | rfl) ?_
     with_reducible refine (laws_toFraction.calls a0_0 a0_1 t165 t166 _ A6.out).mono ?_
     rintro e w51 ⟨rfl, hb⟩
     refine ⟨_, rfl, ?_⟩
     have n0_ := aK (bB (by (with_reducible repeat (first | refine bN ?_ _ | refine bD ?_ | refine bA ?_ _)); exact BK155.out) hb)
     have n1_ := aK (bB (by (with_reducible repeat (first | refine bN ?_ _ | refine bD ?_ | refine bA ?_ _)); exact BK156.out) hb)
     have n2_ := aK (bB (by (with_reducible repeat (first | refine bN ?_ _ | refine bD ?_ | refine bA ?_ _)); exact BK164.out) hb)
     have n3_ := aK (below_step (by repeat (first | (with_reducible first | exact HB.out | apply bL | apply bM | apply b1 | refine bS ?_ GE155.out | refine bS ?_ GE156.out | refine bS ?_ GE164.out) | exact HB.out)) hb)
     clear BK155
     clear BK156
     clear BK164
     clear HB
     have BK155 := n0_
     have BK156 := n1_
     have BK164 := n2_
     have HB := n3_
     clear n0_ n1_ n2_ n3_
     (try clear hb)
     (try clear hb2)
     (try clear hk)
     (try clear hi)
     refine hK.out _ _ ⟨(bC BK155.out 0).trans rfl, (bC BK155.out 1).trans rfl, (bC BK156.out 0).trans rfl, (bC BK156.out 1).trans rfl⟩ (fun hHeld => ?_)
     clear hK K
     refine norm_ (a' := ?_) ?_ ?_
     rotate_left
     ·show Act.put _ (some 19) _ = _
      simp only [Act.put, lA, l0', lS, i64_w, i32_w]
      rfl
     refine two_ (i := 3) (j := 8) (Ni := some 21) (Nj := some 7) #[true, true, true, true, false, false, false, false, false, false, false] #[true, true, true, false, false, false, false, false, true, false, false] rfl rfl rfl rfl (two_of HT_.out (by kernel_rfl)) (by decide) (by decide) (fun K hK => ?_) (fun K hK => ?_)
     ·skip
      refine goes_ Try.func15 (by kernel_rfl) rfl #[.agg #[.int .i64 a1_0, .int .i64 a1_1]] (by rfl) rfl rfl (by (try simp only [mA, mC, mN]); first | done | rfl) ?_
      with_reducible refine (laws_toFraction.calls a1_0 a1_1 t167 t168 _ A7.out).mono ?_
      rintro e w52 ⟨rfl, hb⟩
      refine ⟨_, rfl, ?_⟩
      have n0_ := aK (bB (by (with_reducible repeat (first | refine bN ?_ _ | refine bD ?_ | refine bA ?_ _)); exact BK155.out) hb)
      have n1_ := aK (bB (by (with_reducible repeat (first | refine bN ?_ _ | refine bD ?_ | refine bA ?_ _)); exact BK156.out) hb)
      have n2_ := aK (bB (by (with_reducible repeat (first | refine bN ?_ _ | refine bD ?_ | refine bA ?_ _)); exact BK164.out) hb)
      have n3_ := aK (below_step (by repeat (first | (with_reducible first | exact HB.out | apply bL | apply bM | apply b1 | refine bS ?_ GE155.out | refine bS ?_ GE156.out | refine bS ?_ GE164.out) | exact HB.out)) hb)
      clear BK155
      clear BK156
      clear BK164
      clear HB
      have BK155 := n0_
      have BK156 := n1_
      have BK164 := n2_
      have HB := n3_
      clear n0_ n1_ n2_ n3_
      (try clear hb)
      (try clear hb2)
      (try clear hk)
      (try clear hi)
      refine hK.out _ _ ⟨(bC BK155.out 0).trans rfl, (bC BK155.out 1).trans rfl, (bC BK156.out 0).trans rfl, (bC BK156.out 1).trans rfl⟩ (fun hHeld => ?_)
      clear hK K
      refine norm_ (a' := ?_) ?_ ?_
      rotate_left
      ·show Act.put _ (some 21) _ = _
       simp only [Act.put, lA, l0', lS, i64_w, i32_w]
       rfl
      refine two_ (i := 4) (j := 8) (Ni := some 22) (Nj := some 7) #[true, true, true, true, true, false, false, false, false, false, false] #[true, true, true, true, false, false, false, false, true, false, false] rfl rfl rfl rfl (two_of HT_.out (by kernel_rfl)) (by decide) (by decide) (fun K hK => ?_) (fun K hK => ?_)
      ·skip
       refine goes_ Try.func27 (by kernel_rfl) rfl #[.agg #[.int .i64 t165, .int .i64 t166], .agg #[.int .i64 t167, .int .i64 t168]] (by rfl) rfl rfl (by (try simp only [mA, mC, mN]); first | done | rfl) ?_
       with_reducible refine (impl_AddFractions.calls k t165 t166 t167 t168 t169 t170 t171 _ A8.out).mono ?_
       rintro e w53 ⟨rfl, hb⟩
       refine ⟨_, rfl, ?_⟩
       have n0_ := aK (bB (by (with_reducible repeat (first | refine bN ?_ _ | refine bD ?_ | refine bA ?_ _)); exact BK155.out) hb)
       have n1_ := aK (bB (by (with_reducible repeat (first | refine bN ?_ _ | refine bD ?_ | refine bA ?_ _)); exact BK156.out) hb)
       have n2_ := aK (bB (by (with_reducible repeat (first | refine bN ?_ _ | refine bD ?_ | refine bA ?_ _)); exact BK164.out) hb)
       have n3_ := aK (below_step (by repeat (first | (with_reducible first | exact HB.out | apply bL | apply bM | apply b1 | refine bS ?_ GE155.out | refine bS ?_ GE156.out | refine bS ?_ GE164.out) | exact HB.out)) hb)
       clear BK155
       clear BK156
       clear BK164
       clear HB
       have BK155 := n0_
       have BK156 := n1_
       have BK164 := n2_
       have HB := n3_
       clear n0_ n1_ n2_ n3_
       (try clear hb)
       (try clear hb2)
       (try clear hk)
       (try clear hi)
       refine hK.out _ _ ⟨(bC BK155.out 0).trans rfl, (bC BK155.out 1).trans rfl, (bC BK156.out 0).trans rfl, (bC BK156.out 1).trans rfl⟩ (fun hHeld => ?_)
       clear hK K
       refine norm_ (a' := ?_) ?_ ?_
       rotate_left
       ·show Act.put _ (some 22) _ = _
        simp only [Act.put, lA, l0', lS, i64_w, i32_w]
        rfl
       refine pure_ (i := 5) (N := some 17) (v := ?_) (a' := ?_) #[true, true, true, true, true, true, false, false, false, false, false] rfl rfl (any_of HT_.out (by kernel_rfl)) (fun _ _ _ h => h) (Or.inl ⟨by rfl, ?_⟩) ?_ ?_
       rotate_left
       ·intro w'
        go_simp
        with_reducible rfl
       rotate_left
       ·simp only [Act.put, lA, l0', lS, i64_w, i32_w]
        rfl
       refine pure_ (i := 6) (N := some 23) (v := ?_) (a' := ?_) #[true, true, true, true, true, true, true, false, false, false, false] rfl rfl (any_of HT_.out (by kernel_rfl)) (fun _ _ _ h => h) (Or.inl ⟨by rfl, ?_⟩) ?_ ?_
       rotate_left
       ·intro w'
        go_simp
        with_reducible rfl
       rotate_left
       ·simp only [Act.put, lA, l0', lS, i64_w, i32_w]
        rfl
       refine pure_ (i := 7) (N := some 24) (v := ?_) (a' := ?_) #[true, true, true, true, true, true, true, true, false, false, false] rfl rfl (any_of HT_.out (by kernel_rfl)) (fun _ _ _ h => h) (Or.inl ⟨by rfl, ?_⟩) ?_ ?_
       rotate_left
       ·intro w'
        go_simp
        with_reducible rfl
       rotate_left
       ·simp only [Act.put, lA, l0', lS, i64_w, i32_w]
        rfl
       refine one_ (i := 8) (N := some 7) #[true, true, true, true, true, true, true, true, true, false, false] rfl rfl (one_of HT_.out (by kernel_rfl)) (by decide) (fun K hK => ?_)
       refine box_step ?hg (N := 7) ?hd (cs := #[.int .i64 0, .int .i64 0]) (t := 27) ?hr ?_; (case hd => rfl); (case hg => rfl); (case hr => first | (go_simp; done) | (go_simp; rfl))
       intro gb172 hg w54 hbox hb
       have n0_ := aK (bB (by (with_reducible repeat (first | refine bN ?_ _ | refine bD ?_ | refine bA ?_ _)); exact BK155.out) hb)
       have n1_ := aK (bB (by (with_reducible repeat (first | refine bN ?_ _ | refine bD ?_ | refine bA ?_ _)); exact BK156.out) hb)
       have n2_ := aK (bB (by (with_reducible repeat (first | refine bN ?_ _ | refine bD ?_ | refine bA ?_ _)); exact BK164.out) hb)
       have n3_ := aK (below_step (by repeat (first | (with_reducible first | exact HB.out | apply bL | apply bM | apply b1 | refine bS ?_ GE155.out | refine bS ?_ GE156.out | refine bS ?_ GE164.out) | exact HB.out)) hb)
       have n4_ := aK (hbox)
       have n5_ := aK ((by rw [hg]; exact (below_size (by repeat (first | (with_reducible first | exact HB.out | apply bL | apply bM | apply b1 | refine bS ?_ GE155.out | refine bS ?_ GE156.out | refine bS ?_ GE164.out) | exact HB.out))) : w.heap.size ≤ gb172))
       have n6_ := aK ((by rw [hg]; exact (below_size (by repeat (first | (with_reducible first | exact HB.out | apply bL | apply bM | apply b1 | refine bS ?_ GE155.out | refine bS ?_ GE156.out | refine bS ?_ GE164.out) | exact HB.out))) : w.heap.size ≤ gb172))
       have n7_ := aK ((by rw [hg]; exact Nat.ne_of_lt (blk_lt (by (with_reducible repeat (first | refine bN ?_ _ | refine bD ?_ | refine bA ?_ _)); exact BK155.out)) : gb155 ≠ gb172))
       have n8_ := aK ((by rw [hg]; exact Nat.ne_of_gt (blk_lt (by (with_reducible repeat (first | refine bN ?_ _ | refine bD ?_ | refine bA ?_ _)); exact BK155.out)) : gb172 ≠ gb155))
       have n9_ := aK ((by rw [hg]; exact Nat.ne_of_lt (blk_lt (by (with_reducible repeat (first | refine bN ?_ _ | refine bD ?_ | refine bA ?_ _)); exact BK156.out)) : gb156 ≠ gb172))
       have n10_ := aK ((by rw [hg]; exact Nat.ne_of_gt (blk_lt (by (with_reducible repeat (first | refine bN ?_ _ | refine bD ?_ | refine bA ?_ _)); exact BK156.out)) : gb172 ≠ gb156))
       have n11_ := aK ((by rw [hg]; exact Nat.ne_of_lt (blk_lt (by (with_reducible repeat (first | refine bN ?_ _ | refine bD ?_ | refine bA ?_ _)); exact BK164.out)) : gb164 ≠ gb172))
       have n12_ := aK ((by rw [hg]; exact Nat.ne_of_gt (blk_lt (by (with_reducible repeat (first | refine bN ?_ _ | refine bD ?_ | refine bA ?_ _)); exact BK164.out)) : gb172 ≠ gb164))
       clear BK155
       clear BK156
       clear BK164
       clear HB
       have BK155 := n0_
       have BK156 := n1_
       have BK164 := n2_
       have HB := n3_
       have BK172 := n4_
       have GW172 := n5_
       have GE172 := n6_
       have NB155_172 := n7_
       have NB172_155 := n8_
       have NB156_172 := n9_
       have NB172_156 := n10_
       have NB164_172 := n11_
       have NB172_164 := n12_
       clear n0_ n1_ n2_ n3_ n4_ n5_ n6_ n7_ n8_ n9_ n10_ n11_ n12_
       clear hb hbox hg
       refine hK.out _ _ ⟨(bC BK155.out 0).trans rfl, (bC BK155.out 1).trans rfl, (bC BK156.out 0).trans rfl, (bC BK156.out 1).trans rfl⟩ (fun hHeld => ?_)
       clear hK K
       refine norm_ (a' := ?_) ?_ ?_
       rotate_left
       ·show Act.put _ (some 7) _ = _
        simp only [Act.put, lA, l0', lS, i64_w, i32_w]
        rfl
       exact norm_ (by simp only [putAll, Act.put, lA, l0', lS]) (hCont (gb172) _ ⟨hHeld, (by (with_reducible repeat (first | refine bN ?_ _ | refine bD ?_ | refine bA ?_ _)); exact BK155.out), (by (with_reducible repeat (first | refine bN ?_ _ | refine bD ?_ | refine bA ?_ _)); exact BK156.out), (by (with_reducible repeat (first | refine bN ?_ _ | refine bD ?_ | refine bA ?_ _)); exact BK164.out), (by (with_reducible repeat (first | refine bN ?_ _ | refine bD ?_ | refine bA ?_ _)); exact BK172.out), GW172.out, GE172.out, NB155_172.out, NB172_155.out, NB156_172.out, NB172_156.out, NB164_172.out, NB172_164.out, (by repeat (first | (with_reducible first | exact HB.out | apply bL | apply bM | apply b1 | refine bS ?_ GE155.out | refine bS ?_ GE156.out | refine bS ?_ GE164.out | refine bS ?_ GE172.out) | exact HB.out))⟩)
      ·skip
       refine box_step ?hg (N := 7) ?hd (cs := #[.int .i64 0, .int .i64 0]) (t := 27) ?hr ?_; (case hd => rfl); (case hg => rfl); (case hr => first | (go_simp; done) | (go_simp; rfl))
       intro gb172 hg w53 hbox hb
       have n0_ := aK (bB (by (with_reducible repeat (first | refine bN ?_ _ | refine bD ?_ | refine bA ?_ _)); exact BK155.out) hb)
       have n1_ := aK (bB (by (with_reducible repeat (first | refine bN ?_ _ | refine bD ?_ | refine bA ?_ _)); exact BK156.out) hb)
       have n2_ := aK (bB (by (with_reducible repeat (first | refine bN ?_ _ | refine bD ?_ | refine bA ?_ _)); exact BK164.out) hb)
       have n3_ := aK (below_step (by repeat (first | (with_reducible first | exact HB.out | apply bL | apply bM | apply b1 | refine bS ?_ GE155.out | refine bS ?_ GE156.out | refine bS ?_ GE164.out) | exact HB.out)) hb)
       have n4_ := aK (hbox)
       have n5_ := aK ((by rw [hg]; exact (below_size (by repeat (first | (with_reducible first | exact HB.out | apply bL | apply bM | apply b1 | refine bS ?_ GE155.out | refine bS ?_ GE156.out | refine bS ?_ GE164.out) | exact HB.out))) : w.heap.size ≤ gb172))
       have n6_ := aK ((by rw [hg]; exact (below_size (by repeat (first | (with_reducible first | exact HB.out | apply bL | apply bM | apply b1 | refine bS ?_ GE155.out | refine bS ?_ GE156.out | refine bS ?_ GE164.out) | exact HB.out))) : w.heap.size ≤ gb172))
       have n7_ := aK ((by rw [hg]; exact Nat.ne_of_lt (blk_lt (by (with_reducible repeat (first | refine bN ?_ _ | refine bD ?_ | refine bA ?_ _)); exact BK155.out)) : gb155 ≠ gb172))
       have n8_ := aK ((by rw [hg]; exact Nat.ne_of_gt (blk_lt (by (with_reducible repeat (first | refine bN ?_ _ | refine bD ?_ | refine bA ?_ _)); exact BK155.out)) : gb172 ≠ gb155))
       have n9_ := aK ((by rw [hg]; exact Nat.ne_of_lt (blk_lt (by (with_reducible repeat (first | refine bN ?_ _ | refine bD ?_ | refine bA ?_ _)); exact BK156.out)) : gb156 ≠ gb172))
       have n10_ := aK ((by rw [hg]; exact Nat.ne_of_gt (blk_lt (by (with_reducible repeat (first | refine bN ?_ _ | refine bD ?_ | refine bA ?_ _)); exact BK156.out)) : gb172 ≠ gb156))
       have n11_ := aK ((by rw [hg]; exact Nat.ne_of_lt (blk_lt (by (with_reducible repeat (first | refine bN ?_ _ | refine bD ?_ | refine bA ?_ _)); exact BK164.out)) : gb164 ≠ gb172))
       have n12_ := aK ((by rw [hg]; exact Nat.ne_of_gt (blk_lt (by (with_reducible repeat (first | refine bN ?_ _ | refine bD ?_ | refine bA ?_ _)); exact BK164.out)) : gb172 ≠ gb164))
       clear BK155
       clear BK156
       clear BK164
       clear HB
       have BK155 := n0_
       have BK156 := n1_
       have BK164 := n2_
       have HB := n3_
       have BK172 := n4_
       have GW172 := n5_
       have GE172 := n6_
       have NB155_172 := n7_
       have NB172_155 := n8_
       have NB156_172 := n9_
       have NB172_156 := n10_
       have NB164_172 := n11_
       have NB172_164 := n12_
       clear n0_ n1_ n2_ n3_ n4_ n5_ n6_ n7_ n8_ n9_ n10_ n11_ n12_
       clear hb hbox hg
       refine hK.out _ _ ⟨(bC BK155.out 0).trans rfl, (bC BK155.out 1).trans rfl, (bC BK156.out 0).trans rfl, (bC BK156.out 1).trans rfl⟩ (fun hHeld => ?_)
       clear hK K
       refine norm_ (a' := ?_) ?_ ?_
       rotate_left
       ·show Act.put _ (some 7) _ = _
        simp only [Act.put, lA, l0', lS, i64_w, i32_w]
        rfl
       refine one_ (i := 4) (N := some 22) #[true, true, true, true, true, false, false, false, true, false, false] rfl rfl (one_of HT_.out (by kernel_rfl)) (by decide) (fun K hK => ?_)
       refine goes_ Try.func27 (by kernel_rfl) rfl #[.agg #[.int .i64 t165, .int .i64 t166], .agg #[.int .i64 t167, .int .i64 t168]] (by rfl) rfl rfl (by (try simp only [mA, mC, mN]); first | done | rfl) ?_
       with_reducible refine (impl_AddFractions.calls k t165 t166 t167 t168 t169 t170 t171 _ A8.out).mono ?_
       rintro e w54 ⟨rfl, hb⟩
       refine ⟨_, rfl, ?_⟩
       have n0_ := aK (bB (by (with_reducible repeat (first | refine bN ?_ _ | refine bD ?_ | refine bA ?_ _)); exact BK155.out) hb)
       have n1_ := aK (bB (by (with_reducible repeat (first | refine bN ?_ _ | refine bD ?_ | refine bA ?_ _)); exact BK156.out) hb)
       have n2_ := aK (bB (by (with_reducible repeat (first | refine bN ?_ _ | refine bD ?_ | refine bA ?_ _)); exact BK164.out) hb)
       have n3_ := aK (bB (by (with_reducible repeat (first | refine bN ?_ _ | refine bD ?_ | refine bA ?_ _)); exact BK172.out) hb)
       have n4_ := aK (below_step (by repeat (first | (with_reducible first | exact HB.out | apply bL | apply bM | apply b1 | refine bS ?_ GE155.out | refine bS ?_ GE156.out | refine bS ?_ GE164.out | refine bS ?_ GE172.out) | exact HB.out)) hb)
       clear BK155
       clear BK156
       clear BK164
       clear BK172
       clear HB
       have BK155 := n0_
       have BK156 := n1_
       have BK164 := n2_
       have BK172 := n3_
       have HB := n4_
       clear n0_ n1_ n2_ n3_ n4_
       (try clear hb)
       (try clear hb2)
       (try clear hk)
       (try clear hi)
       refine hK.out _ _ ⟨(bC BK155.out 0).trans rfl, (bC BK155.out 1).trans rfl, (bC BK156.out 0).trans rfl, (bC BK156.out 1).trans rfl⟩ (fun hHeld => ?_)
       clear hK K
       refine norm_ (a' := ?_) ?_ ?_
       rotate_left
       ·show Act.put _ (some 22) _ = _
        simp only [Act.put, lA, l0', lS, i64_w, i32_w]
        rfl
       refine pure_ (i := 5) (N := some 17) (v := ?_) (a' := ?_) #[true, true, true, true, true, true, false, false, true, false, false] rfl rfl (any_of HT_.out (by kernel_rfl)) (fun _ _ _ h => h) (Or.inl ⟨by rfl, ?_⟩) ?_ ?_
       rotate_left
       ·intro w'
        go_simp
        with_reducible rfl
       rotate_left
       ·simp only [Act.put, lA, l0', lS, i64_w, i32_w]
        rfl
       refine pure_ (i := 6) (N := some 23) (v := ?_) (a' := ?_) #[true, true, true, true, true, true, true, false, true, false, false] rfl rfl (any_of HT_.out (by kernel_rfl)) (fun _ _ _ h => h) (Or.inl ⟨by rfl, ?_⟩) ?_ ?_
       rotate_left
       ·intro w'
        go_simp
        with_reducible rfl
       rotate_left
       ·simp only [Act.put, lA, l0', lS, i64_w, i32_w]
        rfl
       refine pure_ (i := 7) (N := some 24) (v := ?_) (a' := ?_) #[true, true, true, true, true, true, true, true, true, false, false] rfl rfl (any_of HT_.out (by kernel_rfl)) (fun _ _ _ h => h) (Or.inl ⟨by rfl, ?_⟩) ?_ ?_
       rotate_left
       ·intro w'
        go_simp
        with_reducible rfl
       rotate_left
       ·simp only [Act.put, lA, l0', lS, i64_w, i32_w]
        rfl
       exact norm_ (by simp only [putAll, Act.put, lA, l0', lS]) (hCont (gb172) _ ⟨hHeld, (by (with_reducible repeat (first | refine bN ?_ _ | refine bD ?_ | refine bA ?_ _)); exact BK155.out), (by (with_reducible repeat (first | refine bN ?_ _ | refine bD ?_ | refine bA ?_ _)); exact BK156.out), (by (with_reducible repeat (first | refine bN ?_ _ | refine bD ?_ | refine bA ?_ _)); exact BK164.out), (by (with_reducible repeat (first | refine bN ?_ _ | refine bD ?_ | refine bA ?_ _)); exact BK172.out), GW172.out, GE172.out, NB155_172.out, NB172_155.out, NB156_172.out, NB172_156.out, NB164_172.out, NB172_164.out, (by repeat (first | (with_reducible first | exact HB.out | apply bL | apply bM | apply b1 | refine bS ?_ GE155.out | refine bS ?_ GE156.out | refine bS ?_ GE164.out | refine bS ?_ GE172.out) | exact HB.out))⟩)
     ·skip
      refine box_step ?hg (N := 7) ?hd (cs := #[.int .i64 0, .int .i64 0]) (t := 27) ?hr ?_; (case hd => rfl); (case hg => rfl); (case hr => first | (go_simp; done) | (go_simp; rfl))
      intro gb172 hg w52 hbox hb
      have n0_ := aK (bB (by (with_reducible repeat (first | refine bN ?_ _ | refine bD ?_ | refine bA ?_ _)); exact BK155.out) hb)
      have n1_ := aK (bB (by (with_reducible repeat (first | refine bN ?_ _ | refine bD ?_ | refine bA ?_ _)); exact BK156.out) hb)
      have n2_ := aK (bB (by (with_reducible repeat (first | refine bN ?_ _ | refine bD ?_ | refine bA ?_ _)); exact BK164.out) hb)
      have n3_ := aK (below_step (by repeat (first | (with_reducible first | exact HB.out | apply bL | apply bM | apply b1 | refine bS ?_ GE155.out | refine bS ?_ GE156.out | refine bS ?_ GE164.out) | exact HB.out)) hb)
      have n4_ := aK (hbox)
      have n5_ := aK ((by rw [hg]; exact (below_size (by repeat (first | (with_reducible first | exact HB.out | apply bL | apply bM | apply b1 | refine bS ?_ GE155.out | refine bS ?_ GE156.out | refine bS ?_ GE164.out) | exact HB.out))) : w.heap.size ≤ gb172))
      have n6_ := aK ((by rw [hg]; exact (below_size (by repeat (first | (with_reducible first | exact HB.out | apply bL | apply bM | apply b1 | refine bS ?_ GE155.out | refine bS ?_ GE156.out | refine bS ?_ GE164.out) | exact HB.out))) : w.heap.size ≤ gb172))
      have n7_ := aK ((by rw [hg]; exact Nat.ne_of_lt (blk_lt (by (with_reducible repeat (first | refine bN ?_ _ | refine bD ?_ | refine bA ?_ _)); exact BK155.out)) : gb155 ≠ gb172))
      have n8_ := aK ((by rw [hg]; exact Nat.ne_of_gt (blk_lt (by (with_reducible repeat (first | refine bN ?_ _ | refine bD ?_ | refine bA ?_ _)); exact BK155.out)) : gb172 ≠ gb155))
      have n9_ := aK ((by rw [hg]; exact Nat.ne_of_lt (blk_lt (by (with_reducible repeat (first | refine bN ?_ _ | refine bD ?_ | refine bA ?_ _)); exact BK156.out)) : gb156 ≠ gb172))
      have n10_ := aK ((by rw [hg]; exact Nat.ne_of_gt (blk_lt (by (with_reducible repeat (first | refine bN ?_ _ | refine bD ?_ | refine bA ?_ _)); exact BK156.out)) : gb172 ≠ gb156))
      have n11_ := aK ((by rw [hg]; exact Nat.ne_of_lt (blk_lt (by (with_reducible repeat (first | refine bN ?_ _ | refine bD ?_ | refine bA ?_ _)); exact BK164.out)) : gb164 ≠ gb172))
      have n12_ := aK ((by rw [hg]; exact Nat.ne_of_gt (blk_lt (by (with_reducible repeat (first | refine bN ?_ _ | refine bD ?_ | refine bA ?_ _)); exact BK164.out)) : gb172 ≠ gb164))
      clear BK155
      clear BK156
      clear BK164
      clear HB
      have BK155 := n0_
      have BK156 := n1_
      have BK164 := n2_
      have HB := n3_
      have BK172 := n4_
      have GW172 := n5_
      have GE172 := n6_
      have NB155_172 := n7_
      have NB172_155 := n8_
      have NB156_172 := n9_
      have NB172_156 := n10_
      have NB164_172 := n11_
      have NB172_164 := n12_
      clear n0_ n1_ n2_ n3_ n4_ n5_ n6_ n7_ n8_ n9_ n10_ n11_ n12_
      clear hb hbox hg
      refine hK.out _ _ ⟨(bC BK155.out 0).trans rfl, (bC BK155.out 1).trans rfl, (bC BK156.out 0).trans rfl, (bC BK156.out 1).trans rfl⟩ (fun hHeld => ?_)
      clear hK K
      refine norm_ (a' := ?_) ?_ ?_
      rotate_left
      ·show Act.put _ (some 7) _ = _
       simp only [Act.put, lA, l0', lS, i64_w, i32_w]
       rfl
      refine one_ (i := 3) (N := some 21) #[true, true, true, true, false, false, false, false, true, false, false] rfl rfl (one_of HT_.out (by kernel_rfl)) (by decide) (fun K hK => ?_)
      refine goes_ Try.func15 (by kernel_rfl) rfl #[.agg #[.int .i64 a1_0, .int .i64 a1_1]] (by rfl) rfl rfl (by (try simp only [mA, mC, mN]); first | done | rfl) ?_
      with_reducible refine (laws_toFraction.calls a1_0 a1_1 t167 t168 _ A7.out).mono ?_
      rintro e w53 ⟨rfl, hb⟩
      refine ⟨_, rfl, ?_⟩
      have n0_ := aK (bB (by (with_reducible repeat (first | refine bN ?_ _ | refine bD ?_ | refine bA ?_ _)); exact BK155.out) hb)
      have n1_ := aK (bB (by (with_reducible repeat (first | refine bN ?_ _ | refine bD ?_ | refine bA ?_ _)); exact BK156.out) hb)
      have n2_ := aK (bB (by (with_reducible repeat (first | refine bN ?_ _ | refine bD ?_ | refine bA ?_ _)); exact BK164.out) hb)
      have n3_ := aK (bB (by (with_reducible repeat (first | refine bN ?_ _ | refine bD ?_ | refine bA ?_ _)); exact BK172.out) hb)
      have n4_ := aK (below_step (by repeat (first | (with_reducible first | exact HB.out | apply bL | apply bM | apply b1 | refine bS ?_ GE155.out | refine bS ?_ GE156.out | refine bS ?_ GE164.out | refine bS ?_ GE172.out) | exact HB.out)) hb)
      clear BK155
      clear BK156
      clear BK164
      clear BK172
      clear HB
      have BK155 := n0_
      have BK156 := n1_
      have BK164 := n2_
      have BK172 := n3_
      have HB := n4_
      clear n0_ n1_ n2_ n3_ n4_
      (try clear hb)
      (try clear hb2)
      (try clear hk)
      (try clear hi)
      refine hK.out _ _ ⟨(bC BK155.out 0).trans rfl, (bC BK155.out 1).trans rfl, (bC BK156.out 0).trans rfl, (bC BK156.out 1).trans rfl⟩ (fun hHeld => ?_)
      clear hK K
      refine norm_ (a' := ?_) ?_ ?_
      rotate_left
      ·show Act.put _ (some 21) _ = _
       simp only [Act.put, lA, l0', lS, i64_w, i32_w]
       rfl
      refine one_ (i := 4) (N := some 22) #[true, true, true, true, true, false, false, false, true, false, false] rfl rfl (one_of HT_.out (by kernel_rfl)) (by decide) (fun K hK => ?_)
      refine goes_ Try.func27 (by kernel_rfl) rfl #[.agg #[.int .i64 t165, .int .i64 t166], .agg #[.int .i64 t167, .int .i64 t168]] (by rfl) rfl rfl (by (try simp only [mA, mC, mN]); first | done | rfl) ?_
      with_reducible refine (impl_AddFractions.calls k t165 t166 t167 t168 t169 t170 t171 _ A8.out).mono ?_
      rintro e w54 ⟨rfl, hb⟩
      refine ⟨_, rfl, ?_⟩
      have n0_ := aK (bB (by (with_reducible repeat (first | refine bN ?_ _ | refine bD ?_ | refine bA ?_ _)); exact BK155.out) hb)
      have n1_ := aK (bB (by (with_reducible repeat (first | refine bN ?_ _ | refine bD ?_ | refine bA ?_ _)); exact BK156.out) hb)
      have n2_ := aK (bB (by (with_reducible repeat (first | refine bN ?_ _ | refine bD ?_ | refine bA ?_ _)); exact BK164.out) hb)
      have n3_ := aK (bB (by (with_reducible repeat (first | refine bN ?_ _ | refine bD ?_ | refine bA ?_ _)); exact BK172.out) hb)
      have n4_ := aK (below_step (by repeat (first | (with_reducible first | exact HB.out | apply bL | apply bM | apply b1 | refine bS ?_ GE155.out | refine bS ?_ GE156.out | refine bS ?_ GE164.out | refine bS ?_ GE172.out) | exact HB.out)) hb)
      clear BK155
      clear BK156
      clear BK164
      clear BK172
      clear HB
      have BK155 := n0_
      have BK156 := n1_
      have BK164 := n2_
      have BK172 := n3_
      have HB := n4_
      clear n0_ n1_ n2_ n3_ n4_
      (try clear hb)
      (try clear hb2)
      (try clear hk)
      (try clear hi)
      refine hK.out _ _ ⟨(bC BK155.out 0).trans rfl, (bC BK155.out 1).trans rfl, (bC BK156.out 0).trans rfl, (bC BK156.out 1).trans rfl⟩ (fun hHeld => ?_)
      clear hK K
      refine norm_ (a' := ?_) ?_ ?_
      rotate_left
      ·show Act.put _ (some 22) _ = _
       simp only [Act.put, lA, l0', lS, i64_w, i32_w]
       rfl
      refine pure_ (i := 5) (N := some 17) (v := ?_) (a' := ?_) #[true, true, true, true, true, true, false, false, true, false, false] rfl rfl (any_of HT_.out (by kernel_rfl)) (fun _ _ _ h => h) (Or.inl ⟨by rfl, ?_⟩) ?_ ?_
      rotate_left
      ·intro w'
       go_simp
       with_reducible rfl
      rotate_left
      ·simp only [Act.put, lA, l0', lS, i64_w, i32_w]
       rfl
      refine pure_ (i := 6) (N := some 23) (v := ?_) (a' := ?_) #[true, true, true, true, true, true, true, false, true, false, false] rfl rfl (any_of HT_.out (by kernel_rfl)) (fun _ _ _ h => h) (Or.inl ⟨by rfl, ?_⟩) ?_ ?_
      rotate_left
      ·intro w'
       go_simp
       with_reducible rfl
      rotate_left
      ·simp only [Act.put, lA, l0', lS, i64_w, i32_w]
       rfl
      refine pure_ (i := 7) (N := some 24) (v := ?_) (a' := ?_) #[true, true, true, true, true, true, true, true, true, false, false] rfl rfl (any_of HT_.out (by kernel_rfl)) (fun _ _ _ h => h) (Or.inl ⟨by rfl, ?_⟩) ?_ ?_
      rotate_left
      ·intro w'
       go_simp
       with_reducible rfl
      rotate_left
      ·simp only [Act.put, lA, l0', lS, i64_w, i32_w]
       rfl
      exact norm_ (by simp only [putAll, Act.put, lA, l0', lS]) (hCont (gb172) _ ⟨hHeld, (by (with_reducible repeat (first | refine bN ?_ _ | refine bD ?_ | refine bA ?_ _)); exact BK155.out), (by (with_reducible repeat (first | refine bN ?_ _ | refine bD ?_ | refine bA ?_ _)); exact BK156.out), (by (with_reducible repeat (first | refine bN ?_ _ | refine bD ?_ | refine bA ?_ _)); exact BK164.out), (by (with_reducible repeat (first | refine bN ?_ _ | refine bD ?_ | refine bA ?_ _)); exact BK172.out), GW172.out, GE172.out, NB155_172.out, NB172_155.out, NB156_172.out, NB172_156.out, NB164_172.out, NB172_164.out, (by repeat (first | (with_reducible first | exact HB.out | apply bL | apply bM | apply b1 | refine bS ?_ GE155.out | refine bS ?_ GE156.out | refine bS ?_ GE164.out | refine bS ?_ GE172.out) | exact HB.out))⟩)
    ·skip
     refine box_step ?hg (N := 7) ?hd (cs := #[.int .i64 0, .int .i64 0]) (t := 27) ?hr ?_; (case hd => rfl); (case hg => rfl); (case hr => first | (go_simp; done) | (go_simp; rfl))
     intro gb172 hg w51 hbox hb
     have n0_ := aK (bB (by (with_reducible repeat (first | refine bN ?_ _ | refine bD ?_ | refine bA ?_ _)); exact BK155.out) hb)
     have n1_ := aK (bB (by (with_reducible repeat (first | refine bN ?_ _ | refine bD ?_ | refine bA ?_ _)); exact BK156.out) hb)
     have n2_ := aK (bB (by (with_reducible repeat (first | refine bN ?_ _ | refine bD ?_ | refine bA ?_ _)); exact BK164.out) hb)
     have n3_ := aK (below_step (by repeat (first | (with_reducible first | exact HB.out | apply bL | apply bM | apply b1 | refine bS ?_ GE155.out | refine bS ?_ GE156.out | refine bS ?_ GE164.out) | exact HB.out)) hb)
     have n4_ := aK (hbox)
     have n5_ := aK ((by rw [hg]; exact (below_size (by repeat (first | (with_reducible first | exact HB.out | apply bL | apply bM | apply b1 | refine bS ?_ GE155.out | refine bS ?_ GE156.out | refine bS ?_ GE164.out) | exact HB.out))) : w.heap.size ≤ gb172))
     have n6_ := aK ((by rw [hg]; exact (below_size (by repeat (first | (with_reducible first | exact HB.out | apply bL | apply bM | apply b1 | refine bS ?_ GE155.out | refine bS ?_ GE156.out | refine bS ?_ GE164.out) | exact HB.out))) : w.heap.size ≤ gb172))
     have n7_ := aK ((by rw [hg]; exact Nat.ne_of_lt (blk_lt (by (with_reducible repeat (first | refine bN ?_ _ | refine bD ?_ | refine bA ?_ _)); exact BK155.out)) : gb155 ≠ gb172))
     have n8_ := aK ((by rw [hg]; exact Nat.ne_of_gt (blk_lt (by (with_reducible repeat (first | refine bN ?_ _ | refine bD ?_ | refine bA ?_ _)); exact BK155.out)) : gb172 ≠ gb155))
     have n9_ := aK ((by rw [hg]; exact Nat.ne_of_lt (blk_lt (by (with_reducible repeat (first | refine bN ?_ _ | refine bD ?_ | refine bA ?_ _)); exact BK156.out)) : gb156 ≠ gb172))
     have n10_ := aK ((by rw [hg]; exact Nat.ne_of_gt (blk_lt (by (with_reducible repeat (first | refine bN ?_ _ | refine bD ?_ | refine bA ?_ _)); exact BK156.out)) : gb172 ≠ gb156))
     have n11_ := aK ((by rw [hg]; exact Nat.ne_of_lt (blk_lt (by (with_reducible repeat (first | refine bN ?_ _ | refine bD ?_ | refine bA ?_ _)); exact BK164.out)) : gb164 ≠ gb172))
     have n12_ := aK ((by rw [hg]; exact Nat.ne_of_gt (blk_lt (by (with_reducible repeat (first | refine bN ?_ _ | refine bD ?_ | refine bA ?_ _)); exact BK164.out)) : gb172 ≠ gb164))
     clear BK155
     clear BK156
     clear BK164
     clear HB
     have BK155 := n0_
     have BK156 := n1_
     have BK164 := n2_
     have HB := n3_
     have BK172 := n4_
     have GW172 := n5_
     have GE172 := n6_
     have NB155_172 := n7_
     have NB172_155 := n8_
     have NB156_172 := n9_
     have NB172_156 := n10_
     have NB164_172 := n11_
     have NB172_164 := n12_
     clear n0_ n1_ n2_ n3_ n4_ n5_ n6_ n7_ n8_ n9_ n10_ n11_ n12_
     clear hb hbox hg
     refine hK.out _ _ ⟨(bC BK155.out 0).trans rfl, (bC BK155.out 1).trans rfl, (bC BK156.out 0).trans rfl, (bC BK156.out 1).trans rfl⟩ (fun hHeld => ?_)
     clear hK K
     refine norm_ (a' := ?_) ?_ ?_
     rotate_left
     ·show Act.put _ (some 7) _ = _
      simp only [Act.put, lA, l0', lS, i64_w, i32_w]
      rfl
     refine one_ (i := 1) (N := some 19) #[true, true, true, false, false, false, false, false, true, false, false] rfl rfl (one_of HT_.out (by kernel_rfl)) (by decide) (fun K hK => ?_)
     refine goes_ Try.func15 (by kernel_rfl) rfl #[.agg #[.int .i64 a0_0, .int .i64 a0_1]] (by rfl) rfl rfl (by (try simp only [mA, mC, mN]); first | done | rfl) ?_
     with_reducible refine (laws_toFraction.calls a0_0 a0_1 t165 t166 _ A6.out).mono ?_
     rintro e w52 ⟨rfl, hb⟩
     refine ⟨_, rfl, ?_⟩
     have n0_ := aK (bB (by (with_reducible repeat (first | refine bN ?_ _ | refine bD ?_ | refine bA ?_ _)); exact BK155.out) hb)
     have n1_ := aK (bB (by (with_reducible repeat (first | refine bN ?_ _ | refine bD ?_ | refine bA ?_ _)); exact BK156.out) hb)
     have n2_ := aK (bB (by (with_reducible repeat (first | refine bN ?_ _ | refine bD ?_ | refine bA ?_ _)); exact BK164.out) hb)
     have n3_ := aK (bB (by (with_reducible repeat (first | refine bN ?_ _ | refine bD ?_ | refine bA ?_ _)); exact BK172.out) hb)
     have n4_ := aK (below_step (by repeat (first | (with_reducible first | exact HB.out | apply bL | apply bM | apply b1 | refine bS ?_ GE155.out | refine bS ?_ GE156.out | refine bS ?_ GE164.out | refine bS ?_ GE172.out) | exact HB.out)) hb)
     clear BK155
     clear BK156
     clear BK164
     clear BK172
     clear HB
     have BK155 := n0_
     have BK156 := n1_
     have BK164 := n2_
     have BK172 := n3_
     have HB := n4_
     clear n0_ n1_ n2_ n3_ n4_
     (try clear hb)
     (try clear hb2)
     (try clear hk)
     (try clear hi)
     refine hK.out _ _ ⟨(bC BK155.out 0).trans rfl, (bC BK155.out 1).trans rfl, (bC BK156.out 0).trans rfl, (bC BK156.out 1).trans rfl⟩ (fun hHeld => ?_)
     clear hK K
     refine norm_ (a' := ?_) ?_ ?_
     rotate_left
     ·show Act.put _ (some 19) _ = _
      simp only [Act.put, lA, l0', lS, i64_w, i32_w]
      rfl
     refine one_ (i := 3) (N := some 21) #[true, true, true, true, false, false, false, false, true, false, false] rfl rfl (one_of HT_.out (by kernel_rfl)) (by decide) (fun K hK => ?_)
     refine goes_ Try.func15 (by kernel_rfl) rfl #[.agg #[.int .i64 a1_0, .int .i64 a1_1]] (by rfl) rfl rfl (by (try simp only [mA, mC, mN]); first | done | rfl) ?_
     with_reducible refine (laws_toFraction.calls a1_0 a1_1 t167 t168 _ A7.out).mono ?_
     rintro e w53 ⟨rfl, hb⟩
     refine ⟨_, rfl, ?_⟩
     have n0_ := aK (bB (by (with_reducible repeat (first | refine bN ?_ _ | refine bD ?_ | refine bA ?_ _)); exact BK155.out) hb)
     have n1_ := aK (bB (by (with_reducible repeat (first | refine bN ?_ _ | refine bD ?_ | refine bA ?_ _)); exact BK156.out) hb)
     have n2_ := aK (bB (by (with_reducible repeat (first | refine bN ?_ _ | refine bD ?_ | refine bA ?_ _)); exact BK164.out) hb)
     have n3_ := aK (bB (by (with_reducible repeat (first | refine bN ?_ _ | refine bD ?_ | refine bA ?_ _)); exact BK172.out) hb)
     have n4_ := aK (below_step (by repeat (first | (with_reducible first | exact HB.out | apply bL | apply bM | apply b1 | refine bS ?_ GE155.out | refine bS ?_ GE156.out | refine bS ?_ GE164.out | refine bS ?_ GE172.out) | exact HB.out)) hb)
     clear BK155
     clear BK156
     clear BK164
     clear BK172
     clear HB
     have BK155 := n0_
     have BK156 := n1_
     have BK164 := n2_
     have BK172 := n3_
     have HB := n4_
     clear n0_ n1_ n2_ n3_ n4_
     (try clear hb)
     (try clear hb2)
     (try clear hk)
     (try clear hi)
     refine hK.out _ _ ⟨(bC BK155.out 0).trans rfl, (bC BK155.out 1).trans rfl, (bC BK156.out 0).trans rfl, (bC BK156.out 1).trans rfl⟩ (fun hHeld => ?_)
     clear hK K
     refine norm_ (a' := ?_) ?_ ?_
     rotate_left
     ·show Act.put _ (some 21) _ = _
      simp only [Act.put, lA, l0', lS, i64_w, i32_w]
      rfl
     refine one_ (i := 4) (N := some 22) #[true, true, true, true, true, false, false, false, true, false, false] rfl rfl (one_of HT_.out (by kernel_rfl)) (by decide) (fun K hK => ?_)
     refine goes_ Try.func27 (by kernel_rfl) rfl #[.agg #[.int .i64 t165, .int .i64 t166], .agg #[.int .i64 t167, .int .i64 t168]] (by rfl) rfl rfl (by (try simp only [mA, mC, mN]); first | done | rfl) ?_
     with_reducible refine (impl_AddFractions.calls k t165 t166 t167 t168 t169 t170 t171 _ A8.out).mono ?_
     rintro e w54 ⟨rfl, hb⟩
     refine ⟨_, rfl, ?_⟩
     have n0_ := aK (bB (by (with_reducible repeat (first | refine bN ?_ _ | refine bD ?_ | refine bA ?_ _)); exact BK155.out) hb)
     have n1_ := aK (bB (by (with_reducible repeat (first | refine bN ?_ _ | refine bD ?_ | refine bA ?_ _)); exact BK156.out) hb)
     have n2_ := aK (bB (by (with_reducible repeat (first | refine bN ?_ _ | refine bD ?_ | refine bA ?_ _)); exact BK164.out) hb)
     have n3_ := aK (bB (by (with_reducible repeat (first | refine bN ?_ _ | refine bD ?_ | refine bA ?_ _)); exact BK172.out) hb)
     have n4_ := aK (below_step (by repeat (first | (with_reducible first | exact HB.out | apply bL | apply bM | apply b1 | refine bS ?_ GE155.out | refine bS ?_ GE156.out | refine bS ?_ GE164.out | refine bS ?_ GE172.out) | exact HB.out)) hb)
     clear BK155
     clear BK156
     clear BK164
     clear BK172
     clear HB
     have BK155 := n0_
     have BK156 := n1_
     have BK164 := n2_
     have BK172 := n3_
     have HB := n4_
     clear n0_ n1_ n2_ n3_ n4_
     (try clear hb)
     (try clear hb2)
     (try clear hk)
     (try clear hi)
     refine hK.out _ _ ⟨(bC BK155.out 0).trans rfl, (bC BK155.out 1).trans rfl, (bC BK156.out 0).trans rfl, (bC BK156.out 1).trans rfl⟩ (fun hHeld => ?_)
     clear hK K
     refine norm_ (a' := ?_) ?_ ?_
     rotate_left
     ·show Act.put _ (some 22) _ = _
      simp only [Act.put, lA, l0', lS, i64_w, i32_w]
      rfl
     refine pure_ (i := 5) (N := some 17) (v := ?_) (a' := ?_) #[true, true, true, true, true, true, false, false, true, false, false] rfl rfl (any_of HT_.out (by kernel_rfl)) (fun _ _ _ h => h) (Or.inl ⟨by rfl, ?_⟩) ?_ ?_
     rotate_left
     ·intro w'
      go_simp
      with_reducible rfl
     rotate_left
     ·simp only [Act.put, lA, l0', lS, i64_w, i32_w]
      rfl
     refine pure_ (i := 6) (N := some 23) (v := ?_) (a' := ?_) #[true, true, true, true, true, true, true, false, true, false, false] rfl rfl (any_of HT_.out (by kernel_rfl)) (fun _ _ _ h => h) (Or.inl ⟨by rfl, ?_⟩) ?_ ?_
     rotate_left
     ·intro w'
      go_simp
      with_reducible rfl
     rotate_left
     ·simp only [Act.put, lA, l0', lS, i64_w, i32_w]
      rfl
     refine pure_ (i := 7) (N := some 24) (v := ?_) (a' := ?_) #[true, true, true, true, true, true, true, true, true, false, false] rfl rfl (any_of HT_.out (by kernel_rfl)) (fun _ _ _ h => h) (Or.inl ⟨by rfl, ?_⟩) ?_ ?_
     rotate_left
     ·intro w'
      go_simp
      with_reducible rfl
     rotate_left
     ·simp only [Act.put, lA, l0', lS, i64_w, i32_w]
      rfl
     exact norm_ (by simp only [putAll, Act.put, lA, l0', lS]) (hCont (gb172) _ ⟨hHeld, (by (with_reducible repeat (first | refine bN ?_ _ | refine bD ?_ | refine bA ?_ _)); exact BK155.out), (by (with_reducible repeat (first | refine bN ?_ _ | refine bD ?_ | refine bA ?_ _)); exact BK156.out), (by (with_reducible repeat (first | refine bN ?_ _ | refine bD ?_ | refine bA ?_ _)); exact BK164.out), (by (with_reducible repeat (first | refine bN ?_ _ | refine bD ?_ | refine bA ?_ _)); exact BK172.out), GW172.out, GE172.out, NB155_172.out, NB172_155.out, NB156_172.out, NB172_156.out, NB164_172.out, NB172_164.out, (by repeat (first | (with_reducible first | exact HB.out | apply bL | apply bM | apply b1 | refine bS ?_ GE155.out | refine bS ?_ GE156.out | refine bS ?_ GE164.out | refine bS ?_ GE172.out) | exact HB.out))⟩)
   rintro gb172 w55 ⟨hS_, h0_, h1_, h2_, h3_, h4_, h5_, h6_, h7_, h8_, h9_, h10_, h11_, h12_⟩
   have n0_ : Aside0 (w55.heap[gb155]? = some (.cells #[.int .i64 a0_0, .int .i64 a0_1] 25 (0, 0))) := ⟨h0_⟩
   have n1_ : Aside0 (w55.heap[gb156]? = some (.cells #[.int .i64 a1_0, .int .i64 a1_1] 25 (0, 0))) := ⟨h1_⟩
   have n2_ : Aside0 (w55.heap[gb164]? = some (.cells #[.int .i64 t161, .int .i64 t162] 27 (0, 0))) := ⟨h2_⟩
   have n3_ : Aside0 (w55.heap[gb172]? = some (.cells #[.int .i64 0, .int .i64 0] 27 (0, 0))) := ⟨h3_⟩
   have n4_ : Aside0 (w.heap.size ≤ gb172) := ⟨h4_⟩
   have n5_ : Aside0 (w.heap.size ≤ gb172) := ⟨h5_⟩
   have n6_ : Aside0 (gb155 ≠ gb172) := ⟨h6_⟩
   have n7_ : Aside0 (gb172 ≠ gb155) := ⟨h7_⟩
   have n8_ : Aside0 (gb156 ≠ gb172) := ⟨h8_⟩
   have n9_ : Aside0 (gb172 ≠ gb156) := ⟨h9_⟩
   have n10_ : Aside0 (gb164 ≠ gb172) := ⟨h10_⟩
   have n11_ : Aside0 (gb172 ≠ gb164) := ⟨h11_⟩
   have n12_ : Aside0 (Below w.heap.size w w55) := ⟨h12_⟩
   clear BK155
   clear BK156
   clear BK164
   clear HB
   clear h0_ h1_ h2_ h3_ h4_ h5_ h6_ h7_ h8_ h9_ h10_ h11_ h12_
   have BK155 := n0_
   have BK156 := n1_
   have BK164 := n2_
   have BK172 := n3_
   have GW172 := n4_
   have GE172 := n5_
   have NB155_172 := n6_
   have NB172_155 := n7_
   have NB156_172 := n8_
   have NB172_156 := n9_
   have NB164_172 := n10_
   have NB172_164 := n11_
   have HB := n12_
   clear n0_ n1_ n2_ n3_ n4_ n5_ n6_ n7_ n8_ n9_ n10_ n11_ n12_
   have hHeld : w55.cell? ⟨gb155, 0, none⟩ = some (.int .i64 a0_0) ∧ w55.cell? ⟨gb155, 1, none⟩ = some (.int .i64 a0_1) ∧ w55.cell? ⟨gb156, 0, none⟩ = some (.int .i64 a1_0) ∧ w55.cell? ⟨gb156, 1, none⟩ = some (.int .i64 a1_1) := hS_
   refine norm_ (a' := ?_) ?_ ?_
   rotate_left
   ·simp only [putAll, Act.put, lA, l0', lS]
    rfl
   refine one_ (i := 9) (N := none) #[true, true, true, true, true, true, true, true, true, true, false] rfl rfl (one_of HT_.out (by kernel_rfl)) (by decide) (fun K hK => ?_)
   have hs56 : w55.cell? ⟨gb172, 0, none⟩ = some (.int .i64 0) := (bC BK172.out 0).trans rfl
   have hfs56 := blk_frozen BK172.out 0
   have hns56_0 := NB155_172.out
   have hns56_1 := NB156_172.out
   have hns56_2 := NB164_172.out
   have hms56_0 := NB172_155.out
   have hms56_1 := NB172_156.out
   have hms56_2 := NB172_164.out
   have hs57 : w55.cell? ⟨gb172, 1, none⟩ = some (.int .i64 0) := (bC BK172.out 1).trans rfl
   have hfs57 := blk_frozen BK172.out 1
   have hns57_0 := NB155_172.out
   have hns57_1 := NB156_172.out
   have hns57_2 := NB164_172.out
   have hms57_0 := NB172_155.out
   have hms57_1 := NB172_156.out
   have hms57_2 := NB172_164.out
   refine skip_ (w1 := ?_) (by rfl) rfl ?_ ?_
   rotate_left
   ·go_simp
    rfl
   refine hK.out _ _ ⟨((cell_far (p := ⟨gb172, _, none⟩) NB155_172.out _).trans (((cell_far (p := ⟨gb172, _, none⟩) NB155_172.out _).trans (hHeld.1)))), ((cell_far (p := ⟨gb172, _, none⟩) NB155_172.out _).trans (((cell_far (p := ⟨gb172, _, none⟩) NB155_172.out _).trans (hHeld.2.1)))), ((cell_far (p := ⟨gb172, _, none⟩) NB156_172.out _).trans (((cell_far (p := ⟨gb172, _, none⟩) NB156_172.out _).trans (hHeld.2.2.1)))), ((cell_far (p := ⟨gb172, _, none⟩) NB156_172.out _).trans (((cell_far (p := ⟨gb172, _, none⟩) NB156_172.out _).trans (hHeld.2.2.2))))⟩ (fun hHeld => ?_)
   clear hK K
   refine pure_ (i := 10) (N := some 8) (v := ?_) (a' := ?_) #[true, true, true, true, true, true, true, true, true, true, true] rfl rfl (any_of HT_.out (by kernel_rfl)) (fun _ _ _ h => h) (Or.inl ⟨by rfl, ?_⟩) ?_ ?_
   rotate_left
   ·intro w'
    go_simp
    with_reducible rfl
   rotate_left
   ·simp only [Act.put, lA, l0', lS, i64_w, i32_w]
    rfl
   refine done_ (done_of HT_.out (by kernel_rfl)) ?_
   have hnb58 := NB172_155.out
   have hnc58 := NB155_172.out
   have hnb59 := NB172_156.out
   have hnc59 := NB156_172.out
   have hnb60 := NB172_164.out
   have hnc60 := NB164_172.out
   have hcz61_0 : w55.cell? ⟨gb172, 0, none⟩ = some (.int .i64 0) := (bC BK172.out 0).trans rfl
   have hcz61_1 : w55.cell? ⟨gb172, 1, none⟩ = some (.int .i64 0) := (bC BK172.out 1).trans rfl
   have hfz61_0 := blk_frozen BK172.out 0
   have hfz61_1 := blk_frozen BK172.out 1
   have hnb62 := NB164_155.out
   have hnc62 := NB155_164.out
   have hnb63 := NB164_156.out
   have hnc63 := NB156_164.out
   have hcz64_0 : w55.cell? ⟨gb164, 0, none⟩ = some (.int .i64 t161) := (bC BK164.out 0).trans rfl
   have hcz64_1 : w55.cell? ⟨gb164, 1, none⟩ = some (.int .i64 t162) := (bC BK164.out 1).trans rfl
   have hfz64_0 := blk_frozen BK164.out 0
   have hfz64_1 := blk_frozen BK164.out 1
   try go_wp2_with (first | ((with_reducible refine gate_callee (f := 25) rfl ?_); refine goesL_ (some 27) rfl rfl Try.func25 (by kernel_rfl) rfl #[.agg #[.int .i64 t169, .int .i64 t170], .agg #[.int .i64 t161, .int .i64 t162]] rfl (by (try simp only [mA, mC, mN]); first | done | rfl) ?_; (with_reducible refine (laws_eqFraction.calls t169 t170 t161 t162 true _ A9.out).mono ?_); rintro e w65 ⟨rfl, hb⟩; refine ⟨_, rfl, ?_⟩; have n0_ := aK (bB (g := gb155) (o := .cells #[.int .i64 a0_0, .int .i64 a0_1] 25 (0, 0)) (by (with_reducible repeat (first | refine bN ?_ _ | refine bD ?_ | refine bA ?_ _)); refine blk_far ?_ NB155_172.out _; (with_reducible repeat (first | refine bN ?_ _ | refine bD ?_ | refine bA ?_ _)); refine blk_far ?_ NB155_172.out _; (with_reducible repeat (first | refine bN ?_ _ | refine bD ?_ | refine bA ?_ _)); exact BK155.out) hb); have n1_ := aK (bB (g := gb156) (o := .cells #[.int .i64 a1_0, .int .i64 a1_1] 25 (0, 0)) (by (with_reducible repeat (first | refine bN ?_ _ | refine bD ?_ | refine bA ?_ _)); refine blk_far ?_ NB156_172.out _; (with_reducible repeat (first | refine bN ?_ _ | refine bD ?_ | refine bA ?_ _)); refine blk_far ?_ NB156_172.out _; (with_reducible repeat (first | refine bN ?_ _ | refine bD ?_ | refine bA ?_ _)); exact BK156.out) hb); have n2_ := aK (bB (g := gb164) (o := .cells #[.int .i64 t161, .int .i64 t162] 27 (0, 0)) (by (with_reducible repeat (first | refine bN ?_ _ | refine bD ?_ | refine bA ?_ _)); refine blk_far ?_ NB164_172.out _; (with_reducible repeat (first | refine bN ?_ _ | refine bD ?_ | refine bA ?_ _)); refine blk_far ?_ NB164_172.out _; (with_reducible repeat (first | refine bN ?_ _ | refine bD ?_ | refine bA ?_ _)); exact BK164.out) hb); have n3_ := aK (bB (g := gb172) (o := .cells #[.int .i64 t169, .int .i64 t170] 27 (0, 0)) (by (with_reducible repeat (first | refine bN ?_ _ | refine bD ?_ | refine bA ?_ _)); refine blk_put (cs := #[.int .i64 t169, .int .i64 0]) ?_ 1 _ rfl; (with_reducible repeat (first | refine bN ?_ _ | refine bD ?_ | refine bA ?_ _)); refine blk_put (cs := #[.int .i64 0, .int .i64 0]) ?_ 0 _ rfl; (with_reducible repeat (first | refine bN ?_ _ | refine bD ?_ | refine bA ?_ _)); exact BK172.out) hb); have n4_ := aK (below_step (by repeat (first | (with_reducible first | exact HB.out | apply bL | apply bM | apply b1 | refine bS ?_ GE155.out | refine bS ?_ GE156.out | refine bS ?_ GE164.out | refine bS ?_ GE172.out) | exact HB.out)) hb); clear BK155; clear BK156; clear BK164; clear BK172; clear HB; have BK155 := n0_; have BK156 := n1_; have BK164 := n2_; have BK172 := n3_; have HB := n4_; clear n0_ n1_ n2_ n3_ n4_; (try clear hb); (try clear hb2); (try clear hk); (try clear hi)))
   go_ret
   exact ⟨by first | rfl | (simp [errW_none, errW_some] <;> rfl) | (simp [*, errW_none, errW_some] <;> rfl), by repeat (first | (with_reducible first | exact HB.out | apply bL | apply bM | apply b1 | refine bS ?_ GE155.out | refine bS ?_ GE156.out | refine bS ?_ GE164.out | refine bS ?_ GE172.out) | exact HB.out)⟩
 ·replace c10 := Bool.eq_false_iff.mpr c10
  subst c10
  have H1 : (some false) = some r := by rw [if_neg (show ¬ (false = true) by decide)] at H; exact H
  clear H
  have H := H1
  clear H1
  obtain rfl := Option.some.inj H
  go_enter Try.func9, Try.ntmps9
  try go_wp2_with (first | ((with_reducible refine gate_dst (N := 2) rfl ?_); refine box_event ?hg (N := 2) ?hd (cs := #[.int .i64 a0_0, .int .i64 a0_1]) (t := 25) ?hr ?_; (case hd => rfl); (case hg => rfl); (case hr => first | (go_simp; done) | (go_simp; rfl)); intro gb155 hg w66 hbox hb; have n0_ := aK (below_step (by repeat (first | (with_reducible first | exact HB.out | apply bL | apply bM | apply b1) | exact HB.out)) hb); have n1_ := aK (hbox); have n2_ := aK ((by rw [hg]; exact (below_size (by repeat (first | (with_reducible first | exact HB.out | apply bL | apply bM | apply b1) | exact HB.out))) : w.heap.size ≤ gb155)); have n3_ := aK ((by rw [hg]; exact (below_size (by repeat (first | (with_reducible first | exact HB.out | apply bL | apply bM | apply b1) | exact HB.out))) : w.heap.size ≤ gb155)); clear HB; have HB := n0_; have BK155 := n1_; have GW155 := n2_; have GE155 := n3_; clear n0_ n1_ n2_ n3_; clear hb hbox hg) | ((with_reducible refine gate_dst (N := 3) rfl ?_); refine box_event ?hg (N := 3) ?hd (cs := #[.int .i64 a1_0, .int .i64 a1_1]) (t := 25) ?hr ?_; (case hd => rfl); (case hg => rfl); (case hr => first | (go_simp; done) | (go_simp; rfl)); intro gb156 hg w67 hbox hb; have n0_ := aK (bB (by (with_reducible repeat (first | refine bN ?_ _ | refine bD ?_ | refine bA ?_ _)); exact BK155.out) hb); have n1_ := aK (below_step (by repeat (first | (with_reducible first | exact HB.out | apply bL | apply bM | apply b1 | refine bS ?_ GE155.out) | exact HB.out)) hb); have n2_ := aK (hbox); have n3_ := aK ((by rw [hg]; exact (below_size (by repeat (first | (with_reducible first | exact HB.out | apply bL | apply bM | apply b1 | refine bS ?_ GE155.out) | exact HB.out))) : w.heap.size ≤ gb156)); have n4_ := aK ((by rw [hg]; exact (below_size (by repeat (first | (with_reducible first | exact HB.out | apply bL | apply bM | apply b1 | refine bS ?_ GE155.out) | exact HB.out))) : w.heap.size ≤ gb156)); have n5_ := aK ((by rw [hg]; exact Nat.ne_of_lt (blk_lt (by (with_reducible repeat (first | refine bN ?_ _ | refine bD ?_ | refine bA ?_ _)); exact BK155.out)) : gb155 ≠ gb156)); have n6_ := aK ((by rw [hg]; exact Nat.ne_of_gt (blk_lt (by (with_reducible repeat (first | refine bN ?_ _ | refine bD ?_ | refine bA ?_ _)); exact BK155.out)) : gb156 ≠ gb155)); clear BK155; clear HB; have BK155 := n0_; have HB := n1_; have BK156 := n2_; have GW156 := n3_; have GE156 := n4_; have NB155_156 := n5_; have NB156_155 := n6_; clear n0_ n1_ n2_ n3_ n4_ n5_ n6_; clear hb hbox hg))
  have n0_ := aK (bD BK155.out)
  have n1_ := aK (bD BK156.out)
  have n2_ := aK (b1 HB.out)
  clear BK155
  clear BK156
  clear HB
  have BK155 := n0_
  have BK156 := n1_
  have HB := n2_
  clear n0_ n1_ n2_
  refine start_ (n := 11) (S := fun w' => w'.cell? ⟨gb155, 0, none⟩ = some (.int .i64 a0_0) ∧ w'.cell? ⟨gb155, 1, none⟩ = some (.int .i64 a0_1) ∧ w'.cell? ⟨gb156, 0, none⟩ = some (.int .i64 a1_0) ∧ w'.cell? ⟨gb156, 1, none⟩ = some (.int .i64 a1_1)) (ds := []) #[false, false, false, false, false, false, false, false, false, false, false] (by kernel_rfl) rfl rfl ⟨(bC BK155.out 0).trans rfl, (bC BK155.out 1).trans rfl, (bC BK156.out 0).trans rfl, (bC BK156.out 1).trans rfl⟩ (fun hHeld => ?_); refine with_tabW laws_FnExactAddFractions.tab1 laws_FnExactAddFractions.bits1 (fun HT_ HW_ => ?_)
  generalize w67.drew = w68 at BK155 BK156 HB hHeld ⊢
  refine take_ (i := 0) (N := some 10) (v := ?_) (a' := ?_) #[true, false, false, false, false, false, false, false, false, false, false] rfl rfl (take_ofW HT_.out HW_.out (by kernel_rfl)) (fun _ _ _ h => h) (Or.inl ⟨by rfl, ?_⟩) hHeld ?_ ?_
  rotate_left
  ·rintro w' ⟨s0, s1, s2, s3⟩
   go_simp
   with_reducible rfl
  rotate_left
  ·simp only [Act.put, lA, l0', lS, i64_w, i32_w]
   rfl
  refine take_ (i := 2) (N := some 12) (v := ?_) (a' := ?_) #[true, false, true, false, false, false, false, false, false, false, false] rfl rfl (take_ofW HT_.out HW_.out (by kernel_rfl)) (fun _ _ _ h => h) (Or.inl ⟨by rfl, ?_⟩) hHeld ?_ ?_
  rotate_left
  ·rintro w' ⟨s0, s1, s2, s3⟩
   go_simp
   with_reducible rfl
  rotate_left
  ·simp only [Act.put, lA, l0', lS, i64_w, i32_w]
   rfl
  refine join_ (σ := Nat) 2 #[true, true, true, true, true, true, true, true, true, false, false] (fun s_ => [(11, .agg #[.int .i64 t157, .int .i64 t158]), (13, .agg #[.int .i64 t159, .int .i64 t160]), (14, .tuple #[.agg #[.int .i64 t161, .int .i64 t162], .int .i64 t163]), (5, .pointer (some ⟨s_, 0, none⟩)), (9, .tuple #[.agg #[.int .i64 t161, .int .i64 t162], .int .i64 t163]), (15, .agg #[.int .i64 t161, .int .i64 t162]), (16, .int .i64 t163)]) (fun s_ w' => (w'.cell? ⟨gb155, 0, none⟩ = some (.int .i64 a0_0) ∧ w'.cell? ⟨gb155, 1, none⟩ = some (.int .i64 a0_1) ∧ w'.cell? ⟨gb156, 0, none⟩ = some (.int .i64 a1_0) ∧ w'.cell? ⟨gb156, 1, none⟩ = some (.int .i64 a1_1)) ∧ (w'.heap[gb155]? = some (.cells #[.int .i64 a0_0, .int .i64 a0_1] 25 (0, 0))) ∧ (w'.heap[gb156]? = some (.cells #[.int .i64 a1_0, .int .i64 a1_1] 25 (0, 0))) ∧ (w'.heap[s_]? = some (.cells #[.int .i64 0, .int .i64 0] 27 (0, 0))) ∧ (w.heap.size ≤ s_) ∧ (w.heap.size ≤ s_) ∧ (gb155 ≠ s_) ∧ (s_ ≠ gb155) ∧ (gb156 ≠ s_) ∧ (s_ ≠ gb156) ∧ (Below w.heap.size w w')) ?_ ?_
  rotate_left
  ·intro hCont
   refine two_ (i := 1) (j := 8) (Ni := some 11) (Nj := some 5) #[true, true, true, false, false, false, false, false, false, false, false] #[true, false, true, false, false, false, false, false, true, false, false] rfl rfl rfl rfl (two_of HT_.out (by kernel_rfl)) (by decide) (by decide) (fun K hK => ?_) (fun K hK => ?_)
   ·skip
    refine goes_ Try.func15 (by kernel_rfl) rfl #[.agg #[.int .i64 a0_0, .int .i64 a0_1]] (by rfl) rfl rfl (by (try simp only [mA, mC, mN]); first | done | rfl) ?_
    with_reducible refine (laws_toFraction.calls a0_0 a0_1 t157 t158 _ A3.out).mono ?_
    rintro e w69 ⟨rfl, hb⟩
    refine ⟨_, rfl, ?_⟩
    have n0_ := aK (bB (by (with_reducible repeat (first | refine bN ?_ _ | refine bD ?_ | refine bA ?_ _)); exact BK155.out) hb)
    have n1_ := aK (bB (by (with_reducible repeat (first | refine bN ?_ _ | refine bD ?_ | refine bA ?_ _)); exact BK156.out) hb)
    have n2_ := aK (below_step (by repeat (first | (with_reducible first | exact HB.out | apply bL | apply bM | apply b1 | refine bS ?_ GE155.out | refine bS ?_ GE156.out) | exact HB.out)) hb)
    clear BK155
    clear BK156
    clear HB
    have BK155 := n0_
    have BK156 := n1_
    have HB := n2_
    clear n0_ n1_ n2_
    (try clear hb)
    (try clear hb2)
    (try clear hk)
    (try clear hi)
    refine hK.out _ _ ⟨(bC BK155.out 0).trans rfl, (bC BK155.out 1).trans rfl, (bC BK156.out 0).trans rfl, (bC BK156.out 1).trans rfl⟩ (fun hHeld => ?_)
    clear hK K
    refine norm_ (a' := ?_) ?_ ?_
    rotate_left
    ·show Act.put _ (some 11) _ = _
     simp only [Act.put, lA, l0', lS, i64_w, i32_w]
     rfl
    refine two_ (i := 3) (j := 8) (Ni := some 13) (Nj := some 5) #[true, true, true, true, false, false, false, false, false, false, false] #[true, true, true, false, false, false, false, false, true, false, false] rfl rfl rfl rfl (two_of HT_.out (by kernel_rfl)) (by decide) (by decide) (fun K hK => ?_) (fun K hK => ?_)
    ·skip
     refine goes_ Try.func15 (by kernel_rfl) rfl #[.agg #[.int .i64 a1_0, .int .i64 a1_1]] (by rfl) rfl rfl (by (try simp only [mA, mC, mN]); first | done | rfl) ?_
     with_reducible refine (laws_toFraction.calls a1_0 a1_1 t159 t160 _ A4.out).mono ?_
     rintro e w70 ⟨rfl, hb⟩
     refine ⟨_, rfl, ?_⟩
     have n0_ := aK (bB (by (with_reducible repeat (first | refine bN ?_ _ | refine bD ?_ | refine bA ?_ _)); exact BK155.out) hb)
     have n1_ := aK (bB (by (with_reducible repeat (first | refine bN ?_ _ | refine bD ?_ | refine bA ?_ _)); exact BK156.out) hb)
     have n2_ := aK (below_step (by repeat (first | (with_reducible first | exact HB.out | apply bL | apply bM | apply b1 | refine bS ?_ GE155.out | refine bS ?_ GE156.out) | exact HB.out)) hb)
     clear BK155
     clear BK156
     clear HB
     have BK155 := n0_
     have BK156 := n1_
     have HB := n2_
     clear n0_ n1_ n2_
     (try clear hb)
     (try clear hb2)
     (try clear hk)
     (try clear hi)
     refine hK.out _ _ ⟨(bC BK155.out 0).trans rfl, (bC BK155.out 1).trans rfl, (bC BK156.out 0).trans rfl, (bC BK156.out 1).trans rfl⟩ (fun hHeld => ?_)
     clear hK K
     refine norm_ (a' := ?_) ?_ ?_
     rotate_left
     ·show Act.put _ (some 13) _ = _
      simp only [Act.put, lA, l0', lS, i64_w, i32_w]
      rfl
     refine two_ (i := 4) (j := 8) (Ni := some 14) (Nj := some 5) #[true, true, true, true, true, false, false, false, false, false, false] #[true, true, true, true, false, false, false, false, true, false, false] rfl rfl rfl rfl (two_of HT_.out (by kernel_rfl)) (by decide) (by decide) (fun K hK => ?_) (fun K hK => ?_)
     ·skip
      refine goes_ Try.func26 (by kernel_rfl) rfl #[.agg #[.int .i64 t157, .int .i64 t158], .agg #[.int .i64 t159, .int .i64 t160]] (by rfl) rfl rfl (by (try simp only [mA, mC, mN]); first | done | rfl) ?_
      with_reducible refine (spec_AddFractions.calls k t157 t158 t159 t160 t161 t162 t163 _ A5.out).mono ?_
      rintro e w71 ⟨rfl, hb⟩
      refine ⟨_, rfl, ?_⟩
      have n0_ := aK (bB (by (with_reducible repeat (first | refine bN ?_ _ | refine bD ?_ | refine bA ?_ _)); exact BK155.out) hb)
      have n1_ := aK (bB (by (with_reducible repeat (first | refine bN ?_ _ | refine bD ?_ | refine bA ?_ _)); exact BK156.out) hb)
      have n2_ := aK (below_step (by repeat (first | (with_reducible first | exact HB.out | apply bL | apply bM | apply b1 | refine bS ?_ GE155.out | refine bS ?_ GE156.out) | exact HB.out)) hb)
      clear BK155
      clear BK156
      clear HB
      have BK155 := n0_
      have BK156 := n1_
      have HB := n2_
      clear n0_ n1_ n2_
      (try clear hb)
      (try clear hb2)
      (try clear hk)
      (try clear hi)
      refine hK.out _ _ ⟨(bC BK155.out 0).trans rfl, (bC BK155.out 1).trans rfl, (bC BK156.out 0).trans rfl, (bC BK156.out 1).trans rfl⟩ (fun hHeld => ?_)
      clear hK K
      refine norm_ (a' := ?_) ?_ ?_
      rotate_left
      ·show Act.put _ (some 14) _ = _
       simp only [Act.put, lA, l0', lS, i64_w, i32_w]
       rfl
      refine pure_ (i := 5) (N := some 9) (v := ?_) (a' := ?_) #[true, true, true, true, true, true, false, false, false, false, false] rfl rfl (any_of HT_.out (by kernel_rfl)) (fun _ _ _ h => h) (Or.inl ⟨by rfl, ?_⟩) ?_ ?_
      rotate_left
      ·intro w'
       go_simp
       with_reducible rfl
      rotate_left
      ·simp only [Act.put, lA, l0', lS, i64_w, i32_w]
       rfl
      refine pure_ (i := 6) (N := some 15) (v := ?_) (a' := ?_) #[true, true, true, true, true, true, true, false, false, false, false] rfl rfl (any_of HT_.out (by kernel_rfl)) (fun _ _ _ h => h) (Or.inl ⟨by rfl, ?_⟩) ?_ ?_
      rotate_left
      ·intro w'
       go_simp
       with_reducible rfl
      rotate_left
      ·simp only [Act.put, lA, l0', lS, i64_w, i32_w]
       rfl
      refine pure_ (i := 7) (N := some 16) (v := ?_) (a' := ?_) #[true, true, true, true, true, true, true, true, false, false, false] rfl rfl (any_of HT_.out (by kernel_rfl)) (fun _ _ _ h => h) (Or.inl ⟨by rfl, ?_⟩) ?_ ?_
      rotate_left
      ·intro w'
       go_simp
       with_reducible rfl
      rotate_left
      ·simp only [Act.put, lA, l0', lS, i64_w, i32_w]
       rfl
      refine one_ (i := 8) (N := some 5) #[true, true, true, true, true, true, true, true, true, false, false] rfl rfl (one_of HT_.out (by kernel_rfl)) (by decide) (fun K hK => ?_)
      refine box_step ?hg (N := 5) ?hd (cs := #[.int .i64 0, .int .i64 0]) (t := 27) ?hr ?_; (case hd => rfl); (case hg => rfl); (case hr => first | (go_simp; done) | (go_simp; rfl))
      intro gb164 hg w72 hbox hb
      have n0_ := aK (bB (by (with_reducible repeat (first | refine bN ?_ _ | refine bD ?_ | refine bA ?_ _)); exact BK155.out) hb)
      have n1_ := aK (bB (by (with_reducible repeat (first | refine bN ?_ _ | refine bD ?_ | refine bA ?_ _)); exact BK156.out) hb)
      have n2_ := aK (below_step (by repeat (first | (with_reducible first | exact HB.out | apply bL | apply bM | apply b1 | refine bS ?_ GE155.out | refine bS ?_ GE156.out) | exact HB.out)) hb)
      have n3_ := aK (hbox)
      have n4_ := aK ((by rw [hg]; exact (below_size (by repeat (first | (with_reducible first | exact HB.out | apply bL | apply bM | apply b1 | refine bS ?_ GE155.out | refine bS ?_ GE156.out) | exact HB.out))) : w.heap.size ≤ gb164))
      have n5_ := aK ((by rw [hg]; exact (below_size (by repeat (first | (with_reducible first | exact HB.out | apply bL | apply bM | apply b1 | refine bS ?_ GE155.out | refine bS ?_ GE156.out) | exact HB.out))) : w.heap.size ≤ gb164))
      have n6_ := aK ((by rw [hg]; exact Nat.ne_of_lt (blk_lt (by (with_reducible repeat (first | refine bN ?_ _ | refine bD ?_ | refine bA ?_ _)); exact BK155.out)) : gb155 ≠ gb164))
      have n7_ := aK ((by rw [hg]; exact Nat.ne_of_gt (blk_lt (by (with_reducible repeat (first | refine bN ?_ _ | refine bD ?_ | refine bA ?_ _)); exact BK155.out)) : gb164 ≠ gb155))
      have n8_ := aK ((by rw [hg]; exact Nat.ne_of_lt (blk_lt (by (with_reducible repeat (first | refine bN ?_ _ | refine bD ?_ | refine bA ?_ _)); exact BK156.out)) : gb156 ≠ gb164))
      have n9_ := aK ((by rw [hg]; exact Nat.ne_of_gt (blk_lt (by (with_reducible repeat (first | refine bN ?_ _ | refine bD ?_ | refine bA ?_ _)); exact BK156.out)) : gb164 ≠ gb156))
      clear BK155
      clear BK156
      clear HB
      have BK155 := n0_
      have BK156 := n1_
      have HB := n2_
      have BK164 := n3_
      have GW164 := n4_
      have GE164 := n5_
      have NB155_164 := n6_
      have NB164_155 := n7_
      have NB156_164 := n8_
      have NB164_156 := n9_
      clear n0_ n1_ n2_ n3_ n4_ n5_ n6_ n7_ n8_ n9_
      clear hb hbox hg
      refine hK.out _ _ ⟨(bC BK155.out 0).trans rfl, (bC BK155.out 1).trans rfl, (bC BK156.out 0).trans rfl, (bC BK156.out 1).trans rfl⟩ (fun hHeld => ?_)
      clear hK K
      refine norm_ (a' := ?_) ?_ ?_
      rotate_left
      ·show Act.put _ (some 5) _ = _
       simp only [Act.put, lA, l0', lS, i64_w, i32_w]
       rfl
      exact norm_ (by simp only [putAll, Act.put, lA, l0', lS]) (hCont (gb164) _ ⟨hHeld, (by (with_reducible repeat (first | refine bN ?_ _ | refine bD ?_ | refine bA ?_ _)); exact BK155.out), (by (with_reducible repeat (first | refine bN ?_ _ | refine bD ?_ | refine bA ?_ _)); exact BK156.out), (by (with_reducible repeat (first | refine bN ?_ _ | refine bD ?_ | refine bA ?_ _)); exact BK164.out), GW164.out, GE164.out, NB155_164.out, NB164_155.out, NB156_164.out, NB164_156.out, (by repeat (first | (with_reducible first | exact HB.out | apply bL | apply bM | apply b1 | refine bS ?_ GE155.out | refine bS ?_ GE156.out | refine bS ?_ GE164.out) | exact HB.out))⟩)
     ·skip
      refine box_step ?hg (N := 5) ?hd (cs := #[.int .i64 0, .int .i64 0]) (t := 27) ?hr ?_; (case hd => rfl); (case hg => rfl); (case hr => first | (go_simp; done) | (go_simp; rfl))
      intro gb164 hg w71 hbox hb
      have n0_ := aK (bB (by (with_reducible repeat (first | refine bN ?_ _ | refine bD ?_ | refine bA ?_ _)); exact BK155.out) hb)
      have n1_ := aK (bB (by (with_reducible repeat (first | refine bN ?_ _ | refine bD ?_ | refine bA ?_ _)); exact BK156.out) hb)
      have n2_ := aK (below_step (by repeat (first | (with_reducible first | exact HB.out | apply bL | apply bM | apply b1 | refine bS ?_ GE155.out | refine bS ?_ GE156.out) | exact HB.out)) hb)
      have n3_ := aK (hbox)
      have n4_ := aK ((by rw [hg]; exact (below_size (by repeat (first | (with_reducible first | exact HB.out | apply bL | apply bM | apply b1 | refine bS ?_ GE155.out | refine bS ?_ GE156.out) | exact HB.out))) : w.heap.size ≤ gb164))
      have n5_ := aK ((by rw [hg]; exact (below_size (by repeat (first | (with_reducible first | exact HB.out | apply bL | apply bM | apply b1 | refine bS ?_ GE155.out | refine bS ?_ GE156.out) | exact HB.out))) : w.heap.size ≤ gb164))
      have n6_ := aK ((by rw [hg]; exact Nat.ne_of_lt (blk_lt (by (with_reducible repeat (first | refine bN ?_ _ | refine bD ?_ | refine bA ?_ _)); exact BK155.out)) : gb155 ≠ gb164))
      have n7_ := aK ((by rw [hg]; exact Nat.ne_of_gt (blk_lt (by (with_reducible repeat (first | refine bN ?_ _ | refine bD ?_ | refine bA ?_ _)); exact BK155.out)) : gb164 ≠ gb155))
      have n8_ := aK ((by rw [hg]; exact Nat.ne_of_lt (blk_lt (by (with_reducible repeat (first | refine bN ?_ _ | refine bD ?_ | refine bA ?_ _)); exact BK156.out)) : gb156 ≠ gb164))
      have n9_ := aK ((by rw [hg]; exact Nat.ne_of_gt (blk_lt (by (with_reducible repeat (first | refine bN ?_ _ | refine bD ?_ | refine bA ?_ _)); exact BK156.out)) : gb164 ≠ gb156))
      clear BK155
      clear BK156
      clear HB
      have BK155 := n0_
      have BK156 := n1_
      have HB := n2_
      have BK164 := n3_
      have GW164 := n4_
      have GE164 := n5_
      have NB155_164 := n6_
      have NB164_155 := n7_
      have NB156_164 := n8_
      have NB164_156 := n9_
      clear n0_ n1_ n2_ n3_ n4_ n5_ n6_ n7_ n8_ n9_
      clear hb hbox hg
      refine hK.out _ _ ⟨(bC BK155.out 0).trans rfl, (bC BK155.out 1).trans rfl, (bC BK156.out 0).trans rfl, (bC BK156.out 1).trans rfl⟩ (fun hHeld => ?_)
      clear hK K
      refine norm_ (a' := ?_) ?_ ?_
      rotate_left
      ·show Act.put _ (some 5) _ = _
       simp only [Act.put, lA, l0', lS, i64_w, i32_w]
       rfl
      refine one_ (i := 4) (N := some 14) #[true, true, true, true, true, false, false, false, true, false, false] rfl rfl (one_of HT_.out (by kernel_rfl)) (by decide) (fun K hK => ?_)
      refine goes_ Try.func26 (by kernel_rfl) rfl #[.agg #[.int .i64 t157, .int .i64 t158], .agg #[.int .i64 t159, .int .i64 t160]] (by rfl) rfl rfl (by (try simp only [mA, mC, mN]); first | done | rfl) ?_
      with_reducible refine (spec_AddFractions.calls k t157 t158 t159 t160 t161 t162 t163 _ A5.out).mono ?_
      rintro e w72 ⟨rfl, hb⟩
      refine ⟨_, rfl, ?_⟩
      have n0_ := aK (bB (by (with_reducible repeat (first | refine bN ?_ _ | refine bD ?_ | refine bA ?_ _)); exact BK155.out) hb)
      have n1_ := aK (bB (by (with_reducible repeat (first | refine bN ?_ _ | refine bD ?_ | refine bA ?_ _)); exact BK156.out) hb)
      have n2_ := aK (bB (by (with_reducible repeat (first | refine bN ?_ _ | refine bD ?_ | refine bA ?_ _)); exact BK164.out) hb)
      have n3_ := aK (below_step (by repeat (first | (with_reducible first | exact HB.out | apply bL | apply bM | apply b1 | refine bS ?_ GE155.out | refine bS ?_ GE156.out | refine bS ?_ GE164.out) | exact HB.out)) hb)
      clear BK155
      clear BK156
      clear BK164
      clear HB
      have BK155 := n0_
      have BK156 := n1_
      have BK164 := n2_
      have HB := n3_
      clear n0_ n1_ n2_ n3_
      (try clear hb)
      (try clear hb2)
      (try clear hk)
      (try clear hi)
      refine hK.out _ _ ⟨(bC BK155.out 0).trans rfl, (bC BK155.out 1).trans rfl, (bC BK156.out 0).trans rfl, (bC BK156.out 1).trans rfl⟩ (fun hHeld => ?_)
      clear hK K
      refine norm_ (a' := ?_) ?_ ?_
      rotate_left
      ·show Act.put _ (some 14) _ = _
       simp only [Act.put, lA, l0', lS, i64_w, i32_w]
       rfl
      refine pure_ (i := 5) (N := some 9) (v := ?_) (a' := ?_) #[true, true, true, true, true, true, false, false, true, false, false] rfl rfl (any_of HT_.out (by kernel_rfl)) (fun _ _ _ h => h) (Or.inl ⟨by rfl, ?_⟩) ?_ ?_
      rotate_left
      ·intro w'
       go_simp
       with_reducible rfl
      rotate_left
      ·simp only [Act.put, lA, l0', lS, i64_w, i32_w]
       rfl
      refine pure_ (i := 6) (N := some 15) (v := ?_) (a' := ?_) #[true, true, true, true, true, true, true, false, true, false, false] rfl rfl (any_of HT_.out (by kernel_rfl)) (fun _ _ _ h => h) (Or.inl ⟨by rfl, ?_⟩) ?_ ?_
      rotate_left
      ·intro w'
       go_simp
       with_reducible rfl
      rotate_left
      ·simp only [Act.put, lA, l0', lS, i64_w, i32_w]
       rfl
      refine pure_ (i := 7) (N := some 16) (v := ?_) (a' := ?_) #[true, true, true, true, true, true, true, true, true, false, false] rfl rfl (any_of HT_.out (by kernel_rfl)) (fun _ _ _ h => h) (Or.inl ⟨by rfl, ?_⟩) ?_ ?_
      rotate_left
      ·intro w'
       go_simp
       with_reducible rfl
      rotate_left
      ·simp only [Act.put, lA, l0', lS, i64_w, i32_w]
       rfl
      exact norm_ (by simp only [putAll, Act.put, lA, l0', lS]) (hCont (gb164) _ ⟨hHeld, (by (with_reducible repeat (first | refine bN ?_ _ | refine bD ?_ | refine bA ?_ _)); exact BK155.out), (by (with_reducible repeat (first | refine bN ?_ _ | refine bD ?_ | refine bA ?_ _)); exact BK156.out), (by (with_reducible repeat (first | refine bN ?_ _ | refine bD ?_ | refine bA ?_ _)); exact BK164.out), GW164.out, GE164.out, NB155_164.out, NB164_155.out, NB156_164.out, NB164_156.out, (by repeat (first | (with_reducible first | exact HB.out | apply bL | apply bM | apply b1 | refine bS ?_ GE155.out | refine bS ?_ GE156.out | refine bS ?_ GE164.out) | exact HB.out))⟩)
    ·skip
     refine box_step ?hg (N := 5) ?hd (cs := #[.int .i64 0, .int .i64 0]) (t := 27) ?hr ?_; (case hd => rfl); (case hg => rfl); (case hr => first | (go_simp; done) | (go_simp; rfl))
     intro gb164 hg w70 hbox hb
     have n0_ := aK (bB (by (with_reducible repeat (first | refine bN ?_ _ | refine bD ?_ | refine bA ?_ _)); exact BK155.out) hb)
     have n1_ := aK (bB (by (with_reducible repeat (first | refine bN ?_ _ | refine bD ?_ | refine bA ?_ _)); exact BK156.out) hb)
     have n2_ := aK (below_step (by repeat (first | (with_reducible first | exact HB.out | apply bL | apply bM | apply b1 | refine bS ?_ GE155.out | refine bS ?_ GE156.out) | exact HB.out)) hb)
     have n3_ := aK (hbox)
     have n4_ := aK ((by rw [hg]; exact (below_size (by repeat (first | (with_reducible first | exact HB.out | apply bL | apply bM | apply b1 | refine bS ?_ GE155.out | refine bS ?_ GE156.out) | exact HB.out))) : w.heap.size ≤ gb164))
     have n5_ := aK ((by rw [hg]; exact (below_size (by repeat (first | (with_reducible first | exact HB.out | apply bL | apply bM | apply b1 | refine bS ?_ GE155.out | refine bS ?_ GE156.out) | exact HB.out))) : w.heap.size ≤ gb164))
     have n6_ := aK ((by rw [hg]; exact Nat.ne_of_lt (blk_lt (by (with_reducible repeat (first | refine bN ?_ _ | refine bD ?_ | refine bA ?_ _)); exact BK155.out)) : gb155 ≠ gb164))
     have n7_ := aK ((by rw [hg]; exact Nat.ne_of_gt (blk_lt (by (with_reducible repeat (first | refine bN ?_ _ | refine bD ?_ | refine bA ?_ _)); exact BK155.out)) : gb164 ≠ gb155))
     have n8_ := aK ((by rw [hg]; exact Nat.ne_of_lt (blk_lt (by (with_reducible repeat (first | refine bN ?_ _ | refine bD ?_ | refine bA ?_ _)); exact BK156.out)) : gb156 ≠ gb164))
     have n9_ := aK ((by rw [hg]; exact Nat.ne_of_gt (blk_lt (by (with_reducible repeat (first | refine bN ?_ _ | refine bD ?_ | refine bA ?_ _)); exact BK156.out)) : gb164 ≠ gb156))
     clear BK155
     clear BK156
     clear HB
     have BK155 := n0_
     have BK156 := n1_
     have HB := n2_
     have BK164 := n3_
     have GW164 := n4_
     have GE164 := n5_
     have NB155_164 := n6_
     have NB164_155 := n7_
     have NB156_164 := n8_
     have NB164_156 := n9_
     clear n0_ n1_ n2_ n3_ n4_ n5_ n6_ n7_ n8_ n9_
     clear hb hbox hg
     refine hK.out _ _ ⟨(bC BK155.out 0).trans rfl, (bC BK155.out 1).trans rfl, (bC BK156.out 0).trans rfl, (bC BK156.out 1).trans rfl⟩ (fun hHeld => ?_)
     clear hK K
     refine norm_ (a' := ?_) ?_ ?_
     rotate_left
     ·show Act.put _ (some 5) _ = _
      simp only [Act.put, lA, l0', lS, i64_w, i32_w]
      rfl
     refine one_ (i := 3) (N := some 13) #[true, true, true, true, false, false, false, false, true, false, false] rfl rfl (one_of HT_.out (by kernel_rfl)) (by decide) (fun K hK => ?_)
     refine goes_ Try.func15 (by kernel_rfl) rfl #[.agg #[.int .i64 a1_0, .int .i64 a1_1]] (by rfl) rfl rfl (by (try simp only [mA, mC, mN]); first | done | rfl) ?_
     with_reducible refine (laws_toFraction.calls a1_0 a1_1 t159 t160 _ A4.out).mono ?_
     rintro e w71 ⟨rfl, hb⟩
     refine ⟨_, rfl, ?_⟩
     have n0_ := aK (bB (by (with_reducible repeat (first | refine bN ?_ _ | refine bD ?_ | refine bA ?_ _)); exact BK155.out) hb)
     have n1_ := aK (bB (by (with_reducible repeat (first | refine bN ?_ _ | refine bD ?_ | refine bA ?_ _)); exact BK156.out) hb)
     have n2_ := aK (bB (by (with_reducible repeat (first | refine bN ?_ _ | refine bD ?_ | refine bA ?_ _)); exact BK164.out) hb)
     have n3_ := aK (below_step (by repeat (first | (with_reducible first | exact HB.out | apply bL | apply bM | apply b1 | refine bS ?_ GE155.out | refine bS ?_ GE156.out | refine bS ?_ GE164.out) | exact HB.out)) hb)
     clear BK155
     clear BK156
     clear BK164
     clear HB
     have BK155 := n0_
     have BK156 := n1_
     have BK164 := n2_
     have HB := n3_
     clear n0_ n1_ n2_ n3_
     (try clear hb)
     (try clear hb2)
     (try clear hk)
     (try clear hi)
     refine hK.out _ _ ⟨(bC BK155.out 0).trans rfl, (bC BK155.out 1).trans rfl, (bC BK156.out 0).trans rfl, (bC BK156.out 1).trans rfl⟩ (fun hHeld => ?_)
     clear hK K
     refine norm_ (a' := ?_) ?_ ?_
     rotate_left
     ·show Act.put _ (some 13) _ = _
      simp only [Act.put, lA, l0', lS, i64_w, i32_w]
      rfl
     refine one_ (i := 4) (N := some 14) #[true, true, true, true, true, false, false, false, true, false, false] rfl rfl (one_of HT_.out (by kernel_rfl)) (by decide) (fun K hK => ?_)
     refine goes_ Try.func26 (by kernel_rfl) rfl #[.agg #[.int .i64 t157, .int .i64 t158], .agg #[.int .i64 t159, .int .i64 t160]] (by rfl) rfl rfl (by (try simp only [mA, mC, mN]); first | done | rfl) ?_
     with_reducible refine (spec_AddFractions.calls k t157 t158 t159 t160 t161 t162 t163 _ A5.out).mono ?_
     rintro e w72 ⟨rfl, hb⟩
     refine ⟨_, rfl, ?_⟩
     have n0_ := aK (bB (by (with_reducible repeat (first | refine bN ?_ _ | refine bD ?_ | refine bA ?_ _)); exact BK155.out) hb)
     have n1_ := aK (bB (by (with_reducible repeat (first | refine bN ?_ _ | refine bD ?_ | refine bA ?_ _)); exact BK156.out) hb)
     have n2_ := aK (bB (by (with_reducible repeat (first | refine bN ?_ _ | refine bD ?_ | refine bA ?_ _)); exact BK164.out) hb)
     have n3_ := aK (below_step (by repeat (first | (with_reducible first | exact HB.out | apply bL | apply bM | apply b1 | refine bS ?_ GE155.out | refine bS ?_ GE156.out | refine bS ?_ GE164.out) | exact HB.out)) hb)
     clear BK155
     clear BK156
     clear BK164
     clear HB
     have BK155 := n0_
     have BK156 := n1_
     have BK164 := n2_
     have HB := n3_
     clear n0_ n1_ n2_ n3_
     (try clear hb)
     (try clear hb2)
     (try clear hk)
     (try clear hi)
     refine hK.out _ _ ⟨(bC BK155.out 0).trans rfl, (bC BK155.out 1).trans rfl, (bC BK156.out 0).trans rfl, (bC BK156.out 1).trans rfl⟩ (fun hHeld => ?_)
     clear hK K
     refine norm_ (a' := ?_) ?_ ?_
     rotate_left
     ·show Act.put _ (some 14) _ = _
      simp only [Act.put, lA, l0', lS, i64_w, i32_w]
      rfl
     refine pure_ (i := 5) (N := some 9) (v := ?_) (a' := ?_) #[true, true, true, true, true, true, false, false, true, false, false] rfl rfl (any_of HT_.out (by kernel_rfl)) (fun _ _ _ h => h) (Or.inl ⟨by rfl, ?_⟩) ?_ ?_
     rotate_left
     ·intro w'
      go_simp
      with_reducible rfl
     rotate_left
     ·simp only [Act.put, lA, l0', lS, i64_w, i32_w]
      rfl
     refine pure_ (i := 6) (N := some 15) (v := ?_) (a' := ?_) #[true, true, true, true, true, true, true, false, true, false, false] rfl rfl (any_of HT_.out (by kernel_rfl)) (fun _ _ _ h => h) (Or.inl ⟨by rfl, ?_⟩) ?_ ?_
     rotate_left
     ·intro w'
      go_simp
      with_reducible rfl
     rotate_left
     ·simp only [Act.put, lA, l0', lS, i64_w, i32_w]
      rfl
     refine pure_ (i := 7) (N := some 16) (v := ?_) (a' := ?_) #[true, true, true, true, true, true, true, true, true, false, false] rfl rfl (any_of HT_.out (by kernel_rfl)) (fun _ _ _ h => h) (Or.inl ⟨by rfl, ?_⟩) ?_ ?_
     rotate_left
     ·intro w'
      go_simp
      with_reducible rfl
     rotate_left
     ·simp only [Act.put, lA, l0', lS, i64_w, i32_w]
      rfl
     exact norm_ (by simp only [putAll, Act.put, lA, l0', lS]) (hCont (gb164) _ ⟨hHeld, (by (with_reducible repeat (first | refine bN ?_ _ | refine bD ?_ | refine bA ?_ _)); exact BK155.out), (by (with_reducible repeat (first | refine bN ?_ _ | refine bD ?_ | refine bA ?_ _)); exact BK156.out), (by (with_reducible repeat (first | refine bN ?_ _ | refine bD ?_ | refine bA ?_ _)); exact BK164.out), GW164.out, GE164.out, NB155_164.out, NB164_155.out, NB156_164.out, NB164_156.out, (by repeat (first | (with_reducible first | exact HB.out | apply bL | apply bM | apply b1 | refine bS ?_ GE155.out | refine bS ?_ GE156.out | refine bS ?_ GE164.out) | exact HB.out))⟩)
   ·skip
    refine box_step ?hg (N := 5) ?hd (cs := #[.int .i64 0, .int .i64 0]) (t := 27) ?hr ?_; (case hd => rfl); (case hg => rfl); (case hr => first | (go_simp; done) | (go_simp; rfl))
    intro gb164 hg w69 hbox hb
    have n0_ := aK (bB (by (with_reducible repeat (first | refine bN ?_ _ | refine bD ?_ | refine bA ?_ _)); exact BK155.out) hb)
    have n1_ := aK (bB (by (with_reducible repeat (first | refine bN ?_ _ | refine bD ?_ | refine bA ?_ _)); exact BK156.out) hb)
    have n2_ := aK (below_step (by repeat (first | (with_reducible first | exact HB.out | apply bL | apply bM | apply b1 | refine bS ?_ GE155.out | refine bS ?_ GE156.out) | exact HB.out)) hb)
    have n3_ := aK (hbox)
    have n4_ := aK ((by rw [hg]; exact (below_size (by repeat (first | (with_reducible first | exact HB.out | apply bL | apply bM | apply b1 | refine bS ?_ GE155.out | refine bS ?_ GE156.out) | exact HB.out))) : w.heap.size ≤ gb164))
    have n5_ := aK ((by rw [hg]; exact (below_size (by repeat (first | (with_reducible first | exact HB.out | apply bL | apply bM | apply b1 | refine bS ?_ GE155.out | refine bS ?_ GE156.out) | exact HB.out))) : w.heap.size ≤ gb164))
    have n6_ := aK ((by rw [hg]; exact Nat.ne_of_lt (blk_lt (by (with_reducible repeat (first | refine bN ?_ _ | refine bD ?_ | refine bA ?_ _)); exact BK155.out)) : gb155 ≠ gb164))
    have n7_ := aK ((by rw [hg]; exact Nat.ne_of_gt (blk_lt (by (with_reducible repeat (first | refine bN ?_ _ | refine bD ?_ | refine bA ?_ _)); exact BK155.out)) : gb164 ≠ gb155))
    have n8_ := aK ((by rw [hg]; exact Nat.ne_of_lt (blk_lt (by (with_reducible repeat (first | refine bN ?_ _ | refine bD ?_ | refine bA ?_ _)); exact BK156.out)) : gb156 ≠ gb164))
    have n9_ := aK ((by rw [hg]; exact Nat.ne_of_gt (blk_lt (by (with_reducible repeat (first | refine bN ?_ _ | refine bD ?_ | refine bA ?_ _)); exact BK156.out)) : gb164 ≠ gb156))
    clear BK155
    clear BK156
    clear HB
    have BK155 := n0_
    have BK156 := n1_
    have HB := n2_
    have BK164 := n3_
    have GW164 := n4_
    have GE164 := n5_
    have NB155_164 := n6_
    have NB164_155 := n7_
    have NB156_164 := n8_
    have NB164_156 := n9_
    clear n0_ n1_ n2_ n3_ n4_ n5_ n6_ n7_ n8_ n9_
    clear hb hbox hg
    refine hK.out _ _ ⟨(bC BK155.out 0).trans rfl, (bC BK155.out 1).trans rfl, (bC BK156.out 0).trans rfl, (bC BK156.out 1).trans rfl⟩ (fun hHeld => ?_)
    clear hK K
    refine norm_ (a' := ?_) ?_ ?_
    rotate_left
    ·show Act.put _ (some 5) _ = _
     simp only [Act.put, lA, l0', lS, i64_w, i32_w]
     rfl
    refine one_ (i := 1) (N := some 11) #[true, true, true, false, false, false, false, false, true, false, false] rfl rfl (one_of HT_.out (by kernel_rfl)) (by decide) (fun K hK => ?_)
    refine goes_ Try.func15 (by kernel_rfl) rfl #[.agg #[.int .i64 a0_0, .int .i64 a0_1]] (by rfl) rfl rfl (by (try simp only [mA, mC, mN]); first | done | rfl) ?_
    with_reducible refine (laws_toFraction.calls a0_0 a0_1 t157 t158 _ A3.out).mono ?_
    rintro e w70 ⟨rfl, hb⟩
    refine ⟨_, rfl, ?_⟩
    have n0_ := aK (bB (by (with_reducible repeat (first | refine bN ?_ _ | refine bD ?_ | refine bA ?_ _)); exact BK155.out) hb)
    have n1_ := aK (bB (by (with_reducible repeat (first | refine bN ?_ _ | refine bD ?_ | refine bA ?_ _)); exact BK156.out) hb)
    have n2_ := aK (bB (by (with_reducible repeat (first | refine bN ?_ _ | refine bD ?_ | refine bA ?_ _)); exact BK164.out) hb)
    have n3_ := aK (below_step (by repeat (first | (with_reducible first | exact HB.out | apply bL | apply bM | apply b1 | refine bS ?_ GE155.out | refine bS ?_ GE156.out | refine bS ?_ GE164.out) | exact HB.out)) hb)
    clear BK155
    clear BK156
    clear BK164
    clear HB
    have BK155 := n0_
    have BK156 := n1_
    have BK164 := n2_
    have HB := n3_
    clear n0_ n1_ n2_ n3_
    (try clear hb)
    (try clear hb2)
    (try clear hk)
    (try clear hi)
    refine hK.out _ _ ⟨(bC BK155.out 0).trans rfl, (bC BK155.out 1).trans rfl, (bC BK156.out 0).trans rfl, (bC BK156.out 1).trans rfl⟩ (fun hHeld => ?_)
    clear hK K
    refine norm_ (a' := ?_) ?_ ?_
    rotate_left
    ·show Act.put _ (some 11) _ = _
     simp only [Act.put, lA, l0', lS, i64_w, i32_w]
     rfl
    refine one_ (i := 3) (N := some 13) #[true, true, true, true, false, false, false, false, true, false, false] rfl rfl (one_of HT_.out (by kernel_rfl)) (by decide) (fun K hK => ?_)
    refine goes_ Try.func15 (by kernel_rfl) rfl #[.agg #[.int .i64 a1_0, .int .i64 a1_1]] (by rfl) rfl rfl (by (try simp only [mA, mC, mN]); first | done | rfl) ?_
    with_reducible refine (laws_toFraction.calls a1_0 a1_1 t159 t160 _ A4.out).mono ?_
    rintro e w71 ⟨rfl, hb⟩
    refine ⟨_, rfl, ?_⟩
    have n0_ := aK (bB (by (with_reducible repeat (first | refine bN ?_ _ | refine bD ?_ | refine bA ?_ _)); exact BK155.out) hb)
    have n1_ := aK (bB (by (with_reducible repeat (first | refine bN ?_ _ | refine bD ?_ | refine bA ?_ _)); exact BK156.out) hb)
    have n2_ := aK (bB (by (with_reducible repeat (first | refine bN ?_ _ | refine bD ?_ | refine bA ?_ _)); exact BK164.out) hb)
    have n3_ := aK (below_step (by repeat (first | (with_reducible first | exact HB.out | apply bL | apply bM | apply b1 | refine bS ?_ GE155.out | refine bS ?_ GE156.out | refine bS ?_ GE164.out) | exact HB.out)) hb)
    clear BK155
    clear BK156
    clear BK164
    clear HB
    have BK155 := n0_
    have BK156 := n1_
    have BK164 := n2_
    have HB := n3_
    clear n0_ n1_ n2_ n3_
    (try clear hb)
    (try clear hb2)
    (try clear hk)
    (try clear hi)
    refine hK.out _ _ ⟨(bC BK155.out 0).trans rfl, (bC BK155.out 1).trans rfl, (bC BK156.out 0).trans rfl, (bC BK156.out 1).trans rfl⟩ (fun hHeld => ?_)
    clear hK K
    refine norm_ (a' := ?_) ?_ ?_
    rotate_left
    ·show Act.put _ (some 13) _ = _
     simp only [Act.put, lA, l0', lS, i64_w, i32_w]
     rfl
    refine one_ (i := 4) (N := some 14) #[true, true, true, true, true, false, false, false, true, false, false] rfl rfl (one_of HT_.out (by kernel_rfl)) (by decide) (fun K hK => ?_)
    refine goes_ Try.func26 (by kernel_rfl) rfl #[.agg #[.int .i64 t157, .int .i64 t158], .agg #[.int .i64 t159, .int .i64 t160]] (by rfl) rfl rfl (by (try simp only [mA, mC, mN]); first | done | rfl) ?_
    with_reducible refine (spec_AddFractions.calls k t157 t158 t159 t160 t161 t162 t163 _ A5.out).mono ?_
    rintro e w72 ⟨rfl, hb⟩
    refine ⟨_, rfl, ?_⟩
    have n0_ := aK (bB (by (with_reducible repeat (first | refine bN ?_ _ | refine bD ?_ | refine bA ?_ _)); exact BK155.out) hb)
    have n1_ := aK (bB (by (with_reducible repeat (first | refine bN ?_ _ | refine bD ?_ | refine bA ?_ _)); exact BK156.out) hb)
    have n2_ := aK (bB (by (with_reducible repeat (first | refine bN ?_ _ | refine bD ?_ | refine bA ?_ _)); exact BK164.out) hb)
    have n3_ := aK (below_step (by repeat (first | (with_reducible first | exact HB.out | apply bL | apply bM | apply b1 | refine bS ?_ GE155.out | refine bS ?_ GE156.out | refine bS ?_ GE164.out) | exact HB.out)) hb)
    clear BK155
    clear BK156
    clear BK164
    clear HB
    have BK155 := n0_
    have BK156 := n1_
    have BK164 := n2_
    have HB := n3_
    clear n0_ n1_ n2_ n3_
    (try clear hb)
    (try clear hb2)
    (try clear hk)
    (try clear hi)
    refine hK.out _ _ ⟨(bC BK155.out 0).trans rfl, (bC BK155.out 1).trans rfl, (bC BK156.out 0).trans rfl, (bC BK156.out 1).trans rfl⟩ (fun hHeld => ?_)
    clear hK K
    refine norm_ (a' := ?_) ?_ ?_
    rotate_left
    ·show Act.put _ (some 14) _ = _
     simp only [Act.put, lA, l0', lS, i64_w, i32_w]
     rfl
    refine pure_ (i := 5) (N := some 9) (v := ?_) (a' := ?_) #[true, true, true, true, true, true, false, false, true, false, false] rfl rfl (any_of HT_.out (by kernel_rfl)) (fun _ _ _ h => h) (Or.inl ⟨by rfl, ?_⟩) ?_ ?_
    rotate_left
    ·intro w'
     go_simp
     with_reducible rfl
    rotate_left
    ·simp only [Act.put, lA, l0', lS, i64_w, i32_w]
     rfl
    refine pure_ (i := 6) (N := some 15) (v := ?_) (a' := ?_) #[true, true, true, true, true, true, true, false, true, false, false] rfl rfl (any_of HT_.out (by kernel_rfl)) (fun _ _ _ h => h) (Or.inl ⟨by rfl, ?_⟩) ?_ ?_
    rotate_left
    ·intro w'
     go_simp
     with_reducible rfl
    rotate_left
    ·simp only [Act.put, lA, l0', lS, i64_w, i32_w]
     rfl
    refine pure_ (i := 7) (N := some 16) (v := ?_) (a' := ?_) #[true, true, true, true, true, true, true, true, true, false, false] rfl rfl (any_of HT_.out (by kernel_rfl)) (fun _ _ _ h => h) (Or.inl ⟨by rfl, ?_⟩) ?_ ?_
    rotate_left
    ·intro w'
     go_simp
     with_reducible rfl
    rotate_left
    ·simp only [Act.put, lA, l0', lS, i64_w, i32_w]
     rfl
    exact norm_ (by simp only [putAll, Act.put, lA, l0', lS]) (hCont (gb164) _ ⟨hHeld, (by (with_reducible repeat (first | refine bN ?_ _ | refine bD ?_ | refine bA ?_ _)); exact BK155.out), (by (with_reducible repeat (first | refine bN ?_ _ | refine bD ?_ | refine bA ?_ _)); exact BK156.out), (by (with_reducible repeat (first | refine bN ?_ _ | refine bD ?_ | refine bA ?_ _)); exact BK164.out), GW164.out, GE164.out, NB155_164.out, NB164_155.out, NB156_164.out, NB164_156.out, (by repeat (first | (with_reducible first | exact HB.out | apply bL | apply bM | apply b1 | refine bS ?_ GE155.out | refine bS ?_ GE156.out | refine bS ?_ GE164.out) | exact HB.out))⟩)
  rintro gb164 w73 ⟨hS_, h0_, h1_, h2_, h3_, h4_, h5_, h6_, h7_, h8_, h9_⟩
  have n0_ : Aside0 (w73.heap[gb155]? = some (.cells #[.int .i64 a0_0, .int .i64 a0_1] 25 (0, 0))) := ⟨h0_⟩
  have n1_ : Aside0 (w73.heap[gb156]? = some (.cells #[.int .i64 a1_0, .int .i64 a1_1] 25 (0, 0))) := ⟨h1_⟩
  have n2_ : Aside0 (w73.heap[gb164]? = some (.cells #[.int .i64 0, .int .i64 0] 27 (0, 0))) := ⟨h2_⟩
  have n3_ : Aside0 (w.heap.size ≤ gb164) := ⟨h3_⟩
  have n4_ : Aside0 (w.heap.size ≤ gb164) := ⟨h4_⟩
  have n5_ : Aside0 (gb155 ≠ gb164) := ⟨h5_⟩
  have n6_ : Aside0 (gb164 ≠ gb155) := ⟨h6_⟩
  have n7_ : Aside0 (gb156 ≠ gb164) := ⟨h7_⟩
  have n8_ : Aside0 (gb164 ≠ gb156) := ⟨h8_⟩
  have n9_ : Aside0 (Below w.heap.size w w73) := ⟨h9_⟩
  clear BK155
  clear BK156
  clear HB
  clear h0_ h1_ h2_ h3_ h4_ h5_ h6_ h7_ h8_ h9_
  have BK155 := n0_
  have BK156 := n1_
  have BK164 := n2_
  have GW164 := n3_
  have GE164 := n4_
  have NB155_164 := n5_
  have NB164_155 := n6_
  have NB156_164 := n7_
  have NB164_156 := n8_
  have HB := n9_
  clear n0_ n1_ n2_ n3_ n4_ n5_ n6_ n7_ n8_ n9_
  have hHeld : w73.cell? ⟨gb155, 0, none⟩ = some (.int .i64 a0_0) ∧ w73.cell? ⟨gb155, 1, none⟩ = some (.int .i64 a0_1) ∧ w73.cell? ⟨gb156, 0, none⟩ = some (.int .i64 a1_0) ∧ w73.cell? ⟨gb156, 1, none⟩ = some (.int .i64 a1_1) := hS_
  refine norm_ (a' := ?_) ?_ ?_
  rotate_left
  ·simp only [putAll, Act.put, lA, l0', lS]
   rfl
  refine one_ (i := 9) (N := none) #[true, true, true, true, true, true, true, true, true, true, false] rfl rfl (one_of HT_.out (by kernel_rfl)) (by decide) (fun K hK => ?_)
  have hs74 : w73.cell? ⟨gb164, 0, none⟩ = some (.int .i64 0) := (bC BK164.out 0).trans rfl
  have hfs74 := blk_frozen BK164.out 0
  have hns74_0 := NB155_164.out
  have hns74_1 := NB156_164.out
  have hms74_0 := NB164_155.out
  have hms74_1 := NB164_156.out
  have hs75 : w73.cell? ⟨gb164, 1, none⟩ = some (.int .i64 0) := (bC BK164.out 1).trans rfl
  have hfs75 := blk_frozen BK164.out 1
  have hns75_0 := NB155_164.out
  have hns75_1 := NB156_164.out
  have hms75_0 := NB164_155.out
  have hms75_1 := NB164_156.out
  refine skip_ (w1 := ?_) (by rfl) rfl ?_ ?_
  rotate_left
  ·go_simp
   rfl
  refine hK.out _ _ ⟨((cell_far (p := ⟨gb164, _, none⟩) NB155_164.out _).trans (((cell_far (p := ⟨gb164, _, none⟩) NB155_164.out _).trans (hHeld.1)))), ((cell_far (p := ⟨gb164, _, none⟩) NB155_164.out _).trans (((cell_far (p := ⟨gb164, _, none⟩) NB155_164.out _).trans (hHeld.2.1)))), ((cell_far (p := ⟨gb164, _, none⟩) NB156_164.out _).trans (((cell_far (p := ⟨gb164, _, none⟩) NB156_164.out _).trans (hHeld.2.2.1)))), ((cell_far (p := ⟨gb164, _, none⟩) NB156_164.out _).trans (((cell_far (p := ⟨gb164, _, none⟩) NB156_164.out _).trans (hHeld.2.2.2))))⟩ (fun hHeld => ?_)
  clear hK K
  refine pure_ (i := 10) (N := some 6) (v := ?_) (a' := ?_) #[true, true, true, true, true, true, true, true, true, true, true] rfl rfl (any_of HT_.out (by kernel_rfl)) (fun _ _ _ h => h) (Or.inl ⟨by rfl, ?_⟩) ?_ ?_
  rotate_left
  ·intro w'
   go_simp
   with_reducible rfl
  rotate_left
  ·simp only [Act.put, lA, l0', lS, i64_w, i32_w]
   rfl
  refine done_ (done_of HT_.out (by kernel_rfl)) ?_
  try go_wp2
  have n0_ : Aside0 (((w73.setCell ⟨gb164, 0, none⟩ (.int .i64 t161)).setCell ⟨gb164, 1, none⟩ (.int .i64 t162)).heap[gb155]? = some (.cells #[.int .i64 a0_0, .int .i64 a0_1] 25 (0, 0))) := ⟨by (with_reducible repeat (first | refine bN ?_ _ | refine bD ?_ | refine bA ?_ _)); refine blk_far ?_ NB155_164.out _; (with_reducible repeat (first | refine bN ?_ _ | refine bD ?_ | refine bA ?_ _)); refine blk_far ?_ NB155_164.out _; (with_reducible repeat (first | refine bN ?_ _ | refine bD ?_ | refine bA ?_ _)); exact BK155.out⟩
  have n1_ : Aside0 (((w73.setCell ⟨gb164, 0, none⟩ (.int .i64 t161)).setCell ⟨gb164, 1, none⟩ (.int .i64 t162)).heap[gb156]? = some (.cells #[.int .i64 a1_0, .int .i64 a1_1] 25 (0, 0))) := ⟨by (with_reducible repeat (first | refine bN ?_ _ | refine bD ?_ | refine bA ?_ _)); refine blk_far ?_ NB156_164.out _; (with_reducible repeat (first | refine bN ?_ _ | refine bD ?_ | refine bA ?_ _)); refine blk_far ?_ NB156_164.out _; (with_reducible repeat (first | refine bN ?_ _ | refine bD ?_ | refine bA ?_ _)); exact BK156.out⟩
  have n2_ : Aside0 (((w73.setCell ⟨gb164, 0, none⟩ (.int .i64 t161)).setCell ⟨gb164, 1, none⟩ (.int .i64 t162)).heap[gb164]? = some (.cells #[.int .i64 t161, .int .i64 t162] 27 (0, 0))) := ⟨by (with_reducible repeat (first | refine bN ?_ _ | refine bD ?_ | refine bA ?_ _)); refine blk_put (cs := #[.int .i64 t161, .int .i64 0]) ?_ 1 _ rfl; (with_reducible repeat (first | refine bN ?_ _ | refine bD ?_ | refine bA ?_ _)); refine blk_put (cs := #[.int .i64 0, .int .i64 0]) ?_ 0 _ rfl; (with_reducible repeat (first | refine bN ?_ _ | refine bD ?_ | refine bA ?_ _)); exact BK164.out⟩
  have n3_ : Aside0 (Below w.heap.size w ((w73.setCell ⟨gb164, 0, none⟩ (.int .i64 t161)).setCell ⟨gb164, 1, none⟩ (.int .i64 t162))) := ⟨by repeat (first | (with_reducible first | exact HB.out | apply bL | apply bM | apply b1 | refine bS ?_ GE155.out | refine bS ?_ GE156.out | refine bS ?_ GE164.out) | exact HB.out)⟩
  (try clear BK155)
  (try clear BK156)
  (try clear BK164)
  (try clear HB)
  generalize ((w73.setCell ⟨gb164, 0, none⟩ (.int .i64 t161)).setCell ⟨gb164, 1, none⟩ (.int .i64 t162)) = w76 at n0_ n1_ n2_ n3_ ⊢
  have BK155 := n0_
  have BK156 := n1_
  have BK164 := n2_
  have HB := n3_
  clear n0_ n1_ n2_ n3_
  have n0_ := aK (bD BK155.out)
  have n1_ := aK (bD BK156.out)
  have n2_ := aK (bD BK164.out)
  have n3_ := aK (b1 HB.out)
  clear BK155
  clear BK156
  clear BK164
  clear HB
  have BK155 := n0_
  have BK156 := n1_
  have BK164 := n2_
  have HB := n3_
  clear n0_ n1_ n2_ n3_
  refine start_ (n := 11) (S := fun w' => w'.cell? ⟨gb155, 0, none⟩ = some (.int .i64 a0_0) ∧ w'.cell? ⟨gb155, 1, none⟩ = some (.int .i64 a0_1) ∧ w'.cell? ⟨gb156, 0, none⟩ = some (.int .i64 a1_0) ∧ w'.cell? ⟨gb156, 1, none⟩ = some (.int .i64 a1_1)) (ds := []) #[false, false, false, false, false, false, false, false, false, false, false] (by kernel_rfl) rfl rfl ⟨(bC BK155.out 0).trans rfl, (bC BK155.out 1).trans rfl, (bC BK156.out 0).trans rfl, (bC BK156.out 1).trans rfl⟩ (fun hHeld => ?_); refine with_tabW laws_FnExactAddFractions.tab2 laws_FnExactAddFractions.bits2 (fun HT_ HW_ => ?_)
  generalize w76.drew = w77 at BK155 BK156 BK164 HB hHeld ⊢
  refine take_ (i := 0) (N := some 18) (v := ?_) (a' := ?_) #[true, false, false, false, false, false, false, false, false, false, false] rfl rfl (take_ofW HT_.out HW_.out (by kernel_rfl)) (fun _ _ _ h => h) (Or.inl ⟨by rfl, ?_⟩) hHeld ?_ ?_
  rotate_left
  ·rintro w' ⟨s0, s1, s2, s3⟩
   go_simp
   with_reducible rfl
  rotate_left
  ·simp only [Act.put, lA, l0', lS, i64_w, i32_w]
   rfl
  refine take_ (i := 2) (N := some 20) (v := ?_) (a' := ?_) #[true, false, true, false, false, false, false, false, false, false, false] rfl rfl (take_ofW HT_.out HW_.out (by kernel_rfl)) (fun _ _ _ h => h) (Or.inl ⟨by rfl, ?_⟩) hHeld ?_ ?_
  rotate_left
  ·rintro w' ⟨s0, s1, s2, s3⟩
   go_simp
   with_reducible rfl
  rotate_left
  ·simp only [Act.put, lA, l0', lS, i64_w, i32_w]
   rfl
  refine join_ (σ := Nat) 2 #[true, true, true, true, true, true, true, true, true, false, false] (fun s_ => [(19, .agg #[.int .i64 t165, .int .i64 t166]), (21, .agg #[.int .i64 t167, .int .i64 t168]), (22, .tuple #[.agg #[.int .i64 t169, .int .i64 t170], .int .i64 t171]), (7, .pointer (some ⟨s_, 0, none⟩)), (17, .tuple #[.agg #[.int .i64 t169, .int .i64 t170], .int .i64 t171]), (23, .agg #[.int .i64 t169, .int .i64 t170]), (24, .int .i64 t171)]) (fun s_ w' => (w'.cell? ⟨gb155, 0, none⟩ = some (.int .i64 a0_0) ∧ w'.cell? ⟨gb155, 1, none⟩ = some (.int .i64 a0_1) ∧ w'.cell? ⟨gb156, 0, none⟩ = some (.int .i64 a1_0) ∧ w'.cell? ⟨gb156, 1, none⟩ = some (.int .i64 a1_1)) ∧ (w'.heap[gb155]? = some (.cells #[.int .i64 a0_0, .int .i64 a0_1] 25 (0, 0))) ∧ (w'.heap[gb156]? = some (.cells #[.int .i64 a1_0, .int .i64 a1_1] 25 (0, 0))) ∧ (w'.heap[gb164]? = some (.cells #[.int .i64 t161, .int .i64 t162] 27 (0, 0))) ∧ (w'.heap[s_]? = some (.cells #[.int .i64 0, .int .i64 0] 27 (0, 0))) ∧ (w.heap.size ≤ s_) ∧ (w.heap.size ≤ s_) ∧ (gb155 ≠ s_) ∧ (s_ ≠ gb155) ∧ (gb156 ≠ s_) ∧ (s_ ≠ gb156) ∧ (gb164 ≠ s_) ∧ (s_ ≠ gb164) ∧ (Below w.heap.size w w')) ?_ ?_
  rotate_left
  ·intro hCont
   refine two_ (i := 1) (j := 8) (Ni := some 19) (Nj := some 7) #[true, true, true, false, false, false, false, false, false, false, false] #[true, false, true, false, false, false, false, false, true, false, false] rfl rfl rfl rfl (two_of HT_.out (by kernel_rfl)) (by decide) (by decide) (fun K hK => ?_) (fun K hK => ?_)
   ·skip
    refine goes_ Try.func15 (by kernel_rfl) rfl #[.agg #[.int .i64 a0_0, .int .i64 a0_1]] (by rfl) rfl rfl (by (try simp only [mA, mC, mN]); first | done | rfl) ?_
    with_reducible refine (laws_toFraction.calls a0_0 a0_1 t165 t166 _ A6.out).mono ?_
    rintro e w78 ⟨rfl, hb⟩
    refine ⟨_, rfl, ?_⟩
    have n0_ := aK (bB (by (with_reducible repeat (first | refine bN ?_ _ | refine bD ?_ | refine bA ?_ _)); exact BK155.out) hb)
    have n1_ := aK (bB (by (with_reducible repeat (first | refine bN ?_ _ | refine bD ?_ | refine bA ?_ _)); exact BK156.out) hb)
    have n2_ := aK (bB (by (with_reducible repeat (first | refine bN ?_ _ | refine bD ?_ | refine bA ?_ _)); exact BK164.out) hb)
    have n3_ := aK (below_step (by repeat (first | (with_reducible first | exact HB.out | apply bL | apply bM | apply b1 | refine bS ?_ GE155.out | refine bS ?_ GE156.out | refine bS ?_ GE164.out) | exact HB.out)) hb)
    clear BK155
    clear BK156
    clear BK164
    clear HB
    have BK155 := n0_
    have BK156 := n1_
    have BK164 := n2_
    have HB := n3_
    clear n0_ n1_ n2_ n3_
    (try clear hb)
    (try clear hb2)
    (try clear hk)
    (try clear hi)
    refine hK.out _ _ ⟨(bC BK155.out 0).trans rfl, (bC BK155.out 1).trans rfl, (bC BK156.out 0).trans rfl, (bC BK156.out 1).trans rfl⟩ (fun hHeld => ?_)
    clear hK K
    refine norm_ (a' := ?_) ?_ ?_
    rotate_left
    ·show Act.put _ (some 19) _ = _
     simp only [Act.put, lA, l0', lS, i64_w, i32_w]
     rfl
    refine two_ (i := 3) (j := 8) (Ni := some 21) (Nj := some 7) #[true, true, true, true, false, false, false, false, false, false, false] #[true, true, true, false, false, false, false, false, true, false, false] rfl rfl rfl rfl (two_of HT_.out (by kernel_rfl)) (by decide) (by decide) (fun K hK => ?_) (fun K hK => ?_)
    ·skip
     refine goes_ Try.func15 (by kernel_rfl) rfl #[.agg #[.int .i64 a1_0, .int .i64 a1_1]] (by rfl) rfl rfl (by (try simp only [mA, mC, mN]); first | done | rfl) ?_
     with_reducible refine (laws_toFraction.calls a1_0 a1_1 t167 t168 _ A7.out).mono ?_
     rintro e w79 ⟨rfl, hb⟩
     refine ⟨_, rfl, ?_⟩
     have n0_ := aK (bB (by (with_reducible repeat (first | refine bN ?_ _ | refine bD ?_ | refine bA ?_ _)); exact BK155.out) hb)
     have n1_ := aK (bB (by (with_reducible repeat (first | refine bN ?_ _ | refine bD ?_ | refine bA ?_ _)); exact BK156.out) hb)
     have n2_ := aK (bB (by (with_reducible repeat (first | refine bN ?_ _ | refine bD ?_ | refine bA ?_ _)); exact BK164.out) hb)
     have n3_ := aK (below_step (by repeat (first | (with_reducible first | exact HB.out | apply bL | apply bM | apply b1 | refine bS ?_ GE155.out | refine bS ?_ GE156.out | refine bS ?_ GE164.out) | exact HB.out)) hb)
     clear BK155
     clear BK156
     clear BK164
     clear HB
     have BK155 := n0_
     have BK156 := n1_
     have BK164 := n2_
     have HB := n3_
     clear n0_ n1_ n2_ n3_
     (try clear hb)
     (try clear hb2)
     (try clear hk)
     (try clear hi)
     refine hK.out _ _ ⟨(bC BK155.out 0).trans rfl, (bC BK155.out 1).trans rfl, (bC BK156.out 0).trans rfl, (bC BK156.out 1).trans rfl⟩ (fun hHeld => ?_)
     clear hK K
     refine norm_ (a' := ?_) ?_ ?_
     rotate_left
     ·show Act.put _ (some 21) _ = _
      simp only [Act.put, lA, l0', lS, i64_w, i32_w]
      rfl
     refine two_ (i := 4) (j := 8) (Ni := some 22) (Nj := some 7) #[true, true, true, true, true, false, false, false, false, false, false] #[true, true, true, true, false, false, false, false, true, false, false] rfl rfl rfl rfl (two_of HT_.out (by kernel_rfl)) (by decide) (by decide) (fun K hK => ?_) (fun K hK => ?_)
     ·skip
      refine goes_ Try.func27 (by kernel_rfl) rfl #[.agg #[.int .i64 t165, .int .i64 t166], .agg #[.int .i64 t167, .int .i64 t168]] (by rfl) rfl rfl (by (try simp only [mA, mC, mN]); first | done | rfl) ?_
      with_reducible refine (impl_AddFractions.calls k t165 t166 t167 t168 t169 t170 t171 _ A8.out).mono ?_
      rintro e w80 ⟨rfl, hb⟩
      refine ⟨_, rfl, ?_⟩
      have n0_ := aK (bB (by (with_reducible repeat (first | refine bN ?_ _ | refine bD ?_ | refine bA ?_ _)); exact BK155.out) hb)
      have n1_ := aK (bB (by (with_reducible repeat (first | refine bN ?_ _ | refine bD ?_ | refine bA ?_ _)); exact BK156.out) hb)
      have n2_ := aK (bB (by (with_reducible repeat (first | refine bN ?_ _ | refine bD ?_ | refine bA ?_ _)); exact BK164.out) hb)
      have n3_ := aK (below_step (by repeat (first | (with_reducible first | exact HB.out | apply bL | apply bM | apply b1 | refine bS ?_ GE155.out | refine bS ?_ GE156.out | refine bS ?_ GE164.out) | exact HB.out)) hb)
      clear BK155
      clear BK156
      clear BK164
      clear HB
      have BK155 := n0_
      have BK156 := n1_
      have BK164 := n2_
      have HB := n3_
      clear n0_ n1_ n2_ n3_
      (try clear hb)
      (try clear hb2)
      (try clear hk)
      (try clear hi)
      refine hK.out _ _ ⟨(bC BK155.out 0).trans rfl, (bC BK155.out 1).trans rfl, (bC BK156.out 0).trans rfl, (bC BK156.out 1).trans rfl⟩ (fun hHeld => ?_)
      clear hK K
      refine norm_ (a' := ?_) ?_ ?_
      rotate_left
      ·show Act.put _ (some 22) _ = _
       simp only [Act.put, lA, l0', lS, i64_w, i32_w]
       rfl
      refine pure_ (i := 5) (N := some 17) (v := ?_) (a' := ?_) #[true, true, true, true, true, true, false, false, false, false, false] rfl rfl (any_of HT_.out (by kernel_rfl)) (fun _ _ _ h => h) (Or.inl ⟨by rfl, ?_⟩) ?_ ?_
      rotate_left
      ·intro w'
       go_simp
       with_reducible rfl
      rotate_left
      ·simp only [Act.put, lA, l0', lS, i64_w, i32_w]
       rfl
      refine pure_ (i := 6) (N := some 23) (v := ?_) (a' := ?_) #[true, true, true, true, true, true, true, false, false, false, false] rfl rfl (any_of HT_.out (by kernel_rfl)) (fun _ _ _ h => h) (Or.inl ⟨by rfl, ?_⟩) ?_ ?_
      rotate_left
      ·intro w'
       go_simp
       with_reducible rfl
      rotate_left
      ·simp only [Act.put, lA, l0', lS, i64_w, i32_w]
       rfl
      refine pure_ (i := 7) (N := some 24) (v := ?_) (a' := ?_) #[true, true, true, true, true, true, true, true, false, false, false] rfl rfl (any_of HT_.out (by kernel_rfl)) (fun _ _ _ h => h) (Or.inl ⟨by rfl, ?_⟩) ?_ ?_
      rotate_left
      ·intro w'
       go_simp
       with_reducible rfl
      rotate_left
      ·simp only [Act.put, lA, l0', lS, i64_w, i32_w]
       rfl
      refine one_ (i := 8) (N := some 7) #[true, true, true, true, true, true, true, true, true, false, false] rfl rfl (one_of HT_.out (by kernel_rfl)) (by decide) (fun K hK => ?_)
      refine box_step ?hg (N := 7) ?hd (cs := #[.int .i64 0, .int .i64 0]) (t := 27) ?hr ?_; (case hd => rfl); (case hg => rfl); (case hr => first | (go_simp; done) | (go_simp; rfl))
      intro gb172 hg w81 hbox hb
      have n0_ := aK (bB (by (with_reducible repeat (first | refine bN ?_ _ | refine bD ?_ | refine bA ?_ _)); exact BK155.out) hb)
      have n1_ := aK (bB (by (with_reducible repeat (first | refine bN ?_ _ | refine bD ?_ | refine bA ?_ _)); exact BK156.out) hb)
      have n2_ := aK (bB (by (with_reducible repeat (first | refine bN ?_ _ | refine bD ?_ | refine bA ?_ _)); exact BK164.out) hb)
      have n3_ := aK (below_step (by repeat (first | (with_reducible first | exact HB.out | apply bL | apply bM | apply b1 | refine bS ?_ GE155.out | refine bS ?_ GE156.out | refine bS ?_ GE164.out) | exact HB.out)) hb)
      have n4_ := aK (hbox)
      have n5_ := aK ((by rw [hg]; exact (below_size (by repeat (first | (with_reducible first | exact HB.out | apply bL | apply bM | apply b1 | refine bS ?_ GE155.out | refine bS ?_ GE156.out | refine bS ?_ GE164.out) | exact HB.out))) : w.heap.size ≤ gb172))
      have n6_ := aK ((by rw [hg]; exact (below_size (by repeat (first | (with_reducible first | exact HB.out | apply bL | apply bM | apply b1 | refine bS ?_ GE155.out | refine bS ?_ GE156.out | refine bS ?_ GE164.out) | exact HB.out))) : w.heap.size ≤ gb172))
      have n7_ := aK ((by rw [hg]; exact Nat.ne_of_lt (blk_lt (by (with_reducible repeat (first | refine bN ?_ _ | refine bD ?_ | refine bA ?_ _)); exact BK155.out)) : gb155 ≠ gb172))
      have n8_ := aK ((by rw [hg]; exact Nat.ne_of_gt (blk_lt (by (with_reducible repeat (first | refine bN ?_ _ | refine bD ?_ | refine bA ?_ _)); exact BK155.out)) : gb172 ≠ gb155))
      have n9_ := aK ((by rw [hg]; exact Nat.ne_of_lt (blk_lt (by (with_reducible repeat (first | refine bN ?_ _ | refine bD ?_ | refine bA ?_ _)); exact BK156.out)) : gb156 ≠ gb172))
      have n10_ := aK ((by rw [hg]; exact Nat.ne_of_gt (blk_lt (by (with_reducible repeat (first | refine bN ?_ _ | refine bD ?_ | refine bA ?_ _)); exact BK156.out)) : gb172 ≠ gb156))
      have n11_ := aK ((by rw [hg]; exact Nat.ne_of_lt (blk_lt (by (with_reducible repeat (first | refine bN ?_ _ | refine bD ?_ | refine bA ?_ _)); exact BK164.out)) : gb164 ≠ gb172))
      have n12_ := aK ((by rw [hg]; exact Nat.ne_of_gt (blk_lt (by (with_reducible repeat (first | refine bN ?_ _ | refine bD ?_ | refine bA ?_ _)); exact BK164.out)) : gb172 ≠ gb164))
      clear BK155
      clear BK156
      clear BK164
      clear HB
      have BK155 := n0_
      have BK156 := n1_
      have BK164 := n2_
      have HB := n3_
      have BK172 := n4_
      have GW172 := n5_
      have GE172 := n6_
      have NB155_172 := n7_
      have NB172_155 := n8_
      have NB156_172 := n9_
      have NB172_156 := n10_
      have NB164_172 := n11_
      have NB172_164 := n12_
      clear n0_ n1_ n2_ n3_ n4_ n5_ n6_ n7_ n8_ n9_ n10_ n11_ n12_
      clear hb hbox hg
      refine hK.out _ _ ⟨(bC BK155.out 0).trans rfl, (bC BK155.out 1).trans rfl, (bC BK156.out 0).trans rfl, (bC BK156.out 1).trans rfl⟩ (fun hHeld => ?_)
      clear hK K
      refine norm_ (a' := ?_) ?_ ?_
      rotate_left
      ·show Act.put _ (some 7) _ = _
       simp only [Act.put, lA, l0', lS, i64_w, i32_w]
       rfl
      exact norm_ (by simp only [putAll, Act.put, lA, l0', lS]) (hCont (gb172) _ ⟨hHeld, (by (with_reducible repeat (first | refine bN ?_ _ | refine bD ?_ | refine bA ?_ _)); exact BK155.out), (by (with_reducible repeat (first | refine bN ?_ _ | refine bD ?_ | refine bA ?_ _)); exact BK156.out), (by (with_reducible repeat (first | refine bN ?_ _ | refine bD ?_ | refine bA ?_ _)); exact BK164.out), (by (with_reducible repeat (first | refine bN ?_ _ | refine bD ?_ | refine bA ?_ _)); exact BK172.out), GW172.out, GE172.out, NB155_172.out, NB172_155.out, NB156_172.out, NB172_156.out, NB164_172.out, NB172_164.out, (by repeat (first | (with_reducible first | exact HB.out | apply bL | apply bM | apply b1 | refine bS ?_ GE155.out | refine bS ?_ GE156.out | refine bS ?_ GE164.out | refine bS ?_ GE172.out) | exact HB.out))⟩)
     ·skip
      refine box_step ?hg (N := 7) ?hd (cs := #[.int .i64 0, .int .i64 0]) (t := 27) ?hr ?_; (case hd => rfl); (case hg => rfl); (case hr => first | (go_simp; done) | (go_simp; rfl))
      intro gb172 hg w80 hbox hb
      have n0_ := aK (bB (by (with_reducible repeat (first | refine bN ?_ _ | refine bD ?_ | refine bA ?_ _)); exact BK155.out) hb)
      have n1_ := aK (bB (by (with_reducible repeat (first | refine bN ?_ _ | refine bD ?_ | refine bA ?_ _)); exact BK156.out) hb)
      have n2_ := aK (bB (by (with_reducible repeat (first | refine bN ?_ _ | refine bD ?_ | refine bA ?_ _)); exact BK164.out) hb)
      have n3_ := aK (below_step (by repeat (first | (with_reducible first | exact HB.out | apply bL | apply bM | apply b1 | refine bS ?_ GE155.out | refine bS ?_ GE156.out | refine bS ?_ GE164.out) | exact HB.out)) hb)
      have n4_ := aK (hbox)
      have n5_ := aK ((by rw [hg]; exact (below_size (by repeat (first | (with_reducible first | exact HB.out | apply bL | apply bM | apply b1 | refine bS ?_ GE155.out | refine bS ?_ GE156.out | refine bS ?_ GE164.out) | exact HB.out))) : w.heap.size ≤ gb172))
      have n6_ := aK ((by rw [hg]; exact (below_size (by repeat (first | (with_reducible first | exact HB.out | apply bL | apply bM | apply b1 | refine bS ?_ GE155.out | refine bS ?_ GE156.out | refine bS ?_ GE164.out) | exact HB.out))) : w.heap.size ≤ gb172))
      have n7_ := aK ((by rw [hg]; exact Nat.ne_of_lt (blk_lt (by (with_reducible repeat (first | refine bN ?_ _ | refine bD ?_ | refine bA ?_ _)); exact BK155.out)) : gb155 ≠ gb172))
      have n8_ := aK ((by rw [hg]; exact Nat.ne_of_gt (blk_lt (by (with_reducible repeat (first | refine bN ?_ _ | refine bD ?_ | refine bA ?_ _)); exact BK155.out)) : gb172 ≠ gb155))
      have n9_ := aK ((by rw [hg]; exact Nat.ne_of_lt (blk_lt (by (with_reducible repeat (first | refine bN ?_ _ | refine bD ?_ | refine bA ?_ _)); exact BK156.out)) : gb156 ≠ gb172))
      have n10_ := aK ((by rw [hg]; exact Nat.ne_of_gt (blk_lt (by (with_reducible repeat (first | refine bN ?_ _ | refine bD ?_ | refine bA ?_ _)); exact BK156.out)) : gb172 ≠ gb156))
      have n11_ := aK ((by rw [hg]; exact Nat.ne_of_lt (blk_lt (by (with_reducible repeat (first | refine bN ?_ _ | refine bD ?_ | refine bA ?_ _)); exact BK164.out)) : gb164 ≠ gb172))
      have n12_ := aK ((by rw [hg]; exact Nat.ne_of_gt (blk_lt (by (with_reducible repeat (first | refine bN ?_ _ | refine bD ?_ | refine bA ?_ _)); exact BK164.out)) : gb172 ≠ gb164))
      clear BK155
      clear BK156
      clear BK164
      clear HB
      have BK155 := n0_
      have BK156 := n1_
      have BK164 := n2_
      have HB := n3_
      have BK172 := n4_
      have GW172 := n5_
      have GE172 := n6_
      have NB155_172 := n7_
      have NB172_155 := n8_
      have NB156_172 := n9_
      have NB172_156 := n10_
      have NB164_172 := n11_
      have NB172_164 := n12_
      clear n0_ n1_ n2_ n3_ n4_ n5_ n6_ n7_ n8_ n9_ n10_ n11_ n12_
      clear hb hbox hg
      refine hK.out _ _ ⟨(bC BK155.out 0).trans rfl, (bC BK155.out 1).trans rfl, (bC BK156.out 0).trans rfl, (bC BK156.out 1).trans rfl⟩ (fun hHeld => ?_)
      clear hK K
      refine norm_ (a' := ?_) ?_ ?_
      rotate_left
      ·show Act.put _ (some 7) _ = _
       simp only [Act.put, lA, l0', lS, i64_w, i32_w]
       rfl
      refine one_ (i := 4) (N := some 22) #[true, true, true, true, true, false, false, false, true, false, false] rfl rfl (one_of HT_.out (by kernel_rfl)) (by decide) (fun K hK => ?_)
      refine goes_ Try.func27 (by kernel_rfl) rfl #[.agg #[.int .i64 t165, .int .i64 t166], .agg #[.int .i64 t167, .int .i64 t168]] (by rfl) rfl rfl (by (try simp only [mA, mC, mN]); first | done | rfl) ?_
      with_reducible refine (impl_AddFractions.calls k t165 t166 t167 t168 t169 t170 t171 _ A8.out).mono ?_
      rintro e w81 ⟨rfl, hb⟩
      refine ⟨_, rfl, ?_⟩
      have n0_ := aK (bB (by (with_reducible repeat (first | refine bN ?_ _ | refine bD ?_ | refine bA ?_ _)); exact BK155.out) hb)
      have n1_ := aK (bB (by (with_reducible repeat (first | refine bN ?_ _ | refine bD ?_ | refine bA ?_ _)); exact BK156.out) hb)
      have n2_ := aK (bB (by (with_reducible repeat (first | refine bN ?_ _ | refine bD ?_ | refine bA ?_ _)); exact BK164.out) hb)
      have n3_ := aK (bB (by (with_reducible repeat (first | refine bN ?_ _ | refine bD ?_ | refine bA ?_ _)); exact BK172.out) hb)
      have n4_ := aK (below_step (by repeat (first | (with_reducible first | exact HB.out | apply bL | apply bM | apply b1 | refine bS ?_ GE155.out | refine bS ?_ GE156.out | refine bS ?_ GE164.out | refine bS ?_ GE172.out) | exact HB.out)) hb)
      clear BK155
      clear BK156
      clear BK164
      clear BK172
      clear HB
      have BK155 := n0_
      have BK156 := n1_
      have BK164 := n2_
      have BK172 := n3_
      have HB := n4_
      clear n0_ n1_ n2_ n3_ n4_
      (try clear hb)
      (try clear hb2)
      (try clear hk)
      (try clear hi)
      refine hK.out _ _ ⟨(bC BK155.out 0).trans rfl, (bC BK155.out 1).trans rfl, (bC BK156.out 0).trans rfl, (bC BK156.out 1).trans rfl⟩ (fun hHeld => ?_)
      clear hK K
      refine norm_ (a' := ?_) ?_ ?_
      rotate_left
      ·show Act.put _ (some 22) _ = _
       simp only [Act.put, lA, l0', lS, i64_w, i32_w]
       rfl
      refine pure_ (i := 5) (N := some 17) (v := ?_) (a' := ?_) #[true, true, true, true, true, true, false, false, true, false, false] rfl rfl (any_of HT_.out (by kernel_rfl)) (fun _ _ _ h => h) (Or.inl ⟨by rfl, ?_⟩) ?_ ?_
      rotate_left
      ·intro w'
       go_simp
       with_reducible rfl
      rotate_left
      ·simp only [Act.put, lA, l0', lS, i64_w, i32_w]
       rfl
      refine pure_ (i := 6) (N := some 23) (v := ?_) (a' := ?_) #[true, true, true, true, true, true, true, false, true, false, false] rfl rfl (any_of HT_.out (by kernel_rfl)) (fun _ _ _ h => h) (Or.inl ⟨by rfl, ?_⟩) ?_ ?_
      rotate_left
      ·intro w'
       go_simp
       with_reducible rfl
      rotate_left
      ·simp only [Act.put, lA, l0', lS, i64_w, i32_w]
       rfl
      refine pure_ (i := 7) (N := some 24) (v := ?_) (a' := ?_) #[true, true, true, true, true, true, true, true, true, false, false] rfl rfl (any_of HT_.out (by kernel_rfl)) (fun _ _ _ h => h) (Or.inl ⟨by rfl, ?_⟩) ?_ ?_
      rotate_left
      ·intro w'
       go_simp
       with_reducible rfl
      rotate_left
      ·simp only [Act.put, lA, l0', lS, i64_w, i32_w]
       rfl
      exact norm_ (by simp only [putAll, Act.put, lA, l0', lS]) (hCont (gb172) _ ⟨hHeld, (by (with_reducible repeat (first | refine bN ?_ _ | refine bD ?_ | refine bA ?_ _)); exact BK155.out), (by (with_reducible repeat (first | refine bN ?_ _ | refine bD ?_ | refine bA ?_ _)); exact BK156.out), (by (with_reducible repeat (first | refine bN ?_ _ | refine bD ?_ | refine bA ?_ _)); exact BK164.out), (by (with_reducible repeat (first | refine bN ?_ _ | refine bD ?_ | refine bA ?_ _)); exact BK172.out), GW172.out, GE172.out, NB155_172.out, NB172_155.out, NB156_172.out, NB172_156.out, NB164_172.out, NB172_164.out, (by repeat (first | (with_reducible first | exact HB.out | apply bL | apply bM | apply b1 | refine bS ?_ GE155.out | refine bS ?_ GE156.out | refine bS ?_ GE164.out | refine bS ?_ GE172.out) | exact HB.out))⟩)
    ·skip
     refine box_step ?hg (N := 7) ?hd (cs := #[.int .i64 0, .int .i64 0]) (t := 27) ?hr ?_; (case hd => rfl); (case hg => rfl); (case hr => first | (go_simp; done) | (go_simp; rfl))
     intro gb172 hg w79 hbox hb
     have n0_ := aK (bB (by (with_reducible repeat (first | refine bN ?_ _ | refine bD ?_ | refine bA ?_ _)); exact BK155.out) hb)
     have n1_ := aK (bB (by (with_reducible repeat (first | refine bN ?_ _ | refine bD ?_ | refine bA ?_ _)); exact BK156.out) hb)
     have n2_ := aK (bB (by (with_reducible repeat (first | refine bN ?_ _ | refine bD ?_ | refine bA ?_ _)); exact BK164.out) hb)
     have n3_ := aK (below_step (by repeat (first | (with_reducible first | exact HB.out | apply bL | apply bM | apply b1 | refine bS ?_ GE155.out | refine bS ?_ GE156.out | refine bS ?_ GE164.out) | exact HB.out)) hb)
     have n4_ := aK (hbox)
     have n5_ := aK ((by rw [hg]; exact (below_size (by repeat (first | (with_reducible first | exact HB.out | apply bL | apply bM | apply b1 | refine bS ?_ GE155.out | refine bS ?_ GE156.out | refine bS ?_ GE164.out) | exact HB.out))) : w.heap.size ≤ gb172))
     have n6_ := aK ((by rw [hg]; exact (below_size (by repeat (first | (with_reducible first | exact HB.out | apply bL | apply bM | apply b1 | refine bS ?_ GE155.out | refine bS ?_ GE156.out | refine bS ?_ GE164.out) | exact HB.out))) : w.heap.size ≤ gb172))
     have n7_ := aK ((by rw [hg]; exact Nat.ne_of_lt (blk_lt (by (with_reducible repeat (first | refine bN ?_ _ | refine bD ?_ | refine bA ?_ _)); exact BK155.out)) : gb155 ≠ gb172))
     have n8_ := aK ((by rw [hg]; exact Nat.ne_of_gt (blk_lt (by (with_reducible repeat (first | refine bN ?_ _ | refine bD ?_ | refine bA ?_ _)); exact BK155.out)) : gb172 ≠ gb155))
     have n9_ := aK ((by rw [hg]; exact Nat.ne_of_lt (blk_lt (by (with_reducible repeat (first | refine bN ?_ _ | refine bD ?_ | refine bA ?_ _)); exact BK156.out)) : gb156 ≠ gb172))
     have n10_ := aK ((by rw [hg]; exact Nat.ne_of_gt (blk_lt (by (with_reducible repeat (first | refine bN ?_ _ | refine bD ?_ | refine bA ?_ _)); exact BK156.out)) : gb172 ≠ gb156))
     have n11_ := aK ((by rw [hg]; exact Nat.ne_of_lt (blk_lt (by (with_reducible repeat (first | refine bN ?_ _ | refine bD ?_ | refine bA ?_ _)); exact BK164.out)) : gb164 ≠ gb172))
     have n12_ := aK ((by rw [hg]; exact Nat.ne_of_gt (blk_lt (by (with_reducible repeat (first | refine bN ?_ _ | refine bD ?_ | refine bA ?_ _)); exact BK164.out)) : gb172 ≠ gb164))
     clear BK155
     clear BK156
     clear BK164
     clear HB
     have BK155 := n0_
     have BK156 := n1_
     have BK164 := n2_
     have HB := n3_
     have BK172 := n4_
     have GW172 := n5_
     have GE172 := n6_
     have NB155_172 := n7_
     have NB172_155 := n8_
     have NB156_172 := n9_
     have NB172_156 := n10_
     have NB164_172 := n11_
     have NB172_164 := n12_
     clear n0_ n1_ n2_ n3_ n4_ n5_ n6_ n7_ n8_ n9_ n10_ n11_ n12_
     clear hb hbox hg
     refine hK.out _ _ ⟨(bC BK155.out 0).trans rfl, (bC BK155.out 1).trans rfl, (bC BK156.out 0).trans rfl, (bC BK156.out 1).trans rfl⟩ (fun hHeld => ?_)
     clear hK K
     refine norm_ (a' := ?_) ?_ ?_
     rotate_left
     ·show Act.put _ (some 7) _ = _
      simp only [Act.put, lA, l0', lS, i64_w, i32_w]
      rfl
     refine one_ (i := 3) (N := some 21) #[true, true, true, true, false, false, false, false, true, false, false] rfl rfl (one_of HT_.out (by kernel_rfl)) (by decide) (fun K hK => ?_)
     refine goes_ Try.func15 (by kernel_rfl) rfl #[.agg #[.int .i64 a1_0, .int .i64 a1_1]] (by rfl) rfl rfl (by (try simp only [mA, mC, mN]); first | done | rfl) ?_
     with_reducible refine (laws_toFraction.calls a1_0 a1_1 t167 t168 _ A7.out).mono ?_
     rintro e w80 ⟨rfl, hb⟩
     refine ⟨_, rfl, ?_⟩
     have n0_ := aK (bB (by (with_reducible repeat (first | refine bN ?_ _ | refine bD ?_ | refine bA ?_ _)); exact BK155.out) hb)
     have n1_ := aK (bB (by (with_reducible repeat (first | refine bN ?_ _ | refine bD ?_ | refine bA ?_ _)); exact BK156.out) hb)
     have n2_ := aK (bB (by (with_reducible repeat (first | refine bN ?_ _ | refine bD ?_ | refine bA ?_ _)); exact BK164.out) hb)
     have n3_ := aK (bB (by (with_reducible repeat (first | refine bN ?_ _ | refine bD ?_ | refine bA ?_ _)); exact BK172.out) hb)
     have n4_ := aK (below_step (by repeat (first | (with_reducible first | exact HB.out | apply bL | apply bM | apply b1 | refine bS ?_ GE155.out | refine bS ?_ GE156.out | refine bS ?_ GE164.out | refine bS ?_ GE172.out) | exact HB.out)) hb)
     clear BK155
     clear BK156
     clear BK164
     clear BK172
     clear HB
     have BK155 := n0_
     have BK156 := n1_
     have BK164 := n2_
     have BK172 := n3_
     have HB := n4_
     clear n0_ n1_ n2_ n3_ n4_
     (try clear hb)
     (try clear hb2)
     (try clear hk)
     (try clear hi)
     refine hK.out _ _ ⟨(bC BK155.out 0).trans rfl, (bC BK155.out 1).trans rfl, (bC BK156.out 0).trans rfl, (bC BK156.out 1).trans rfl⟩ (fun hHeld => ?_)
     clear hK K
     refine norm_ (a' := ?_) ?_ ?_
     rotate_left
     ·show Act.put _ (some 21) _ = _
      simp only [Act.put, lA, l0', lS, i64_w, i32_w]
      rfl
     refine one_ (i := 4) (N := some 22) #[true, true, true, true, true, false, false, false, true, false, false] rfl rfl (one_of HT_.out (by kernel_rfl)) (by decide) (fun K hK => ?_)
     refine goes_ Try.func27 (by kernel_rfl) rfl #[.agg #[.int .i64 t165, .int .i64 t166], .agg #[.int .i64 t167, .int .i64 t168]] (by rfl) rfl rfl (by (try simp only [mA, mC, mN]); first | done | rfl) ?_
     with_reducible refine (impl_AddFractions.calls k t165 t166 t167 t168 t169 t170 t171 _ A8.out).mono ?_
     rintro e w81 ⟨rfl, hb⟩
     refine ⟨_, rfl, ?_⟩
     have n0_ := aK (bB (by (with_reducible repeat (first | refine bN ?_ _ | refine bD ?_ | refine bA ?_ _)); exact BK155.out) hb)
     have n1_ := aK (bB (by (with_reducible repeat (first | refine bN ?_ _ | refine bD ?_ | refine bA ?_ _)); exact BK156.out) hb)
     have n2_ := aK (bB (by (with_reducible repeat (first | refine bN ?_ _ | refine bD ?_ | refine bA ?_ _)); exact BK164.out) hb)
     have n3_ := aK (bB (by (with_reducible repeat (first | refine bN ?_ _ | refine bD ?_ | refine bA ?_ _)); exact BK172.out) hb)
     have n4_ := aK (below_step (by repeat (first | (with_reducible first | exact HB.out | apply bL | apply bM | apply b1 | refine bS ?_ GE155.out | refine bS ?_ GE156.out | refine bS ?_ GE164.out | refine bS ?_ GE172.out) | exact HB.out)) hb)
     clear BK155
     clear BK156
     clear BK164
     clear BK172
     clear HB
     have BK155 := n0_
     have BK156 := n1_
     have BK164 := n2_
     have BK172 := n3_
     have HB := n4_
     clear n0_ n1_ n2_ n3_ n4_
     (try clear hb)
     (try clear hb2)
     (try clear hk)
     (try clear hi)
     refine hK.out _ _ ⟨(bC BK155.out 0).trans rfl, (bC BK155.out 1).trans rfl, (bC BK156.out 0).trans rfl, (bC BK156.out 1).trans rfl⟩ (fun hHeld => ?_)
     clear hK K
     refine norm_ (a' := ?_) ?_ ?_
     rotate_left
     ·show Act.put _ (some 22) _ = _
      simp only [Act.put, lA, l0', lS, i64_w, i32_w]
      rfl
     refine pure_ (i := 5) (N := some 17) (v := ?_) (a' := ?_) #[true, true, true, true, true, true, false, false, true, false, false] rfl rfl (any_of HT_.out (by kernel_rfl)) (fun _ _ _ h => h) (Or.inl ⟨by rfl, ?_⟩) ?_ ?_
     rotate_left
     ·intro w'
      go_simp
      with_reducible rfl
     rotate_left
     ·simp only [Act.put, lA, l0', lS, i64_w, i32_w]
      rfl
     refine pure_ (i := 6) (N := some 23) (v := ?_) (a' := ?_) #[true, true, true, true, true, true, true, false, true, false, false] rfl rfl (any_of HT_.out (by kernel_rfl)) (fun _ _ _ h => h) (Or.inl ⟨by rfl, ?_⟩) ?_ ?_
     rotate_left
     ·intro w'
      go_simp
      with_reducible rfl
     rotate_left
     ·simp only [Act.put, lA, l0', lS, i64_w, i32_w]
      rfl
     refine pure_ (i := 7) (N := some 24) (v := ?_) (a' := ?_) #[true, true, true, true, true, true, true, true, true, false, false] rfl rfl (any_of HT_.out (by kernel_rfl)) (fun _ _ _ h => h) (Or.inl ⟨by rfl, ?_⟩) ?_ ?_
     rotate_left
     ·intro w'
      go_simp
      with_reducible rfl
     rotate_left
     ·simp only [Act.put, lA, l0', lS, i64_w, i32_w]
      rfl
     exact norm_ (by simp only [putAll, Act.put, lA, l0', lS]) (hCont (gb172) _ ⟨hHeld, (by (with_reducible repeat (first | refine bN ?_ _ | refine bD ?_ | refine bA ?_ _)); exact BK155.out), (by (with_reducible repeat (first | refine bN ?_ _ | refine bD ?_ | refine bA ?_ _)); exact BK156.out), (by (with_reducible repeat (first | refine bN ?_ _ | refine bD ?_ | refine bA ?_ _)); exact BK164.out), (by (with_reducible repeat (first | refine bN ?_ _ | refine bD ?_ | refine bA ?_ _)); exact BK172.out), GW172.out, GE172.out, NB155_172.out, NB172_155.out, NB156_172.out, NB172_156.out, NB164_172.out, NB172_164.out, (by repeat (first | (with_reducible first | exact HB.out | apply bL | apply bM | apply b1 | refine bS ?_ GE155.out | refine bS ?_ GE156.out | refine bS ?_ GE164.out | refine bS ?_ GE172.out) | exact HB.out))⟩)
   ·skip
    refine box_step ?hg (N := 7) ?hd (cs := #[.int .i64 0, .int .i64 0]) (t := 27) ?hr ?_; (case hd => rfl); (case hg => rfl); (case hr => first | (go_simp; done) | (go_simp; rfl))
    intro gb172 hg w78 hbox hb
    have n0_ := aK (bB (by (with_reducible repeat (first | refine bN ?_ _ | refine bD ?_ | refine bA ?_ _)); exact BK155.out) hb)
    have n1_ := aK (bB (by (with_reducible repeat (first | refine bN ?_ _ | refine bD ?_ | refine bA ?_ _)); exact BK156.out) hb)
    have n2_ := aK (bB (by (with_reducible repeat (first | refine bN ?_ _ | refine bD ?_ | refine bA ?_ _)); exact BK164.out) hb)
    have n3_ := aK (below_step (by repeat (first | (with_reducible first | exact HB.out | apply bL | apply bM | apply b1 | refine bS ?_ GE155.out | refine bS ?_ GE156.out | refine bS ?_ GE164.out) | exact HB.out)) hb)
    have n4_ := aK (hbox)
    have n5_ := aK ((by rw [hg]; exact (below_size (by repeat (first | (with_reducible first | exact HB.out | apply bL | apply bM | apply b1 | refine bS ?_ GE155.out | refine bS ?_ GE156.out | refine bS ?_ GE164.out) | exact HB.out))) : w.heap.size ≤ gb172))
    have n6_ := aK ((by rw [hg]; exact (below_size (by repeat (first | (with_reducible first | exact HB.out | apply bL | apply bM | apply b1 | refine bS ?_ GE155.out | refine bS ?_ GE156.out | refine bS ?_ GE164.out) | exact HB.out))) : w.heap.size ≤ gb172))
    have n7_ := aK ((by rw [hg]; exact Nat.ne_of_lt (blk_lt (by (with_reducible repeat (first | refine bN ?_ _ | refine bD ?_ | refine bA ?_ _)); exact BK155.out)) : gb155 ≠ gb172))
    have n8_ := aK ((by rw [hg]; exact Nat.ne_of_gt (blk_lt (by (with_reducible repeat (first | refine bN ?_ _ | refine bD ?_ | refine bA ?_ _)); exact BK155.out)) : gb172 ≠ gb155))
    have n9_ := aK ((by rw [hg]; exact Nat.ne_of_lt (blk_lt (by (with_reducible repeat (first | refine bN ?_ _ | refine bD ?_ | refine bA ?_ _)); exact BK156.out)) : gb156 ≠ gb172))
    have n10_ := aK ((by rw [hg]; exact Nat.ne_of_gt (blk_lt (by (with_reducible repeat (first | refine bN ?_ _ | refine bD ?_ | refine bA ?_ _)); exact BK156.out)) : gb172 ≠ gb156))
    have n11_ := aK ((by rw [hg]; exact Nat.ne_of_lt (blk_lt (by (with_reducible repeat (first | refine bN ?_ _ | refine bD ?_ | refine bA ?_ _)); exact BK164.out)) : gb164 ≠ gb172))
    have n12_ := aK ((by rw [hg]; exact Nat.ne_of_gt (blk_lt (by (with_reducible repeat (first | refine bN ?_ _ | refine bD ?_ | refine bA ?_ _)); exact BK164.out)) : gb172 ≠ gb164))
    clear BK155
    clear BK156
    clear BK164
    clear HB
    have BK155 := n0_
    have BK156 := n1_
    have BK164 := n2_
    have HB := n3_
    have BK172 := n4_
    have GW172 := n5_
    have GE172 := n6_
    have NB155_172 := n7_
    have NB172_155 := n8_
    have NB156_172 := n9_
    have NB172_156 := n10_
    have NB164_172 := n11_
    have NB172_164 := n12_
    clear n0_ n1_ n2_ n3_ n4_ n5_ n6_ n7_ n8_ n9_ n10_ n11_ n12_
    clear hb hbox hg
    refine hK.out _ _ ⟨(bC BK155.out 0).trans rfl, (bC BK155.out 1).trans rfl, (bC BK156.out 0).trans rfl, (bC BK156.out 1).trans rfl⟩ (fun hHeld => ?_)
    clear hK K
    refine norm_ (a' := ?_) ?_ ?_
    rotate_left
    ·show Act.put _ (some 7) _ = _
     simp only [Act.put, lA, l0', lS, i64_w, i32_w]
     rfl
    refine one_ (i := 1) (N := some 19) #[true, true, true, false, false, false, false, false, true, false, false] rfl rfl (one_of HT_.out (by kernel_rfl)) (by decide) (fun K hK => ?_)
    refine goes_ Try.func15 (by kernel_rfl) rfl #[.agg #[.int .i64 a0_0, .int .i64 a0_1]] (by rfl) rfl rfl (by (try simp only [mA, mC, mN]); first | done | rfl) ?_
    with_reducible refine (laws_toFraction.calls a0_0 a0_1 t165 t166 _ A6.out).mono ?_
    rintro e w79 ⟨rfl, hb⟩
    refine ⟨_, rfl, ?_⟩
    have n0_ := aK (bB (by (with_reducible repeat (first | refine bN ?_ _ | refine bD ?_ | refine bA ?_ _)); exact BK155.out) hb)
    have n1_ := aK (bB (by (with_reducible repeat (first | refine bN ?_ _ | refine bD ?_ | refine bA ?_ _)); exact BK156.out) hb)
    have n2_ := aK (bB (by (with_reducible repeat (first | refine bN ?_ _ | refine bD ?_ | refine bA ?_ _)); exact BK164.out) hb)
    have n3_ := aK (bB (by (with_reducible repeat (first | refine bN ?_ _ | refine bD ?_ | refine bA ?_ _)); exact BK172.out) hb)
    have n4_ := aK (below_step (by repeat (first | (with_reducible first | exact HB.out | apply bL | apply bM | apply b1 | refine bS ?_ GE155.out | refine bS ?_ GE156.out | refine bS ?_ GE164.out | refine bS ?_ GE172.out) | exact HB.out)) hb)
    clear BK155
    clear BK156
    clear BK164
    clear BK172
    clear HB
    have BK155 := n0_
    have BK156 := n1_
    have BK164 := n2_
    have BK172 := n3_
    have HB := n4_
    clear n0_ n1_ n2_ n3_ n4_
    (try clear hb)
    (try clear hb2)
    (try clear hk)
    (try clear hi)
    refine hK.out _ _ ⟨(bC BK155.out 0).trans rfl, (bC BK155.out 1).trans rfl, (bC BK156.out 0).trans rfl, (bC BK156.out 1).trans rfl⟩ (fun hHeld => ?_)
    clear hK K
    refine norm_ (a' := ?_) ?_ ?_
    rotate_left
    ·show Act.put _ (some 19) _ = _
     simp only [Act.put, lA, l0', lS, i64_w, i32_w]
     rfl
    refine one_ (i := 3) (N := some 21) #[true, true, true, true, false, false, false, false, true, false, false] rfl rfl (one_of HT_.out (by kernel_rfl)) (by decide) (fun K hK => ?_)
    refine goes_ Try.func15 (by kernel_rfl) rfl #[.agg #[.int .i64 a1_0, .int .i64 a1_1]] (by rfl) rfl rfl (by (try simp only [mA, mC, mN]); first | done | rfl) ?_
    with_reducible refine (laws_toFraction.calls a1_0 a1_1 t167 t168 _ A7.out).mono ?_
    rintro e w80 ⟨rfl, hb⟩
    refine ⟨_, rfl, ?_⟩
    have n0_ := aK (bB (by (with_reducible repeat (first | refine bN ?_ _ | refine bD ?_ | refine bA ?_ _)); exact BK155.out) hb)
    have n1_ := aK (bB (by (with_reducible repeat (first | refine bN ?_ _ | refine bD ?_ | refine bA ?_ _)); exact BK156.out) hb)
    have n2_ := aK (bB (by (with_reducible repeat (first | refine bN ?_ _ | refine bD ?_ | refine bA ?_ _)); exact BK164.out) hb)
    have n3_ := aK (bB (by (with_reducible repeat (first | refine bN ?_ _ | refine bD ?_ | refine bA ?_ _)); exact BK172.out) hb)
    have n4_ := aK (below_step (by repeat (first | (with_reducible first | exact HB.out | apply bL | apply bM | apply b1 | refine bS ?_ GE155.out | refine bS ?_ GE156.out | refine bS ?_ GE164.out | refine bS ?_ GE172.out) | exact HB.out)) hb)
    clear BK155
    clear BK156
    clear BK164
    clear BK172
    clear HB
    have BK155 := n0_
    have BK156 := n1_
    have BK164 := n2_
    have BK172 := n3_
    have HB := n4_
    clear n0_ n1_ n2_ n3_ n4_
    (try clear hb)
    (try clear hb2)
    (try clear hk)
    (try clear hi)
    refine hK.out _ _ ⟨(bC BK155.out 0).trans rfl, (bC BK155.out 1).trans rfl, (bC BK156.out 0).trans rfl, (bC BK156.out 1).trans rfl⟩ (fun hHeld => ?_)
    clear hK K
    refine norm_ (a' := ?_) ?_ ?_
    rotate_left
    ·show Act.put _ (some 21) _ = _
     simp only [Act.put, lA, l0', lS, i64_w, i32_w]
     rfl
    refine one_ (i := 4) (N := some 22) #[true, true, true, true, true, false, false, false, true, false, false] rfl rfl (one_of HT_.out (by kernel_rfl)) (by decide) (fun K hK => ?_)
    refine goes_ Try.func27 (by kernel_rfl) rfl #[.agg #[.int .i64 t165, .int .i64 t166], .agg #[.int .i64 t167, .int .i64 t168]] (by rfl) rfl rfl (by (try simp only [mA, mC, mN]); first | done | rfl) ?_
    with_reducible refine (impl_AddFractions.calls k t165 t166 t167 t168 t169 t170 t171 _ A8.out).mono ?_
    rintro e w81 ⟨rfl, hb⟩
    refine ⟨_, rfl, ?_⟩
    have n0_ := aK (bB (by (with_reducible repeat (first | refine bN ?_ _ | refine bD ?_ | refine bA ?_ _)); exact BK155.out) hb)
    have n1_ := aK (bB (by (with_reducible repeat (first | refine bN ?_ _ | refine bD ?_ | refine bA ?_ _)); exact BK156.out) hb)
    have n2_ := aK (bB (by (with_reducible repeat (first | refine bN ?_ _ | refine bD ?_ | refine bA ?_ _)); exact BK164.out) hb)
    have n3_ := aK (bB (by (with_reducible repeat (first | refine bN ?_ _ | refine bD ?_ | refine bA ?_ _)); exact BK172.out) hb)
    have n4_ := aK (below_step (by repeat (first | (with_reducible first | exact HB.out | apply bL | apply bM | apply b1 | refine bS ?_ GE155.out | refine bS ?_ GE156.out | refine bS ?_ GE164.out | refine bS ?_ GE172.out) | exact HB.out)) hb)
    clear BK155
    clear BK156
    clear BK164
    clear BK172
    clear HB
    have BK155 := n0_
    have BK156 := n1_
    have BK164 := n2_
    have BK172 := n3_
    have HB := n4_
    clear n0_ n1_ n2_ n3_ n4_
    (try clear hb)
    (try clear hb2)
    (try clear hk)
    (try clear hi)
    refine hK.out _ _ ⟨(bC BK155.out 0).trans rfl, (bC BK155.out 1).trans rfl, (bC BK156.out 0).trans rfl, (bC BK156.out 1).trans rfl⟩ (fun hHeld => ?_)
    clear hK K
    refine norm_ (a' := ?_) ?_ ?_
    rotate_left
    ·show Act.put _ (some 22) _ = _
     simp only [Act.put, lA, l0', lS, i64_w, i32_w]
     rfl
    refine pure_ (i := 5) (N := some 17) (v := ?_) (a' := ?_) #[true, true, true, true, true, true, false, false, true, false, false] rfl rfl (any_of HT_.out (by kernel_rfl)) (fun _ _ _ h => h) (Or.inl ⟨by rfl, ?_⟩) ?_ ?_
    rotate_left
    ·intro w'
     go_simp
     with_reducible rfl
    rotate_left
    ·simp only [Act.put, lA, l0', lS, i64_w, i32_w]
     rfl
    refine pure_ (i := 6) (N := some 23) (v := ?_) (a' := ?_) #[true, true, true, true, true, true, true, false, true, false, false] rfl rfl (any_of HT_.out (by kernel_rfl)) (fun _ _ _ h => h) (Or.inl ⟨by rfl, ?_⟩) ?_ ?_
    rotate_left
    ·intro w'
     go_simp
     with_reducible rfl
    rotate_left
    ·simp only [Act.put, lA, l0', lS, i64_w, i32_w]
     rfl
    refine pure_ (i := 7) (N := some 24) (v := ?_) (a' := ?_) #[true, true, true, true, true, true, true, true, true, false, false] rfl rfl (any_of HT_.out (by kernel_rfl)) (fun _ _ _ h => h) (Or.inl ⟨by rfl, ?_⟩) ?_ ?_
    rotate_left
    ·intro w'
     go_simp
     with_reducible rfl
    rotate_left
    ·simp only [Act.put, lA, l0', lS, i64_w, i32_w]
     rfl
    exact norm_ (by simp only [putAll, Act.put, lA, l0', lS]) (hCont (gb172) _ ⟨hHeld, (by (with_reducible repeat (first | refine bN ?_ _ | refine bD ?_ | refine bA ?_ _)); exact BK155.out), (by (with_reducible repeat (first | refine bN ?_ _ | refine bD ?_ | refine bA ?_ _)); exact BK156.out), (by (with_reducible repeat (first | refine bN ?_ _ | refine bD ?_ | refine bA ?_ _)); exact BK164.out), (by (with_reducible repeat (first | refine bN ?_ _ | refine bD ?_ | refine bA ?_ _)); exact BK172.out), GW172.out, GE172.out, NB155_172.out, NB172_155.out, NB156_172.out, NB172_156.out, NB164_172.out, NB172_164.out, (by repeat (first | (with_reducible first | exact HB.out | apply bL | apply bM | apply b1 | refine bS ?_ GE155.out | refine bS ?_ GE156.out | refine bS ?_ GE164.out | refine bS ?_ GE172.out) | exact HB.out))⟩)
  rintro gb172 w82 ⟨hS_, h0_, h1_, h2_, h3_, h4_, h5_, h6_, h7_, h8_, h9_, h10_, h11_, h12_⟩
  have n0_ : Aside0 (w82.heap[gb155]? = some (.cells #[.int .i64 a0_0, .int .i64 a0_1] 25 (0, 0))) := ⟨h0_⟩
  have n1_ : Aside0 (w82.heap[gb156]? = some (.cells #[.int .i64 a1_0, .int .i64 a1_1] 25 (0, 0))) := ⟨h1_⟩
  have n2_ : Aside0 (w82.heap[gb164]? = some (.cells #[.int .i64 t161, .int .i64 t162] 27 (0, 0))) := ⟨h2_⟩
  have n3_ : Aside0 (w82.heap[gb172]? = some (.cells #[.int .i64 0, .int .i64 0] 27 (0, 0))) := ⟨h3_⟩
  have n4_ : Aside0 (w.heap.size ≤ gb172) := ⟨h4_⟩
  have n5_ : Aside0 (w.heap.size ≤ gb172) := ⟨h5_⟩
  have n6_ : Aside0 (gb155 ≠ gb172) := ⟨h6_⟩
  have n7_ : Aside0 (gb172 ≠ gb155) := ⟨h7_⟩
  have n8_ : Aside0 (gb156 ≠ gb172) := ⟨h8_⟩
  have n9_ : Aside0 (gb172 ≠ gb156) := ⟨h9_⟩
  have n10_ : Aside0 (gb164 ≠ gb172) := ⟨h10_⟩
  have n11_ : Aside0 (gb172 ≠ gb164) := ⟨h11_⟩
  have n12_ : Aside0 (Below w.heap.size w w82) := ⟨h12_⟩
  clear BK155
  clear BK156
  clear BK164
  clear HB
  clear h0_ h1_ h2_ h3_ h4_ h5_ h6_ h7_ h8_ h9_ h10_ h11_ h12_
  have BK155 := n0_
  have BK156 := n1_
  have BK164 := n2_
  have BK172 := n3_
  have GW172 := n4_
  have GE172 := n5_
  have NB155_172 := n6_
  have NB172_155 := n7_
  have NB156_172 := n8_
  have NB172_156 := n9_
  have NB164_172 := n10_
  have NB172_164 := n11_
  have HB := n12_
  clear n0_ n1_ n2_ n3_ n4_ n5_ n6_ n7_ n8_ n9_ n10_ n11_ n12_
  have hHeld : w82.cell? ⟨gb155, 0, none⟩ = some (.int .i64 a0_0) ∧ w82.cell? ⟨gb155, 1, none⟩ = some (.int .i64 a0_1) ∧ w82.cell? ⟨gb156, 0, none⟩ = some (.int .i64 a1_0) ∧ w82.cell? ⟨gb156, 1, none⟩ = some (.int .i64 a1_1) := hS_
  refine norm_ (a' := ?_) ?_ ?_
  rotate_left
  ·simp only [putAll, Act.put, lA, l0', lS]
   rfl
  refine one_ (i := 9) (N := none) #[true, true, true, true, true, true, true, true, true, true, false] rfl rfl (one_of HT_.out (by kernel_rfl)) (by decide) (fun K hK => ?_)
  have hs83 : w82.cell? ⟨gb172, 0, none⟩ = some (.int .i64 0) := (bC BK172.out 0).trans rfl
  have hfs83 := blk_frozen BK172.out 0
  have hns83_0 := NB155_172.out
  have hns83_1 := NB156_172.out
  have hns83_2 := NB164_172.out
  have hms83_0 := NB172_155.out
  have hms83_1 := NB172_156.out
  have hms83_2 := NB172_164.out
  have hs84 : w82.cell? ⟨gb172, 1, none⟩ = some (.int .i64 0) := (bC BK172.out 1).trans rfl
  have hfs84 := blk_frozen BK172.out 1
  have hns84_0 := NB155_172.out
  have hns84_1 := NB156_172.out
  have hns84_2 := NB164_172.out
  have hms84_0 := NB172_155.out
  have hms84_1 := NB172_156.out
  have hms84_2 := NB172_164.out
  refine skip_ (w1 := ?_) (by rfl) rfl ?_ ?_
  rotate_left
  ·go_simp
   rfl
  refine hK.out _ _ ⟨((cell_far (p := ⟨gb172, _, none⟩) NB155_172.out _).trans (((cell_far (p := ⟨gb172, _, none⟩) NB155_172.out _).trans (hHeld.1)))), ((cell_far (p := ⟨gb172, _, none⟩) NB155_172.out _).trans (((cell_far (p := ⟨gb172, _, none⟩) NB155_172.out _).trans (hHeld.2.1)))), ((cell_far (p := ⟨gb172, _, none⟩) NB156_172.out _).trans (((cell_far (p := ⟨gb172, _, none⟩) NB156_172.out _).trans (hHeld.2.2.1)))), ((cell_far (p := ⟨gb172, _, none⟩) NB156_172.out _).trans (((cell_far (p := ⟨gb172, _, none⟩) NB156_172.out _).trans (hHeld.2.2.2))))⟩ (fun hHeld => ?_)
  clear hK K
  refine pure_ (i := 10) (N := some 8) (v := ?_) (a' := ?_) #[true, true, true, true, true, true, true, true, true, true, true] rfl rfl (any_of HT_.out (by kernel_rfl)) (fun _ _ _ h => h) (Or.inl ⟨by rfl, ?_⟩) ?_ ?_
  rotate_left
  ·intro w'
   go_simp
   with_reducible rfl
  rotate_left
  ·simp only [Act.put, lA, l0', lS, i64_w, i32_w]
   rfl
  refine done_ (done_of HT_.out (by kernel_rfl)) ?_
  have hnb85 := NB172_155.out
  have hnc85 := NB155_172.out
  have hnb86 := NB172_156.out
  have hnc86 := NB156_172.out
  have hnb87 := NB172_164.out
  have hnc87 := NB164_172.out
  have hcz88_0 : w82.cell? ⟨gb172, 0, none⟩ = some (.int .i64 0) := (bC BK172.out 0).trans rfl
  have hcz88_1 : w82.cell? ⟨gb172, 1, none⟩ = some (.int .i64 0) := (bC BK172.out 1).trans rfl
  have hfz88_0 := blk_frozen BK172.out 0
  have hfz88_1 := blk_frozen BK172.out 1
  have hnb89 := NB164_155.out
  have hnc89 := NB155_164.out
  have hnb90 := NB164_156.out
  have hnc90 := NB156_164.out
  have hcz91_0 : w82.cell? ⟨gb164, 0, none⟩ = some (.int .i64 t161) := (bC BK164.out 0).trans rfl
  have hcz91_1 : w82.cell? ⟨gb164, 1, none⟩ = some (.int .i64 t162) := (bC BK164.out 1).trans rfl
  have hfz91_0 := blk_frozen BK164.out 0
  have hfz91_1 := blk_frozen BK164.out 1
  try go_wp2_with (first | ((with_reducible refine gate_callee (f := 25) rfl ?_); refine goesL_ (some 27) rfl rfl Try.func25 (by kernel_rfl) rfl #[.agg #[.int .i64 t169, .int .i64 t170], .agg #[.int .i64 t161, .int .i64 t162]] rfl (by (try simp only [mA, mC, mN]); first | done | rfl) ?_; (with_reducible refine (laws_eqFraction.calls t169 t170 t161 t162 false _ A9.out).mono ?_); rintro e w92 ⟨rfl, hb⟩; refine ⟨_, rfl, ?_⟩; have n0_ := aK (bB (g := gb155) (o := .cells #[.int .i64 a0_0, .int .i64 a0_1] 25 (0, 0)) (by (with_reducible repeat (first | refine bN ?_ _ | refine bD ?_ | refine bA ?_ _)); refine blk_far ?_ NB155_172.out _; (with_reducible repeat (first | refine bN ?_ _ | refine bD ?_ | refine bA ?_ _)); refine blk_far ?_ NB155_172.out _; (with_reducible repeat (first | refine bN ?_ _ | refine bD ?_ | refine bA ?_ _)); exact BK155.out) hb); have n1_ := aK (bB (g := gb156) (o := .cells #[.int .i64 a1_0, .int .i64 a1_1] 25 (0, 0)) (by (with_reducible repeat (first | refine bN ?_ _ | refine bD ?_ | refine bA ?_ _)); refine blk_far ?_ NB156_172.out _; (with_reducible repeat (first | refine bN ?_ _ | refine bD ?_ | refine bA ?_ _)); refine blk_far ?_ NB156_172.out _; (with_reducible repeat (first | refine bN ?_ _ | refine bD ?_ | refine bA ?_ _)); exact BK156.out) hb); have n2_ := aK (bB (g := gb164) (o := .cells #[.int .i64 t161, .int .i64 t162] 27 (0, 0)) (by (with_reducible repeat (first | refine bN ?_ _ | refine bD ?_ | refine bA ?_ _)); refine blk_far ?_ NB164_172.out _; (with_reducible repeat (first | refine bN ?_ _ | refine bD ?_ | refine bA ?_ _)); refine blk_far ?_ NB164_172.out _; (with_reducible repeat (first | refine bN ?_ _ | refine bD ?_ | refine bA ?_ _)); exact BK164.out) hb); have n3_ := aK (bB (g := gb172) (o := .cells #[.int .i64 t169, .int .i64 t170] 27 (0, 0)) (by (with_reducible repeat (first | refine bN ?_ _ | refine bD ?_ | refine bA ?_ _)); refine blk_put (cs := #[.int .i64 t169, .int .i64 0]) ?_ 1 _ rfl; (with_reducible repeat (first | refine bN ?_ _ | refine bD ?_ | refine bA ?_ _)); refine blk_put (cs := #[.int .i64 0, .int .i64 0]) ?_ 0 _ rfl; (with_reducible repeat (first | refine bN ?_ _ | refine bD ?_ | refine bA ?_ _)); exact BK172.out) hb); have n4_ := aK (below_step (by repeat (first | (with_reducible first | exact HB.out | apply bL | apply bM | apply b1 | refine bS ?_ GE155.out | refine bS ?_ GE156.out | refine bS ?_ GE164.out | refine bS ?_ GE172.out) | exact HB.out)) hb); clear BK155; clear BK156; clear BK164; clear BK172; clear HB; have BK155 := n0_; have BK156 := n1_; have BK164 := n2_; have BK172 := n3_; have HB := n4_; clear n0_ n1_ n2_ n3_ n4_; (try clear hb); (try clear hb2); (try clear hk); (try clear hi)))
  go_ret
  exact ⟨by first | rfl | (simp [errW_none, errW_some] <;> rfl) | (simp [*, errW_none, errW_some] <;> rfl), by repeat (first | (with_reducible first | exact HB.out | apply bL | apply bM | apply b1 | refine bS ?_ GE155.out | refine bS ?_ GE156.out | refine bS ?_ GE164.out | refine bS ?_ GE172.out) | exact HB.out)⟩

end Go.Proofs.Ytnkdjddnppajaaa.QFnExactAddFractions
