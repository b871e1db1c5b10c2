/- The functions that the law FnExactIsLoosePlay reaches, as plain functions, and the walks that show that the machine's calls answer so. Written by a program of this session (wip/myprint.py) on the kit's print. -/
import Derived.Test.YtakepkjcmgcepaaQFnExactIsLoosePlayx0
import Derived.Test.YtakepkjcmgcepaaQFnExactIsLoosePlayx1
import Derived.Test.YtakepkjcmgcepaaQFnExactIsLoosePlayx5
import Derived.Test.YtakepkjcmgcepaaQFnExactIsLoosePlayx6
import Derived.Test.YtakepkjcmgcepaaQFnExactIsLoosePlayx10
namespace Go.Proofs.Ytakepkjcmgcepaa.QFnExactIsLoosePlay
open Go.RowKit Go.Proofs.YtakepkjcmgcepaaW.PrintWords Go.Proofs.YtakepkjcmgcepaaW.PrintLast Go.Proofs.YtakepkjcmgcepaaW.PrintMore
attribute [local go_sem] max2_int min2_int max_two min_two max_three min_three max_four min_four   -- for this text's walks alone
set_option linter.unusedVariables false
set_option linter.unusedSimpArgs false

/-! ### laws_FnExactIsLoosePlay: function 8 -/
def laws_FnExactIsLoosePlay.f (k : Nat) (l0_0 : List (List Int)) (a1_0 : Int) (a1_1 : Int) (l1_2 : List Int) : Option (Bool) := (laws_szDeal.f k l0_0 1048576).bind fun t304 => (if t304 < 0 then (some true) else ((laws_szPlay.f a1_0 a1_1 l1_2 t304).bind fun t305 => (if t305 < 0 then (some true) else ((laws_toDeal.f k l0_0).bind fun t306 => ((laws_toPlay.f k a1_0 a1_1 l1_2).bind fun bt309 => ((spec_IsLoosePlay.f k t306 bt309.1 bt309.2.1 bt309.2.2).bind fun t314 => ((laws_toDeal.f k l0_0).bind fun t315 => ((laws_toPlay.f k a1_0 a1_1 l1_2).bind fun bt319 => ((impl_IsLoosePlay.f k t315 bt319.1 bt319.2.1 bt319.2.2).bind fun t325 => (if (t325 != t314) = true then (some false) else ((laws_toDeal.f k l0_0).bind fun t326 => ((laws_eqDeal.f k t315 t326).bind fun t329 => (if t329 = true then ((laws_toPlay.f k a1_0 a1_1 l1_2).bind fun bt330 => ((laws_eqPlay.f k bt319.1 bt319.2.1 bt319.2.2 bt330.1 bt330.2.1 bt330.2.2).bind fun t335 => (if t335 = true then (some true) else (some false)))) else (some false))))))))))))))
theorem laws_FnExactIsLoosePlay.mono : ∀ a0 a1 a2 a3 k, LeO (laws_FnExactIsLoosePlay.f k a0 a1 a2 a3) (laws_FnExactIsLoosePlay.f (k + 1) a0 a1 a2 a3) := by
 intro a0 a1 a2 a3 k
 unfold laws_FnExactIsLoosePlay.f
 repeat' first
   | (with_reducible exact impl_IsLoosePlay.mono _ _ _ _ _)
   | (with_reducible exact laws_eqDeal.mono _ _ _)
   | (with_reducible exact laws_eqPlay.mono _ _ _ _ _ _ _)
   | (with_reducible exact laws_szDeal.mono _ _ _)
   | (with_reducible exact laws_toDeal.mono _ _)
   | (with_reducible exact laws_toPlay.mono _ _ _ _)
   | (with_reducible exact spec_IsLoosePlay.mono _ _ _ _ _)
   | (with_reducible exact LeO.refl _)
   | (with_reducible exact LeO.none _)
   | (with_reducible refine LeO.ite ?_ ?_)
   | (with_reducible refine LeO.bind ?_ (fun _ => ?_))
   | exact impl_IsLoosePlay.mono _ _ _ _ _
   | exact laws_eqDeal.mono _ _ _
   | exact laws_eqPlay.mono _ _ _ _ _ _ _
   | exact laws_szDeal.mono _ _ _
   | exact laws_toDeal.mono _ _
   | exact laws_toPlay.mono _ _ _ _
   | exact spec_IsLoosePlay.mono _ _ _ _ _
   | exact LeO.none _
   | refine LeO.ite ?_ ?_
   | refine LeO.bind ?_ (fun _ => ?_)
set_option maxHeartbeats 8000000 in
set_option maxRecDepth 100000 in
theorem laws_FnExactIsLoosePlay.calls (k : Nat) (A0_0 : Option Addr) (c0_0 : Nat) (l0_0 : List (List Int)) (a1_0 : Int) (a1_1 : Int) (A1_2 : Option Addr) (c1_2 : Nat) (l1_2 : List Int) (r : Bool) (w : World) (hr0_0 : Kd.C (Kd.slice 2 (Kd.int .i64)) w A0_0 l0_0.length l0_0) (hc0_0 : l0_0.length ≤ c0_0) (hr1_2 : Kd.C (Kd.int .i64) w A1_2 l1_2.length l1_2) (hc1_2 : l1_2.length ≤ c1_2) (h : laws_FnExactIsLoosePlay.f k l0_0 a1_0 a1_1 l1_2 = some r) :
  Calls Try.prog 8 #[.agg #[.slice A0_0 l0_0.length c0_0], .agg #[.int .i64 a1_0, .int .i64 a1_1, .slice A1_2 l1_2.length c1_2]] w fun e w' => e = .returned (.bool r) ∧ Below w.heap.size w w' := by
 have hu41 := Try.underlying41
 have hu24 := Try.underlying24
 have hu44 := Try.underlying44
 have hu27 := Try.underlying27
 have HR0_0 := aK hr0_0
 have HC0_0 := aK hc0_0
 clear hr0_0 hc0_0
 have HR1_2 := aK hr1_2
 have HC1_2 := aK hc1_2
 clear hr1_2 hc1_2
 have HB := aK (Below.refl w.heap.size w)
 have H : ((laws_szDeal.f k l0_0 1048576).bind fun t304 => (if t304 < 0 then (some true) else ((laws_szPlay.f a1_0 a1_1 l1_2 t304).bind fun t305 => (if t305 < 0 then (some true) else ((laws_toDeal.f k l0_0).bind fun t306 => ((laws_toPlay.f k a1_0 a1_1 l1_2).bind fun bt309 => ((spec_IsLoosePlay.f k t306 bt309.1 bt309.2.1 bt309.2.2).bind fun t314 => ((laws_toDeal.f k l0_0).bind fun t315 => ((laws_toPlay.f k a1_0 a1_1 l1_2).bind fun bt319 => ((impl_IsLoosePlay.f k t315 bt319.1 bt319.2.1 bt319.2.2).bind fun t325 => (if (t325 != t314) = true then (some false) else ((laws_toDeal.f k l0_0).bind fun t326 => ((laws_eqDeal.f k t315 t326).bind fun t329 => (if t329 = true then ((laws_toPlay.f k a1_0 a1_1 l1_2).bind fun bt330 => ((laws_eqPlay.f k bt319.1 bt319.2.1 bt319.2.2 bt330.1 bt330.2.1 bt330.2.2).bind fun t335 => (if t335 = true then (some true) else (some false)))) else (some false))))))))))))))) = some r := h
 clear h
 replace H := Option.bind_eq_some_iff.mp H
 obtain ⟨t304, A30, H⟩ := H
 replace H : (if t304 < 0 then (some true) else ((laws_szPlay.f a1_0 a1_1 l1_2 t304).bind fun t305 => (if t305 < 0 then (some true) else ((laws_toDeal.f k l0_0).bind fun t306 => ((laws_toPlay.f k a1_0 a1_1 l1_2).bind fun bt309 => ((spec_IsLoosePlay.f k t306 bt309.1 bt309.2.1 bt309.2.2).bind fun t314 => ((laws_toDeal.f k l0_0).bind fun t315 => ((laws_toPlay.f k a1_0 a1_1 l1_2).bind fun bt319 => ((impl_IsLoosePlay.f k t315 bt319.1 bt319.2.1 bt319.2.2).bind fun t325 => (if (t325 != t314) = true then (some false) else ((laws_toDeal.f k l0_0).bind fun t326 => ((laws_eqDeal.f k t315 t326).bind fun t329 => (if t329 = true then ((laws_toPlay.f k a1_0 a1_1 l1_2).bind fun bt330 => ((laws_eqPlay.f k bt319.1 bt319.2.1 bt319.2.2 bt330.1 bt330.2.1 bt330.2.2).bind fun t335 => (if t335 = true then (some true) else (some false)))) else (some false)))))))))))))) = some r := H
 have A3 := aK A30
 clear A30
 by_cases c4 : t304 < 0
 ·rw [if_pos c4] at H
  have c4b0 : decide (t304 < 0) = true := decide_eq_true c4
  clear c4
  obtain rfl := Option.some.inj H
  go_enter Try.func8, Try.ntmps8
  go_wp2_with (first | ((with_reducible refine gate_dst (N := 2) rfl ?_); refine box_event ?hg (N := 2) ?hd (cs := #[.slice A0_0 l0_0.length c0_0]) (t := 41) ?hr ?_; (case hd => rfl); (case hg => rfl); (case hr => first | (go_simp; done) | (go_simp; rfl)); intro gb302 hg w5 hbox hb; have n0_ := aK (below_step (by repeat (first | (with_reducible first | exact HB.out | apply bL | apply bM | apply b1) | exact HB.out)) hb); have n1_ := aK (hbox); have n2_ := aK ((by rw [hg]; exact (below_size (by repeat (first | (with_reducible first | exact HB.out | apply bL | apply bM | apply b1) | exact HB.out))) : w.heap.size ≤ gb302)); have n3_ := aK ((by rw [hg]; exact (below_size (by repeat (first | (with_reducible first | exact HB.out | apply bL | apply bM | apply b1) | exact HB.out))) : w.heap.size ≤ gb302)); clear HB; have HB := n0_; have BK302 := n1_; have GW302 := n2_; have GE302 := n3_; clear n0_ n1_ n2_ n3_; clear hb hbox hg) | ((with_reducible refine gate_dst (N := 3) rfl ?_); refine box_event ?hg (N := 3) ?hd (cs := #[.int .i64 a1_0, .int .i64 a1_1, .slice A1_2 l1_2.length c1_2]) (t := 24) ?hr ?_; (case hd => rfl); (case hg => rfl); (case hr => first | (go_simp; done) | (go_simp; rfl)); intro gb303 hg w6 hbox hb; have n0_ := aK (bB (by (with_reducible repeat (first | refine bN ?_ _ | refine bD ?_ | refine bA ?_ _)); exact BK302.out) hb); have n1_ := aK (below_step (by repeat (first | (with_reducible first | exact HB.out | apply bL | apply bM | apply b1 | refine bS ?_ GE302.out) | exact HB.out)) hb); have n2_ := aK (hbox); have n3_ := aK ((by rw [hg]; exact (below_size (by repeat (first | (with_reducible first | exact HB.out | apply bL | apply bM | apply b1 | refine bS ?_ GE302.out) | exact HB.out))) : w.heap.size ≤ gb303)); have n4_ := aK ((by rw [hg]; exact (below_size (by repeat (first | (with_reducible first | exact HB.out | apply bL | apply bM | apply b1 | refine bS ?_ GE302.out) | exact HB.out))) : w.heap.size ≤ gb303)); have n5_ := aK ((by rw [hg]; exact Nat.ne_of_lt (blk_lt (by (with_reducible repeat (first | refine bN ?_ _ | refine bD ?_ | refine bA ?_ _)); exact BK302.out)) : gb302 ≠ gb303)); have n6_ := aK ((by rw [hg]; exact Nat.ne_of_gt (blk_lt (by (with_reducible repeat (first | refine bN ?_ _ | refine bD ?_ | refine bA ?_ _)); exact BK302.out)) : gb303 ≠ gb302)); clear BK302; clear HB; have BK302 := n0_; have HB := n1_; have BK303 := n2_; have GW303 := n3_; have GE303 := n4_; have NB302_303 := n5_; have NB303_302 := n6_; clear n0_ n1_ n2_ n3_ n4_ n5_ n6_; clear hb hbox hg; have hnb7 := NB302_303.out; have hnc7 := NB303_302.out; have hcz8_0 : w6.cell? ⟨gb302, 0, none⟩ = some (.slice A0_0 l0_0.length c0_0) := (bC BK302.out 0).trans rfl; have hfz8_0 := blk_frozen BK302.out 0) | ((with_reducible refine gate_callee (f := 40) rfl ?_); refine goesL_ (some 12) rfl rfl Try.func40 (by kernel_rfl) rfl #[.agg #[.slice A0_0 l0_0.length c0_0], .int .i64 1048576] rfl (by (try simp only [mA, mC, mN]); first | done | rfl) ?_; (with_reducible refine (laws_szDeal.calls k _ _ l0_0 1048576 t304 _ ?side1 ?side2 A3.out).mono ?_); (case side1 => repeat (first | exact (Kd.C_below HR0_0.out HB.out) | (with_reducible refine Kd.C_alloc ?_ _) | (with_reducible refine Kd.C_drewN ?_ _) | (with_reducible refine Kd.C_drew ?_))); (case side2 => exact HC0_0.out); rintro e w9 ⟨rfl, hb⟩; refine ⟨_, rfl, ?_⟩; have n0_ := aK (bB (by (with_reducible repeat (first | refine bN ?_ _ | refine bD ?_ | refine bA ?_ _)); exact BK302.out) hb); have n1_ := aK (bB (by (with_reducible repeat (first | refine bN ?_ _ | refine bD ?_ | refine bA ?_ _)); exact BK303.out) hb); have n2_ := aK (below_step (by repeat (first | (with_reducible first | exact HB.out | apply bL | apply bM | apply b1 | refine bS ?_ GE302.out | refine bS ?_ GE303.out) | exact HB.out)) hb); clear BK302; clear BK303; clear HB; have BK302 := n0_; have BK303 := n1_; have HB := n2_; clear n0_ n1_ n2_; (try clear hb); (try clear hb2); (try clear hk); (try clear hi)))
  go_ret
  exact ⟨by first | rfl | (simp [errW_none, errW_some] <;> rfl) | (simp [*, errW_none, errW_some] <;> rfl), by repeat (first | (with_reducible first | exact HB.out | apply bL | apply bM | apply b1 | refine bS ?_ GE302.out | refine bS ?_ GE303.out) | exact HB.out)⟩
 ·rw [if_neg c4] at H
  have c4b0 : decide (t304 < 0) = false := decide_eq_false c4
  clear c4
  replace H := Option.bind_eq_some_iff.mp H
  obtain ⟨t305, A100, H⟩ := H
  replace H : (if t305 < 0 then (some true) else ((laws_toDeal.f k l0_0).bind fun t306 => ((laws_toPlay.f k a1_0 a1_1 l1_2).bind fun bt309 => ((spec_IsLoosePlay.f k t306 bt309.1 bt309.2.1 bt309.2.2).bind fun t314 => ((laws_toDeal.f k l0_0).bind fun t315 => ((laws_toPlay.f k a1_0 a1_1 l1_2).bind fun bt319 => ((impl_IsLoosePlay.f k t315 bt319.1 bt319.2.1 bt319.2.2).bind fun t325 => (if (t325 != t314) = true then (some false) else ((laws_toDeal.f k l0_0).bind fun t326 => ((laws_eqDeal.f k t315 t326).bind fun t329 => (if t329 = true then ((laws_toPlay.f k a1_0 a1_1 l1_2).bind fun bt330 => ((laws_eqPlay.f k bt319.1 bt319.2.1 bt319.2.2 bt330.1 bt330.2.1 bt330.2.2).bind fun t335 => (if t335 = true then (some true) else (some false)))) else (some false)))))))))))) = some r := H
  have A10 := aK A100
  clear A100
  by_cases c11 : t305 < 0
  ·rw [if_pos c11] at H
   have c11b0 : decide (t305 < 0) = true := decide_eq_true c11
   clear c11
   obtain rfl := Option.some.inj H
   go_enter Try.func8, Try.ntmps8
   go_wp2_with (first | ((with_reducible refine gate_dst (N := 2) rfl ?_); refine box_event ?hg (N := 2) ?hd (cs := #[.slice A0_0 l0_0.length c0_0]) (t := 41) ?hr ?_; (case hd => rfl); (case hg => rfl); (case hr => first | (go_simp; done) | (go_simp; rfl)); intro gb302 hg w12 hbox hb; have n0_ := aK (below_step (by repeat (first | (with_reducible first | exact HB.out | apply bL | apply bM | apply b1) | exact HB.out)) hb); have n1_ := aK (hbox); have n2_ := aK ((by rw [hg]; exact (below_size (by repeat (first | (with_reducible first | exact HB.out | apply bL | apply bM | apply b1) | exact HB.out))) : w.heap.size ≤ gb302)); have n3_ := aK ((by rw [hg]; exact (below_size (by repeat (first | (with_reducible first | exact HB.out | apply bL | apply bM | apply b1) | exact HB.out))) : w.heap.size ≤ gb302)); clear HB; have HB := n0_; have BK302 := n1_; have GW302 := n2_; have GE302 := n3_; clear n0_ n1_ n2_ n3_; clear hb hbox hg) | ((with_reducible refine gate_dst (N := 3) rfl ?_); refine box_event ?hg (N := 3) ?hd (cs := #[.int .i64 a1_0, .int .i64 a1_1, .slice A1_2 l1_2.length c1_2]) (t := 24) ?hr ?_; (case hd => rfl); (case hg => rfl); (case hr => first | (go_simp; done) | (go_simp; rfl)); intro gb303 hg w13 hbox hb; have n0_ := aK (bB (by (with_reducible repeat (first | refine bN ?_ _ | refine bD ?_ | refine bA ?_ _)); exact BK302.out) hb); have n1_ := aK (below_step (by repeat (first | (with_reducible first | exact HB.out | apply bL | apply bM | apply b1 | refine bS ?_ GE302.out) | exact HB.out)) hb); have n2_ := aK (hbox); have n3_ := aK ((by rw [hg]; exact (below_size (by repeat (first | (with_reducible first | exact HB.out | apply bL | apply bM | apply b1 | refine bS ?_ GE302.out) | exact HB.out))) : w.heap.size ≤ gb303)); have n4_ := aK ((by rw [hg]; exact (below_size (by repeat (first | (with_reducible first | exact HB.out | apply bL | apply bM | apply b1 | refine bS ?_ GE302.out) | exact HB.out))) : w.heap.size ≤ gb303)); have n5_ := aK ((by rw [hg]; exact Nat.ne_of_lt (blk_lt (by (with_reducible repeat (first | refine bN ?_ _ | refine bD ?_ | refine bA ?_ _)); exact BK302.out)) : gb302 ≠ gb303)); have n6_ := aK ((by rw [hg]; exact Nat.ne_of_gt (blk_lt (by (with_reducible repeat (first | refine bN ?_ _ | refine bD ?_ | refine bA ?_ _)); exact BK302.out)) : gb303 ≠ gb302)); clear BK302; clear HB; have BK302 := n0_; have HB := n1_; have BK303 := n2_; have GW303 := n3_; have GE303 := n4_; have NB302_303 := n5_; have NB303_302 := n6_; clear n0_ n1_ n2_ n3_ n4_ n5_ n6_; clear hb hbox hg; have hnb14 := NB302_303.out; have hnc14 := NB303_302.out; have hcz15_0 : w13.cell? ⟨gb302, 0, none⟩ = some (.slice A0_0 l0_0.length c0_0) := (bC BK302.out 0).trans rfl; have hfz15_0 := blk_frozen BK302.out 0) | ((with_reducible refine gate_callee (f := 40) rfl ?_); refine goesL_ (some 12) rfl rfl Try.func40 (by kernel_rfl) rfl #[.agg #[.slice A0_0 l0_0.length c0_0], .int .i64 1048576] rfl (by (try simp only [mA, mC, mN]); first | done | rfl) ?_; (with_reducible refine (laws_szDeal.calls k _ _ l0_0 1048576 t304 _ ?side1 ?side2 A3.out).mono ?_); (case side1 => repeat (first | exact (Kd.C_below HR0_0.out HB.out) | (with_reducible refine Kd.C_alloc ?_ _) | (with_reducible refine Kd.C_drewN ?_ _) | (with_reducible refine Kd.C_drew ?_))); (case side2 => exact HC0_0.out); rintro e w16 ⟨rfl, hb⟩; refine ⟨_, rfl, ?_⟩; have n0_ := aK (bB (by (with_reducible repeat (first | refine bN ?_ _ | refine bD ?_ | refine bA ?_ _)); exact BK302.out) hb); have n1_ := aK (bB (by (with_reducible repeat (first | refine bN ?_ _ | refine bD ?_ | refine bA ?_ _)); exact BK303.out) hb); have n2_ := aK (below_step (by repeat (first | (with_reducible first | exact HB.out | apply bL | apply bM | apply b1 | refine bS ?_ GE302.out | refine bS ?_ GE303.out) | exact HB.out)) hb); clear BK302; clear BK303; clear HB; have BK302 := n0_; have BK303 := n1_; have HB := n2_; clear n0_ n1_ n2_; (try clear hb); (try clear hb2); (try clear hk); (try clear hi); have hcz17_0 : w16.cell? ⟨gb303, 0, none⟩ = some (.int .i64 a1_0) := (bC BK303.out 0).trans rfl; have hcz17_1 : w16.cell? ⟨gb303, 1, none⟩ = some (.int .i64 a1_1) := (bC BK303.out 1).trans rfl; have hcz17_2 : w16.cell? ⟨gb303, 2, none⟩ = some (.slice A1_2 l1_2.length c1_2) := (bC BK303.out 2).trans rfl; have hfz17_0 := blk_frozen BK303.out 0; have hfz17_1 := blk_frozen BK303.out 1; have hfz17_2 := blk_frozen BK303.out 2) | ((with_reducible refine gate_callee (f := 22) rfl ?_); refine goesL_ (some 17) rfl rfl Try.func22 (by kernel_rfl) rfl #[.agg #[.int .i64 a1_0, .int .i64 a1_1, .slice A1_2 l1_2.length c1_2], .int .i64 t304] rfl (by (try simp only [mA, mC, mN]); first | done | rfl) ?_; (with_reducible refine (laws_szPlay.calls a1_0 a1_1 _ _ l1_2 t304 t305 _ ?side1 ?side2 A10.out).mono ?_); (case side1 => repeat (first | exact (Kd.C_below HR1_2.out HB.out) | (with_reducible refine Kd.C_alloc ?_ _) | (with_reducible refine Kd.C_drewN ?_ _) | (with_reducible refine Kd.C_drew ?_))); (case side2 => exact HC1_2.out); rintro e w18 ⟨rfl, hb⟩; refine ⟨_, rfl, ?_⟩; have n0_ := aK (bB (by (with_reducible repeat (first | refine bN ?_ _ | refine bD ?_ | refine bA ?_ _)); exact BK302.out) hb); have n1_ := aK (bB (by (with_reducible repeat (first | refine bN ?_ _ | refine bD ?_ | refine bA ?_ _)); exact BK303.out) hb); have n2_ := aK (below_step (by repeat (first | (with_reducible first | exact HB.out | apply bL | apply bM | apply b1 | refine bS ?_ GE302.out | refine bS ?_ GE303.out) | exact HB.out)) hb); clear BK302; clear BK303; clear HB; have BK302 := n0_; have BK303 := n1_; have HB := n2_; clear n0_ n1_ n2_; (try clear hb); (try clear hb2); (try clear hk); (try clear hi)))
   go_ret
   exact ⟨by first | rfl | (simp [errW_none, errW_some] <;> rfl) | (simp [*, errW_none, errW_some] <;> rfl), by repeat (first | (with_reducible first | exact HB.out | apply bL | apply bM | apply b1 | refine bS ?_ GE302.out | refine bS ?_ GE303.out) | exact HB.out)⟩
  ·rw [if_neg c11] at H
   have c11b0 : decide (t305 < 0) = false := decide_eq_false c11
   clear c11
   replace H := Option.bind_eq_some_iff.mp H
   obtain ⟨t306, A190, H⟩ := H
   replace H : ((laws_toPlay.f k a1_0 a1_1 l1_2).bind fun bt309 => ((spec_IsLoosePlay.f k t306 bt309.1 bt309.2.1 bt309.2.2).bind fun t314 => ((laws_toDeal.f k l0_0).bind fun t315 => ((laws_toPlay.f k a1_0 a1_1 l1_2).bind fun bt319 => ((impl_IsLoosePlay.f k t315 bt319.1 bt319.2.1 bt319.2.2).bind fun t325 => (if (t325 != t314) = true then (some false) else ((laws_toDeal.f k l0_0).bind fun t326 => ((laws_eqDeal.f k t315 t326).bind fun t329 => (if t329 = true then ((laws_toPlay.f k a1_0 a1_1 l1_2).bind fun bt330 => ((laws_eqPlay.f k bt319.1 bt319.2.1 bt319.2.2 bt330.1 bt330.2.1 bt330.2.2).bind fun t335 => (if t335 = true then (some true) else (some false)))) else (some false)))))))))) = some r := H
   have A19 := aK A190
   clear A190
   replace H := Option.bind_eq_some_iff.mp H
   obtain ⟨⟨t309, t310, t311⟩, A200, H⟩ := H
   replace H : ((spec_IsLoosePlay.f k t306 t309 t310 t311).bind fun t314 => ((laws_toDeal.f k l0_0).bind fun t315 => ((laws_toPlay.f k a1_0 a1_1 l1_2).bind fun bt319 => ((impl_IsLoosePlay.f k t315 bt319.1 bt319.2.1 bt319.2.2).bind fun t325 => (if (t325 != t314) = true then (some false) else ((laws_toDeal.f k l0_0).bind fun t326 => ((laws_eqDeal.f k t315 t326).bind fun t329 => (if t329 = true then ((laws_toPlay.f k a1_0 a1_1 l1_2).bind fun bt330 => ((laws_eqPlay.f k bt319.1 bt319.2.1 bt319.2.2 bt330.1 bt330.2.1 bt330.2.2).bind fun t335 => (if t335 = true then (some true) else (some false)))) else (some false))))))))) = some r := H
   have A20 := aK A200
   clear A200
   replace H := Option.bind_eq_some_iff.mp H
   obtain ⟨t314, A210, H⟩ := H
   replace H : ((laws_toDeal.f k l0_0).bind fun t315 => ((laws_toPlay.f k a1_0 a1_1 l1_2).bind fun bt319 => ((impl_IsLoosePlay.f k t315 bt319.1 bt319.2.1 bt319.2.2).bind fun t325 => (if (t325 != t314) = true then (some false) else ((laws_toDeal.f k l0_0).bind fun t326 => ((laws_eqDeal.f k t315 t326).bind fun t329 => (if t329 = true then ((laws_toPlay.f k a1_0 a1_1 l1_2).bind fun bt330 => ((laws_eqPlay.f k bt319.1 bt319.2.1 bt319.2.2 bt330.1 bt330.2.1 bt330.2.2).bind fun t335 => (if t335 = true then (some true) else (some false)))) else (some false)))))))) = some r := H
   have A21 := aK A210
   clear A210
   replace H := Option.bind_eq_some_iff.mp H
   obtain ⟨t315, A220, H⟩ := H
   replace H : ((laws_toPlay.f k a1_0 a1_1 l1_2).bind fun bt319 => ((impl_IsLoosePlay.f k t315 bt319.1 bt319.2.1 bt319.2.2).bind fun t325 => (if (t325 != t314) = true then (some false) else ((laws_toDeal.f k l0_0).bind fun t326 => ((laws_eqDeal.f k t315 t326).bind fun t329 => (if t329 = true then ((laws_toPlay.f k a1_0 a1_1 l1_2).bind fun bt330 => ((laws_eqPlay.f k bt319.1 bt319.2.1 bt319.2.2 bt330.1 bt330.2.1 bt330.2.2).bind fun t335 => (if t335 = true then (some true) else (some false)))) else (some false))))))) = some r := H
   have A22 := aK A220
   clear A220
   replace H := Option.bind_eq_some_iff.mp H
   obtain ⟨⟨t319, t320, t321⟩, A230, H⟩ := H
   replace H : ((impl_IsLoosePlay.f k t315 t319 t320 t321).bind fun t325 => (if (t325 != t314) = true then (some false) else ((laws_toDeal.f k l0_0).bind fun t326 => ((laws_eqDeal.f k t315 t326).bind fun t329 => (if t329 = true then ((laws_toPlay.f k a1_0 a1_1 l1_2).bind fun bt330 => ((laws_eqPlay.f k t319 t320 t321 bt330.1 bt330.2.1 bt330.2.2).bind fun t335 => (if t335 = true then (some true) else (some false)))) else (some false)))))) = some r := H
   have A23 := aK A230
   clear A230
   replace H := Option.bind_eq_some_iff.mp H
   obtain ⟨t325, A240, H⟩ := H
   replace H : (if (t325 != t314) = true then (some false) else ((laws_toDeal.f k l0_0).bind fun t326 => ((laws_eqDeal.f k t315 t326).bind fun t329 => (if t329 = true then ((laws_toPlay.f k a1_0 a1_1 l1_2).bind fun bt330 => ((laws_eqPlay.f k t319 t320 t321 bt330.1 bt330.2.1 bt330.2.2).bind fun t335 => (if t335 = true then (some true) else (some false)))) else (some false))))) = some r := H
   have A24 := aK A240
   clear A240
   by_cases c25 : (t325 != t314) = true
   ·rw [if_pos c25] at H
    have c25b0 : (t325 != t314) = true := c25
    (try (have c25b1 : decide (t325 = t314) = false := by simpa using c25))
    (try (have c25b2 : (t325 == t314) = false := by simpa using c25))
    (try (have c25b3 : ¬ (t325 = t314) := by simpa using c25))
    clear c25
    obtain rfl := Option.some.inj H
    go_enter Try.func8, Try.ntmps8
    try go_wp2_with (first | ((with_reducible refine gate_dst (N := 2) rfl ?_); refine box_event ?hg (N := 2) ?hd (cs := #[.slice A0_0 l0_0.length c0_0]) (t := 41) ?hr ?_; (case hd => rfl); (case hg => rfl); (case hr => first | (go_simp; done) | (go_simp; rfl)); intro gb302 hg w26 hbox hb; have n0_ := aK (below_step (by repeat (first | (with_reducible first | exact HB.out | apply bL | apply bM | apply b1) | exact HB.out)) hb); have n1_ := aK (hbox); have n2_ := aK ((by rw [hg]; exact (below_size (by repeat (first | (with_reducible first | exact HB.out | apply bL | apply bM | apply b1) | exact HB.out))) : w.heap.size ≤ gb302)); have n3_ := aK ((by rw [hg]; exact (below_size (by repeat (first | (with_reducible first | exact HB.out | apply bL | apply bM | apply b1) | exact HB.out))) : w.heap.size ≤ gb302)); clear HB; have HB := n0_; have BK302 := n1_; have GW302 := n2_; have GE302 := n3_; clear n0_ n1_ n2_ n3_; clear hb hbox hg) | ((with_reducible refine gate_dst (N := 3) rfl ?_); refine box_event ?hg (N := 3) ?hd (cs := #[.int .i64 a1_0, .int .i64 a1_1, .slice A1_2 l1_2.length c1_2]) (t := 24) ?hr ?_; (case hd => rfl); (case hg => rfl); (case hr => first | (go_simp; done) | (go_simp; rfl)); intro gb303 hg w27 hbox hb; have n0_ := aK (bB (by (with_reducible repeat (first | refine bN ?_ _ | refine bD ?_ | refine bA ?_ _)); exact BK302.out) hb); have n1_ := aK (below_step (by repeat (first | (with_reducible first | exact HB.out | apply bL | apply bM | apply b1 | refine bS ?_ GE302.out) | exact HB.out)) hb); have n2_ := aK (hbox); have n3_ := aK ((by rw [hg]; exact (below_size (by repeat (first | (with_reducible first | exact HB.out | apply bL | apply bM | apply b1 | refine bS ?_ GE302.out) | exact HB.out))) : w.heap.size ≤ gb303)); have n4_ := aK ((by rw [hg]; exact (below_size (by repeat (first | (with_reducible first | exact HB.out | apply bL | apply bM | apply b1 | refine bS ?_ GE302.out) | exact HB.out))) : w.heap.size ≤ gb303)); have n5_ := aK ((by rw [hg]; exact Nat.ne_of_lt (blk_lt (by (with_reducible repeat (first | refine bN ?_ _ | refine bD ?_ | refine bA ?_ _)); exact BK302.out)) : gb302 ≠ gb303)); have n6_ := aK ((by rw [hg]; exact Nat.ne_of_gt (blk_lt (by (with_reducible repeat (first | refine bN ?_ _ | refine bD ?_ | refine bA ?_ _)); exact BK302.out)) : gb303 ≠ gb302)); clear BK302; clear HB; have BK302 := n0_; have HB := n1_; have BK303 := n2_; have GW303 := n3_; have GE303 := n4_; have NB302_303 := n5_; have NB303_302 := n6_; clear n0_ n1_ n2_ n3_ n4_ n5_ n6_; clear hb hbox hg; have hnb28 := NB302_303.out; have hnc28 := NB303_302.out; have hcz29_0 : w27.cell? ⟨gb302, 0, none⟩ = some (.slice A0_0 l0_0.length c0_0) := (bC BK302.out 0).trans rfl; have hfz29_0 := blk_frozen BK302.out 0) | ((with_reducible refine gate_callee (f := 40) rfl ?_); refine goesL_ (some 12) rfl rfl Try.func40 (by kernel_rfl) rfl #[.agg #[.slice A0_0 l0_0.length c0_0], .int .i64 1048576] rfl (by (try simp only [mA, mC, mN]); first | done | rfl) ?_; (with_reducible refine (laws_szDeal.calls k _ _ l0_0 1048576 t304 _ ?side1 ?side2 A3.out).mono ?_); (case side1 => repeat (first | exact (Kd.C_below HR0_0.out HB.out) | (with_reducible refine Kd.C_alloc ?_ _) | (with_reducible refine Kd.C_drewN ?_ _) | (with_reducible refine Kd.C_drew ?_))); (case side2 => exact HC0_0.out); rintro e w30 ⟨rfl, hb⟩; refine ⟨_, rfl, ?_⟩; have n0_ := aK (bB (by (with_reducible repeat (first | refine bN ?_ _ | refine bD ?_ | refine bA ?_ _)); exact BK302.out) hb); have n1_ := aK (bB (by (with_reducible repeat (first | refine bN ?_ _ | refine bD ?_ | refine bA ?_ _)); exact BK303.out) hb); have n2_ := aK (below_step (by repeat (first | (with_reducible first | exact HB.out | apply bL | apply bM | apply b1 | refine bS ?_ GE302.out | refine bS ?_ GE303.out) | exact HB.out)) hb); clear BK302; clear BK303; clear HB; have BK302 := n0_; have BK303 := n1_; have HB := n2_; clear n0_ n1_ n2_; (try clear hb); (try clear hb2); (try clear hk); (try clear hi); have hcz31_0 : w30.cell? ⟨gb303, 0, none⟩ = some (.int .i64 a1_0) := (bC BK303.out 0).trans rfl; have hcz31_1 : w30.cell? ⟨gb303, 1, none⟩ = some (.int .i64 a1_1) := (bC BK303.out 1).trans rfl; have hcz31_2 : w30.cell? ⟨gb303, 2, none⟩ = some (.slice A1_2 l1_2.length c1_2) := (bC BK303.out 2).trans rfl; have hfz31_0 := blk_frozen BK303.out 0; have hfz31_1 := blk_frozen BK303.out 1; have hfz31_2 := blk_frozen BK303.out 2) | ((with_reducible refine gate_callee (f := 22) rfl ?_); refine goesL_ (some 17) rfl rfl Try.func22 (by kernel_rfl) rfl #[.agg #[.int .i64 a1_0, .int .i64 a1_1, .slice A1_2 l1_2.length c1_2], .int .i64 t304] rfl (by (try simp only [mA, mC, mN]); first | done | rfl) ?_; (with_reducible refine (laws_szPlay.calls a1_0 a1_1 _ _ l1_2 t304 t305 _ ?side1 ?side2 A10.out).mono ?_); (case side1 => repeat (first | exact (Kd.C_below HR1_2.out HB.out) | (with_reducible refine Kd.C_alloc ?_ _) | (with_reducible refine Kd.C_drewN ?_ _) | (with_reducible refine Kd.C_drew ?_))); (case side2 => exact HC1_2.out); rintro e w32 ⟨rfl, hb⟩; refine ⟨_, rfl, ?_⟩; have n0_ := aK (bB (by (with_reducible repeat (first | refine bN ?_ _ | refine bD ?_ | refine bA ?_ _)); exact BK302.out) hb); have n1_ := aK (bB (by (with_reducible repeat (first | refine bN ?_ _ | refine bD ?_ | refine bA ?_ _)); exact BK303.out) hb); have n2_ := aK (below_step (by repeat (first | (with_reducible first | exact HB.out | apply bL | apply bM | apply b1 | refine bS ?_ GE302.out | refine bS ?_ GE303.out) | exact HB.out)) hb); clear BK302; clear BK303; clear HB; have BK302 := n0_; have BK303 := n1_; have HB := n2_; clear n0_ n1_ n2_; (try clear hb); (try clear hb2); (try clear hk); (try clear hi)))
    have n0_ := aK (bD BK302.out)
    have n1_ := aK (bD BK303.out)
    have n2_ := aK (b1 HB.out)
    clear BK302
    clear BK303
    clear HB
    have BK302 := n0_
    have BK303 := n1_
    have HB := n2_
    clear n0_ n1_ n2_
    refine start_ (n := 6) (S := fun w' => w'.cell? ⟨gb302, 0, none⟩ = some (.slice A0_0 l0_0.length c0_0) ∧ w'.cell? ⟨gb303, 0, none⟩ = some (.int .i64 a1_0) ∧ w'.cell? ⟨gb303, 1, none⟩ = some (.int .i64 a1_1) ∧ w'.cell? ⟨gb303, 2, none⟩ = some (.slice A1_2 l1_2.length c1_2)) (ds := []) #[false, false, false, false, false, false] (by kernel_rfl) rfl rfl ⟨(bC BK302.out 0).trans rfl, (bC BK303.out 0).trans rfl, (bC BK303.out 1).trans rfl, (bC BK303.out 2).trans rfl⟩ (fun hHeld => ?_)
    generalize w32.drew = w33 at BK302 BK303 HB hHeld ⊢
    refine take_ (i := 0) (N := some 20) (v := ?_) (a' := ?_) #[true, false, false, false, false, false] rfl rfl (by kernel_rfl) (fun _ _ _ h => h) (Or.inl ⟨by rfl, ?_⟩) hHeld ?_ ?_
    rotate_left
    ·rintro w' ⟨s0, s1, s2, s3⟩
     go_simp
     with_reducible rfl
    rotate_left
    ·simp only [Act.put, lA, l0', lS, i64_w, i32_w]
     rfl
    refine take_ (i := 2) (N := some 22) (v := ?_) (a' := ?_) #[true, false, true, false, false, false] rfl rfl (by kernel_rfl) (fun _ _ _ h => h) (Or.inl ⟨by rfl, ?_⟩) hHeld ?_ ?_
    rotate_left
    ·rintro w' ⟨s0, s1, s2, s3⟩
     go_simp
     with_reducible rfl
    rotate_left
    ·simp only [Act.put, lA, l0', lS, i64_w, i32_w]
     rfl
    refine one_ (i := 1) (N := some 21) #[true, true, true, false, false, false] rfl rfl (by kernel_rfl) (by decide) (fun K hK => ?_)
    refine goes_ Try.func42 (by kernel_rfl) rfl #[.agg #[.slice A0_0 l0_0.length c0_0]] (by rfl) rfl rfl (by (try simp only [mA, mC, mN]); first | done | rfl) ?_
    with_reducible refine (laws_toDeal.calls k _ _ l0_0 t306 _ ?side1 ?side2 A19.out).mono ?_
    (case side1 => repeat (first | exact (Kd.C_below HR0_0.out HB.out) | (with_reducible refine Kd.C_alloc ?_ _) | (with_reducible refine Kd.C_drewN ?_ _) | (with_reducible refine Kd.C_drew ?_)))
    (case side2 => exact HC0_0.out)
    rintro e w34 ⟨v307, rfl, ho0, hb⟩
    refine ⟨_, rfl, ?_⟩
    have n0_ := aK (Kd.S_lower ho0 (below_size (by repeat (first | (with_reducible first | exact HB.out | apply bL | apply bM | apply b1 | refine bS ?_ GE302.out | refine bS ?_ GE303.out) | exact HB.out))))
    have n1_ := aK (bB (by (with_reducible repeat (first | refine bN ?_ _ | refine bD ?_ | refine bA ?_ _)); exact BK302.out) hb)
    have n2_ := aK (bB (by (with_reducible repeat (first | refine bN ?_ _ | refine bD ?_ | refine bA ?_ _)); exact BK303.out) hb)
    have n3_ := aK (below_step (by repeat (first | (with_reducible first | exact HB.out | apply bL | apply bM | apply b1 | refine bS ?_ GE302.out | refine bS ?_ GE303.out) | exact HB.out)) hb)
    clear BK302
    clear BK303
    clear HB
    have HO308 := n0_
    have BK302 := n1_
    have BK303 := n2_
    have HB := n3_
    clear n0_ n1_ n2_ n3_
    (try clear hb)
    (try clear hb2)
    (try clear hk)
    (try clear hi)
    (try clear ho0)
    refine hK.out _ _ ⟨(bC BK302.out 0).trans rfl, (bC BK303.out 0).trans rfl, (bC BK303.out 1).trans rfl, (bC BK303.out 2).trans rfl⟩ (fun hHeld => ?_)
    clear hK K
    refine norm_ (a' := ?_) ?_ ?_
    rotate_left
    ·show Act.put _ (some 21) _ = _
     simp only [Act.put, lA, l0', lS, i64_w, i32_w]
     rfl
    refine one_ (i := 3) (N := some 23) #[true, true, true, true, false, false] rfl rfl (by kernel_rfl) (by decide) (fun K hK => ?_)
    refine goes_ Try.func24 (by kernel_rfl) rfl #[.agg #[.int .i64 a1_0, .int .i64 a1_1, .slice A1_2 l1_2.length c1_2]] (by rfl) rfl rfl (by (try simp only [mA, mC, mN]); first | done | rfl) ?_
    with_reducible refine (laws_toPlay.calls k a1_0 a1_1 _ _ l1_2 t309 t310 t311 _ ?side1 ?side2 A20.out).mono ?_
    (case side1 => repeat (first | exact (Kd.C_below HR1_2.out HB.out) | (with_reducible refine Kd.C_alloc ?_ _) | (with_reducible refine Kd.C_drewN ?_ _) | (with_reducible refine Kd.C_drew ?_)))
    (case side2 => exact HC1_2.out)
    rintro e w35 ⟨v312, rfl, ho0, hb⟩
    refine ⟨_, rfl, ?_⟩
    have n0_ := aK (Kd.S_elder' (by (with_reducible repeat (first | apply Kd.S_alloc | apply Kd.S_drewN | apply Kd.S_drew)); exact HO308.out) (Kd.R_base ho0) hb)
    have n1_ := aK (Kd.R_lower ho0 (below_size (by repeat (first | (with_reducible first | exact HB.out | apply bL | apply bM | apply b1 | refine bS ?_ GE302.out | refine bS ?_ GE303.out) | exact HB.out))))
    have n2_ := aK (bB (by (with_reducible repeat (first | refine bN ?_ _ | refine bD ?_ | refine bA ?_ _)); exact BK302.out) hb)
    have n3_ := aK (bB (by (with_reducible repeat (first | refine bN ?_ _ | refine bD ?_ | refine bA ?_ _)); exact BK303.out) hb)
    have n4_ := aK (below_step (by repeat (first | (with_reducible first | exact HB.out | apply bL | apply bM | apply b1 | refine bS ?_ GE302.out | refine bS ?_ GE303.out) | exact HB.out)) hb)
    clear HO308
    clear BK302
    clear BK303
    clear HB
    have HO308 := n0_
    have HO313 := n1_
    have BK302 := n2_
    have BK303 := n3_
    have HB := n4_
    clear n0_ n1_ n2_ n3_ n4_
    (try clear hb)
    (try clear hb2)
    (try clear hk)
    (try clear hi)
    (try clear ho0)
    obtain ⟨Ao36, co36, eo36⟩ := Kd.S_slice HO308.out
    (first | subst eo36 | (injection eo36 with f1_ f2_ f3_; have f4_ := f1_.symm; have f5_ := f3_.symm; clear f1_ f2_ f3_; subst f4_; subst f5_))
    obtain ⟨Ao37, co37, eo37⟩ := Kd.R_slice HO313.out
    (first | subst eo37 | (injection eo37 with f1_ f2_ f3_; have f4_ := f1_.symm; have f5_ := f3_.symm; clear f1_ f2_ f3_; subst f4_; subst f5_))
    refine hK.out _ _ ⟨(bC BK302.out 0).trans rfl, (bC BK303.out 0).trans rfl, (bC BK303.out 1).trans rfl, (bC BK303.out 2).trans rfl⟩ (fun hHeld => ?_)
    clear hK K
    refine norm_ (a' := ?_) ?_ ?_
    rotate_left
    ·show Act.put _ (some 23) _ = _
     simp only [Act.put, lA, l0', lS, i64_w, i32_w]
     rfl
    refine one_ (i := 4) (N := some 24) #[true, true, true, true, true, false] rfl rfl (by kernel_rfl) (by decide) (fun K hK => ?_)
    refine goes_ Try.func41 (by kernel_rfl) rfl #[.agg #[.slice Ao36 t306.length co36], .agg #[.int .i64 t309, .int .i64 t310, .slice Ao37 t311.length co37]] (by rfl) rfl rfl (by (try simp only [mA, mC, mN]); first | done | rfl) ?_
    with_reducible refine (spec_IsLoosePlay.calls k _ _ t306 t309 t310 _ _ t311 t314 _ ?side1 ?side2 ?side3 ?side4 A21.out).mono ?_
    (case side1 => repeat (first | exact (Kd.S_reads' HO308.out).2.2 | (with_reducible refine Kd.C_alloc ?_ _) | (with_reducible refine Kd.C_drewN ?_ _) | (with_reducible refine Kd.C_drew ?_)))
    (case side2 => exact (Kd.S_reads' HO308.out).2.1)
    (case side3 => repeat (first | exact (Kd.R_reads' HO313.out).2.2 | (with_reducible refine Kd.C_alloc ?_ _) | (with_reducible refine Kd.C_drewN ?_ _) | (with_reducible refine Kd.C_drew ?_)))
    (case side4 => exact (Kd.R_reads' HO313.out).2.1)
    rintro e w38 ⟨rfl, hb⟩
    refine ⟨_, rfl, ?_⟩
    have n0_ := aK (Kd.S_below (by (with_reducible repeat (first | apply Kd.S_alloc | apply Kd.S_drewN | apply Kd.S_drew)); exact HO308.out) hb)
    have n1_ := aK (Kd.R_below (by (with_reducible repeat (first | apply Kd.R_alloc | apply Kd.R_drewN | apply Kd.R_drew)); exact HO313.out) hb)
    have n2_ := aK (bB (by (with_reducible repeat (first | refine bN ?_ _ | refine bD ?_ | refine bA ?_ _)); exact BK302.out) hb)
    have n3_ := aK (bB (by (with_reducible repeat (first | refine bN ?_ _ | refine bD ?_ | refine bA ?_ _)); exact BK303.out) hb)
    have n4_ := aK (below_step (by repeat (first | (with_reducible first | exact HB.out | apply bL | apply bM | apply b1 | refine bS ?_ GE302.out | refine bS ?_ GE303.out) | exact HB.out)) hb)
    clear HO308
    clear HO313
    clear BK302
    clear BK303
    clear HB
    have HO308 := n0_
    have HO313 := n1_
    have BK302 := n2_
    have BK303 := n3_
    have HB := n4_
    clear n0_ n1_ n2_ n3_ n4_
    (try clear hb)
    (try clear hb2)
    (try clear hk)
    (try clear hi)
    refine hK.out _ _ ⟨(bC BK302.out 0).trans rfl, (bC BK303.out 0).trans rfl, (bC BK303.out 1).trans rfl, (bC BK303.out 2).trans rfl⟩ (fun hHeld => ?_)
    clear hK K
    refine norm_ (a' := ?_) ?_ ?_
    rotate_left
    ·show Act.put _ (some 24) _ = _
     simp only [Act.put, lA, l0', lS, i64_w, i32_w]
     rfl
    refine pure_ (i := 5) (N := some 6) (v := ?_) (a' := ?_) #[true, true, true, true, true, true] rfl rfl (by kernel_rfl) (fun _ _ _ h => h) (Or.inl ⟨by rfl, ?_⟩) ?_ ?_
    rotate_left
    ·intro w'
     go_simp
     with_reducible rfl
    rotate_left
    ·simp only [Act.put, lA, l0', lS, i64_w, i32_w]
     rfl
    refine done_ (by kernel_rfl) ?_
    have hcz39_0 : w38.cell? ⟨gb302, 0, none⟩ = some (.slice A0_0 l0_0.length c0_0) := (bC BK302.out 0).trans rfl
    have hfz39_0 := blk_frozen BK302.out 0
    try go_wp2_with (first | ((with_reducible refine gate_callee (f := 42) rfl ?_); refine goesL_ (some 26) rfl rfl Try.func42 (by kernel_rfl) rfl #[.agg #[.slice A0_0 l0_0.length c0_0]] rfl (by (try simp only [mA, mC, mN]); first | done | rfl) ?_; (with_reducible refine (laws_toDeal.calls k _ _ l0_0 t315 _ ?side1 ?side2 A22.out).mono ?_); (case side1 => repeat (first | exact (Kd.C_below HR0_0.out HB.out) | (with_reducible refine Kd.C_alloc ?_ _) | (with_reducible refine Kd.C_drewN ?_ _) | (with_reducible refine Kd.C_drew ?_))); (case side2 => exact HC0_0.out); rintro e w40 ⟨v316, rfl, ho0, hb⟩; refine ⟨_, rfl, ?_⟩; have n0_ := aK (Kd.S_elder' (by (with_reducible repeat (first | apply Kd.S_alloc | apply Kd.S_drewN | apply Kd.S_drew)); exact HO308.out) (Kd.S_base ho0) hb); have n1_ := aK (Kd.R_below (by (with_reducible repeat (first | apply Kd.R_alloc | apply Kd.R_drewN | apply Kd.R_drew)); exact HO313.out) hb); have n2_ := aK (Kd.S_lower (Kd.S_new' (Kd.S_new' ho0 (Kd.S_lt (by (with_reducible repeat (first | apply Kd.S_alloc | apply Kd.S_drewN | apply Kd.S_drew)); exact HO308.out))) (Kd.R_lt (by (with_reducible repeat (first | apply Kd.R_alloc | apply Kd.R_drewN | apply Kd.R_drew)); exact HO313.out))) (below_size (by repeat (first | (with_reducible first | exact HB.out | apply bL | apply bM | apply b1 | refine bS ?_ GE302.out | refine bS ?_ GE303.out) | exact HB.out)))); have n3_ := aK (bB (by (with_reducible repeat (first | refine bN ?_ _ | refine bD ?_ | refine bA ?_ _)); exact BK302.out) hb); have n4_ := aK (bB (by (with_reducible repeat (first | refine bN ?_ _ | refine bD ?_ | refine bA ?_ _)); exact BK303.out) hb); have n5_ := aK (below_step (by repeat (first | (with_reducible first | exact HB.out | apply bL | apply bM | apply b1 | refine bS ?_ GE302.out | refine bS ?_ GE303.out) | exact HB.out)) hb); clear HO308; clear HO313; clear BK302; clear BK303; clear HB; have HO308 := n0_; have HO313 := n1_; have HO317 := n2_; have BK302 := n3_; have BK303 := n4_; have HB := n5_; clear n0_ n1_ n2_ n3_ n4_ n5_; (try clear hb); (try clear hb2); (try clear hk); (try clear hi); (try clear ho0)) | ((with_reducible refine gate_dst (N := 7) rfl ?_); refine box_event ?hg (N := 7) ?hd (cs := #[.slice none 0 0]) (t := 44) ?hr ?_; (case hd => rfl); (case hg => rfl); (case hr => first | (go_simp; done) | (go_simp; rfl)); intro gb318 hg w41 hbox hb; have n0_ := aK (Kd.S_below (by (with_reducible repeat (first | apply Kd.S_alloc | apply Kd.S_drewN | apply Kd.S_drew)); exact HO308.out) hb); have n1_ := aK (Kd.R_below (by (with_reducible repeat (first | apply Kd.R_alloc | apply Kd.R_drewN | apply Kd.R_drew)); exact HO313.out) hb); have n2_ := aK (Kd.S_below (by (with_reducible repeat (first | apply Kd.S_alloc | apply Kd.S_drewN | apply Kd.S_drew)); exact HO317.out) hb); have n3_ := aK (bB (by (with_reducible repeat (first | refine bN ?_ _ | refine bD ?_ | refine bA ?_ _)); exact BK302.out) hb); have n4_ := aK (bB (by (with_reducible repeat (first | refine bN ?_ _ | refine bD ?_ | refine bA ?_ _)); exact BK303.out) hb); have n5_ := aK (below_step (by repeat (first | (with_reducible first | exact HB.out | apply bL | apply bM | apply b1 | refine bS ?_ GE302.out | refine bS ?_ GE303.out) | exact HB.out)) hb); have n6_ := aK (hbox); have n7_ := aK ((by rw [hg]; exact (below_size (by repeat (first | (with_reducible first | exact HB.out | apply bL | apply bM | apply b1 | refine bS ?_ GE302.out | refine bS ?_ GE303.out) | exact HB.out))) : w.heap.size ≤ gb318)); have n8_ := aK ((by rw [hg]; exact (below_size (by repeat (first | (with_reducible first | exact HB.out | apply bL | apply bM | apply b1 | refine bS ?_ GE302.out | refine bS ?_ GE303.out) | exact HB.out))) : w.heap.size ≤ gb318)); have n9_ := aK ((by rw [hg]; exact Nat.ne_of_lt (blk_lt (by (with_reducible repeat (first | refine bN ?_ _ | refine bD ?_ | refine bA ?_ _)); exact BK302.out)) : gb302 ≠ gb318)); have n10_ := aK ((by rw [hg]; exact Nat.ne_of_gt (blk_lt (by (with_reducible repeat (first | refine bN ?_ _ | refine bD ?_ | refine bA ?_ _)); exact BK302.out)) : gb318 ≠ gb302)); have n11_ := aK ((by rw [hg]; exact Nat.ne_of_lt (blk_lt (by (with_reducible repeat (first | refine bN ?_ _ | refine bD ?_ | refine bA ?_ _)); exact BK303.out)) : gb303 ≠ gb318)); have n12_ := aK ((by rw [hg]; exact Nat.ne_of_gt (blk_lt (by (with_reducible repeat (first | refine bN ?_ _ | refine bD ?_ | refine bA ?_ _)); exact BK303.out)) : gb318 ≠ gb303)); clear HO308; clear HO313; clear HO317; clear BK302; clear BK303; clear HB; have HO308 := n0_; have HO313 := n1_; have HO317 := n2_; have BK302 := n3_; have BK303 := n4_; have HB := n5_; have BK318 := n6_; have GW318 := n7_; have GE318 := n8_; have NB302_318 := n9_; have NB318_302 := n10_; have NB303_318 := n11_; have NB318_303 := n12_; clear n0_ n1_ n2_ n3_ n4_ n5_ n6_ n7_ n8_ n9_ n10_ n11_ n12_; clear hb hbox hg; obtain ⟨Ao42, co42, eo42⟩ := Kd.S_slice HO317.out; subst eo42; have hnb43 := NB318_302.out; have hnc43 := NB302_318.out; have hnb44 := NB318_303.out; have hnc44 := NB303_318.out; have hcz45_0 : w41.cell? ⟨gb318, 0, none⟩ = some (.slice none 0 0) := (bC BK318.out 0).trans rfl; have hfz45_0 := blk_frozen BK318.out 0; have hcz46_0 : w41.cell? ⟨gb303, 0, none⟩ = some (.int .i64 a1_0) := (bC BK303.out 0).trans rfl; have hcz46_1 : w41.cell? ⟨gb303, 1, none⟩ = some (.int .i64 a1_1) := (bC BK303.out 1).trans rfl; have hcz46_2 : w41.cell? ⟨gb303, 2, none⟩ = some (.slice A1_2 l1_2.length c1_2) := (bC BK303.out 2).trans rfl; have hfz46_0 := blk_frozen BK303.out 0; have hfz46_1 := blk_frozen BK303.out 1; have hfz46_2 := blk_frozen BK303.out 2) | ((with_reducible refine gate_callee (f := 24) rfl ?_); refine goesL_ (some 28) rfl rfl Try.func24 (by kernel_rfl) rfl #[.agg #[.int .i64 a1_0, .int .i64 a1_1, .slice A1_2 l1_2.length c1_2]] rfl (by (try simp only [mA, mC, mN]); first | done | rfl) ?_; (with_reducible refine (laws_toPlay.calls k a1_0 a1_1 _ _ l1_2 t319 t320 t321 _ ?side1 ?side2 A23.out).mono ?_); (case side1 => exact Kd.C_below HR1_2.out (by repeat (first | (with_reducible first | exact HB.out | apply bL | apply bM | apply b1 | refine bS ?_ GE302.out | refine bS ?_ GE303.out | refine bS ?_ GE318.out) | exact HB.out))); (case side2 => exact HC1_2.out); rintro e w47 ⟨v322, rfl, ho0, hb⟩; refine ⟨_, rfl, ?_⟩; have n0_ := aK (Kd.S_elder' (by (with_reducible repeat (first | apply Kd.S_alloc | apply Kd.S_drewN | apply Kd.S_drew)); exact (Kd.S_mono (Kd.S_far (p := ⟨gb318, 0, none⟩) (Kd.S_types HO308.out BK318.out (by decide)) (fun _ hk => by first | exact hk.2 | (have h_ := hk; (try simp only [and_assoc, true_and] at h_); (repeat' apply And.intro) <;> first | with_reducible exact h_.1 | with_reducible exact h_.2.1 | with_reducible exact h_.2.2.1 | with_reducible exact h_.2.2.2.1 | with_reducible exact h_.2.2.2.2.1 | with_reducible exact h_.2.2.2.2.2.1 | with_reducible exact h_.2.2.2.2.2.2.1 | with_reducible exact h_.2.2.2.2.2.2.2.1 | with_reducible exact h_.2.2.2.2.2.2.2.2.1 | with_reducible exact h_.2 | with_reducible exact h_.2.2 | with_reducible exact h_.2.2.2 | with_reducible exact h_.2.2.2.2 | with_reducible exact h_.2.2.2.2.2 | with_reducible exact h_.2.2.2.2.2.2 | with_reducible exact h_.2.2.2.2.2.2.2 | with_reducible exact h_.2.2.2.2.2.2.2.2)) (.slice Ao42 t315.length co42)) (fun _ h_ => h_.1))) (Kd.R_base ho0) hb); have n1_ := aK (Kd.R_elder' (by (with_reducible repeat (first | apply Kd.R_alloc | apply Kd.R_drewN | apply Kd.R_drew)); exact (Kd.R_mono (Kd.R_far (p := ⟨gb318, 0, none⟩) (Kd.R_types HO313.out BK318.out (by decide)) (fun _ hk => by first | exact hk.2 | (have h_ := hk; (try simp only [and_assoc, true_and] at h_); (repeat' apply And.intro) <;> first | with_reducible exact h_.1 | with_reducible exact h_.2.1 | with_reducible exact h_.2.2.1 | with_reducible exact h_.2.2.2.1 | with_reducible exact h_.2.2.2.2.1 | with_reducible exact h_.2.2.2.2.2.1 | with_reducible exact h_.2.2.2.2.2.2.1 | with_reducible exact h_.2.2.2.2.2.2.2.1 | with_reducible exact h_.2.2.2.2.2.2.2.2.1 | with_reducible exact h_.2 | with_reducible exact h_.2.2 | with_reducible exact h_.2.2.2 | with_reducible exact h_.2.2.2.2 | with_reducible exact h_.2.2.2.2.2 | with_reducible exact h_.2.2.2.2.2.2 | with_reducible exact h_.2.2.2.2.2.2.2 | with_reducible exact h_.2.2.2.2.2.2.2.2)) (.slice Ao42 t315.length co42)) (fun _ h_ => h_.1))) (Kd.R_base ho0) hb); have n2_ := aK (Kd.S_elder' (by (with_reducible repeat (first | apply Kd.S_alloc | apply Kd.S_drewN | apply Kd.S_drew)); exact (Kd.S_mono (Kd.S_far (p := ⟨gb318, 0, none⟩) (Kd.S_types HO317.out BK318.out (by decide)) (fun _ hk => by first | exact hk.2 | (have h_ := hk; (try simp only [and_assoc, true_and] at h_); (repeat' apply And.intro) <;> first | with_reducible exact h_.1 | with_reducible exact h_.2.1 | with_reducible exact h_.2.2.1 | with_reducible exact h_.2.2.2.1 | with_reducible exact h_.2.2.2.2.1 | with_reducible exact h_.2.2.2.2.2.1 | with_reducible exact h_.2.2.2.2.2.2.1 | with_reducible exact h_.2.2.2.2.2.2.2.1 | with_reducible exact h_.2.2.2.2.2.2.2.2.1 | with_reducible exact h_.2 | with_reducible exact h_.2.2 | with_reducible exact h_.2.2.2 | with_reducible exact h_.2.2.2.2 | with_reducible exact h_.2.2.2.2.2 | with_reducible exact h_.2.2.2.2.2.2 | with_reducible exact h_.2.2.2.2.2.2.2 | with_reducible exact h_.2.2.2.2.2.2.2.2)) (.slice Ao42 t315.length co42)) (fun _ h_ => h_.1))) (Kd.R_base ho0) hb); have n3_ := aK (Kd.R_lower (Kd.R_new' ho0 (Kd.R_lt (by (with_reducible repeat (first | apply Kd.R_alloc | apply Kd.R_drewN | apply Kd.R_drew)); exact (Kd.R_mono (Kd.R_far (p := ⟨gb318, 0, none⟩) (Kd.R_types HO313.out BK318.out (by decide)) (fun _ hk => by first | exact hk.2 | (have h_ := hk; (try simp only [and_assoc, true_and] at h_); (repeat' apply And.intro) <;> first | with_reducible exact h_.1 | with_reducible exact h_.2.1 | with_reducible exact h_.2.2.1 | with_reducible exact h_.2.2.2.1 | with_reducible exact h_.2.2.2.2.1 | with_reducible exact h_.2.2.2.2.2.1 | with_reducible exact h_.2.2.2.2.2.2.1 | with_reducible exact h_.2.2.2.2.2.2.2.1 | with_reducible exact h_.2.2.2.2.2.2.2.2.1 | with_reducible exact h_.2 | with_reducible exact h_.2.2 | with_reducible exact h_.2.2.2 | with_reducible exact h_.2.2.2.2 | with_reducible exact h_.2.2.2.2.2 | with_reducible exact h_.2.2.2.2.2.2 | with_reducible exact h_.2.2.2.2.2.2.2 | with_reducible exact h_.2.2.2.2.2.2.2.2)) (.slice Ao42 t315.length co42)) (fun _ h_ => h_.1))))) (below_size (by repeat (first | (with_reducible first | exact HB.out | apply bL | apply bM | apply b1 | refine bS ?_ GE302.out | refine bS ?_ GE303.out | refine bS ?_ GE318.out) | exact HB.out)))); have n4_ := aK (bB (g := gb302) (o := .cells #[.slice A0_0 l0_0.length c0_0] 41 (0, 0)) (by (with_reducible repeat (first | refine bN ?_ _ | refine bD ?_ | refine bA ?_ _)); refine blk_far ?_ NB302_318.out _; (with_reducible repeat (first | refine bN ?_ _ | refine bD ?_ | refine bA ?_ _)); exact BK302.out) hb); have n5_ := aK (bB (g := gb303) (o := .cells #[.int .i64 a1_0, .int .i64 a1_1, .slice A1_2 l1_2.length c1_2] 24 (0, 0)) (by (with_reducible repeat (first | refine bN ?_ _ | refine bD ?_ | refine bA ?_ _)); refine blk_far ?_ NB303_318.out _; (with_reducible repeat (first | refine bN ?_ _ | refine bD ?_ | refine bA ?_ _)); exact BK303.out) hb); have n6_ := aK (bB (g := gb318) (o := .cells #[.slice Ao42 t315.length co42] 44 (0, 0)) (by (with_reducible repeat (first | refine bN ?_ _ | refine bD ?_ | refine bA ?_ _)); refine blk_put (cs := #[.slice none 0 0]) ?_ 0 _ rfl; (with_reducible repeat (first | refine bN ?_ _ | refine bD ?_ | refine bA ?_ _)); exact BK318.out) hb); have n7_ := aK (below_step (by repeat (first | (with_reducible first | exact HB.out | apply bL | apply bM | apply b1 | refine bS ?_ GE302.out | refine bS ?_ GE303.out | refine bS ?_ GE318.out) | exact HB.out)) hb); clear HO308; clear HO313; clear HO317; clear BK302; clear BK303; clear BK318; clear HB; have HO308 := n0_; have HO313 := n1_; have HO317 := n2_; have HO323 := n3_; have BK302 := n4_; have BK303 := n5_; have BK318 := n6_; have HB := n7_; clear n0_ n1_ n2_ n3_ n4_ n5_ n6_ n7_; (try clear hb); (try clear hb2); (try clear hk); (try clear hi); (try clear ho0)) | ((with_reducible refine gate_dst (N := 8) rfl ?_); refine box_event ?hg (N := 8) ?hd (cs := #[.int .i64 0, .int .i64 0, .slice none 0 0]) (t := 27) ?hr ?_; (case hd => rfl); (case hg => rfl); (case hr => first | (go_simp; done) | (go_simp; rfl)); intro gb324 hg w48 hbox hb; have n0_ := aK (Kd.S_below (by (with_reducible repeat (first | apply Kd.S_alloc | apply Kd.S_drewN | apply Kd.S_drew)); exact HO308.out) hb); have n1_ := aK (Kd.R_below (by (with_reducible repeat (first | apply Kd.R_alloc | apply Kd.R_drewN | apply Kd.R_drew)); exact HO313.out) hb); have n2_ := aK (Kd.S_below (by (with_reducible repeat (first | apply Kd.S_alloc | apply Kd.S_drewN | apply Kd.S_drew)); exact HO317.out) hb); have n3_ := aK (Kd.R_below (by (with_reducible repeat (first | apply Kd.R_alloc | apply Kd.R_drewN | apply Kd.R_drew)); exact HO323.out) hb); have n4_ := aK (bB (by (with_reducible repeat (first | refine bN ?_ _ | refine bD ?_ | refine bA ?_ _)); exact BK302.out) hb); have n5_ := aK (bB (by (with_reducible repeat (first | refine bN ?_ _ | refine bD ?_ | refine bA ?_ _)); exact BK303.out) hb); have n6_ := aK (bB (by (with_reducible repeat (first | refine bN ?_ _ | refine bD ?_ | refine bA ?_ _)); exact BK318.out) hb); have n7_ := aK (below_step (by repeat (first | (with_reducible first | exact HB.out | apply bL | apply bM | apply b1 | refine bS ?_ GE302.out | refine bS ?_ GE303.out | refine bS ?_ GE318.out) | exact HB.out)) hb); have n8_ := aK (hbox); have n9_ := aK ((by rw [hg]; exact (below_size (by repeat (first | (with_reducible first | exact HB.out | apply bL | apply bM | apply b1 | refine bS ?_ GE302.out | refine bS ?_ GE303.out | refine bS ?_ GE318.out) | exact HB.out))) : w.heap.size ≤ gb324)); have n10_ := aK ((by rw [hg]; exact (below_size (by repeat (first | (with_reducible first | exact HB.out | apply bL | apply bM | apply b1 | refine bS ?_ GE302.out | refine bS ?_ GE303.out | refine bS ?_ GE318.out) | exact HB.out))) : w.heap.size ≤ gb324)); have n11_ := aK ((by rw [hg]; exact Nat.ne_of_lt (blk_lt (by (with_reducible repeat (first | refine bN ?_ _ | refine bD ?_ | refine bA ?_ _)); exact BK302.out)) : gb302 ≠ gb324)); have n12_ := aK ((by rw [hg]; exact Nat.ne_of_gt (blk_lt (by (with_reducible repeat (first | refine bN ?_ _ | refine bD ?_ | refine bA ?_ _)); exact BK302.out)) : gb324 ≠ gb302)); have n13_ := aK ((by rw [hg]; exact Nat.ne_of_lt (blk_lt (by (with_reducible repeat (first | refine bN ?_ _ | refine bD ?_ | refine bA ?_ _)); exact BK303.out)) : gb303 ≠ gb324)); have n14_ := aK ((by rw [hg]; exact Nat.ne_of_gt (blk_lt (by (with_reducible repeat (first | refine bN ?_ _ | refine bD ?_ | refine bA ?_ _)); exact BK303.out)) : gb324 ≠ gb303)); have n15_ := aK ((by rw [hg]; exact Nat.ne_of_lt (blk_lt (by (with_reducible repeat (first | refine bN ?_ _ | refine bD ?_ | refine bA ?_ _)); exact BK318.out)) : gb318 ≠ gb324)); have n16_ := aK ((by rw [hg]; exact Nat.ne_of_gt (blk_lt (by (with_reducible repeat (first | refine bN ?_ _ | refine bD ?_ | refine bA ?_ _)); exact BK318.out)) : gb324 ≠ gb318)); clear HO308; clear HO313; clear HO317; clear HO323; clear BK302; clear BK303; clear BK318; clear HB; have HO308 := n0_; have HO313 := n1_; have HO317 := n2_; have HO323 := n3_; have BK302 := n4_; have BK303 := n5_; have BK318 := n6_; have HB := n7_; have BK324 := n8_; have GW324 := n9_; have GE324 := n10_; have NB302_324 := n11_; have NB324_302 := n12_; have NB303_324 := n13_; have NB324_303 := n14_; have NB318_324 := n15_; have NB324_318 := n16_; clear n0_ n1_ n2_ n3_ n4_ n5_ n6_ n7_ n8_ n9_ n10_ n11_ n12_ n13_ n14_ n15_ n16_; clear hb hbox hg; have hnb49 := NB324_302.out; have hnc49 := NB302_324.out; have hnb50 := NB324_303.out; have hnc50 := NB303_324.out; have hnb51 := NB324_318.out; have hnc51 := NB318_324.out; have hcz52_0 : w48.cell? ⟨gb324, 0, none⟩ = some (.int .i64 0) := (bC BK324.out 0).trans rfl; have hcz52_1 : w48.cell? ⟨gb324, 1, none⟩ = some (.int .i64 0) := (bC BK324.out 1).trans rfl; have hcz52_2 : w48.cell? ⟨gb324, 2, none⟩ = some (.slice none 0 0) := (bC BK324.out 2).trans rfl; have hfz52_0 := blk_frozen BK324.out 0; have hfz52_1 := blk_frozen BK324.out 1; have hfz52_2 := blk_frozen BK324.out 2; obtain ⟨Ao53, co53, eo53⟩ := Kd.R_slice HO323.out; subst eo53; have hcz54_0 : w48.cell? ⟨gb318, 0, none⟩ = some (.slice Ao42 t315.length co42) := (bC BK318.out 0).trans rfl; have hfz54_0 := blk_frozen BK318.out 0) | ((with_reducible refine gate_callee (f := 43) rfl ?_); refine goesL_ (some 31) rfl rfl Try.func43 (by kernel_rfl) rfl #[.agg #[.slice Ao42 t315.length co42], .agg #[.int .i64 t319, .int .i64 t320, .slice Ao53 t321.length co53]] rfl (by (try simp only [mA, mC, mN]); first | done | rfl) ?_; (with_reducible refine (impl_IsLoosePlay.calls k _ _ t315 t319 t320 _ _ t321 t325 _ ?side1 ?side2 ?side3 ?side4 A24.out).mono ?_); (case side1 => refine (Kd.S_reads' (e := 22) (base := w.heap.size) (ok := fun k_ => (((True ∧ some k_ ≠ (.slice Ao36 t306.length co36 : Value).ownBlock) ∧ some k_ ≠ (.slice Ao37 t311.length co37 : Value).ownBlock) ∧ some k_ ≠ (.slice Ao53 t321.length co53 : Value).ownBlock)) (n := t315.length) (c := co42) ?_).2.2; exact (by (with_reducible repeat (first | apply Kd.S_alloc | apply Kd.S_drewN | apply Kd.S_drew)); exact (Kd.S_mono (Kd.S_far (p := ⟨gb324, 2, none⟩) (Kd.S_far (p := ⟨gb324, 1, none⟩) (Kd.S_far (p := ⟨gb324, 0, none⟩) (Kd.S_types HO317.out BK324.out (by decide)) (fun _ hk => by first | exact hk.2 | (have h_ := hk; (try simp only [and_assoc, true_and] at h_); (repeat' apply And.intro) <;> first | with_reducible exact h_.1 | with_reducible exact h_.2.1 | with_reducible exact h_.2.2.1 | with_reducible exact h_.2.2.2.1 | with_reducible exact h_.2.2.2.2.1 | with_reducible exact h_.2.2.2.2.2.1 | with_reducible exact h_.2.2.2.2.2.2.1 | with_reducible exact h_.2.2.2.2.2.2.2.1 | with_reducible exact h_.2.2.2.2.2.2.2.2.1 | with_reducible exact h_.2 | with_reducible exact h_.2.2 | with_reducible exact h_.2.2.2 | with_reducible exact h_.2.2.2.2 | with_reducible exact h_.2.2.2.2.2 | with_reducible exact h_.2.2.2.2.2.2 | with_reducible exact h_.2.2.2.2.2.2.2 | with_reducible exact h_.2.2.2.2.2.2.2.2)) (.int .i64 t319)) (fun _ hk => by first | exact hk.2 | (have h_ := hk; (try simp only [and_assoc, true_and] at h_); (repeat' apply And.intro) <;> first | with_reducible exact h_.1 | with_reducible exact h_.2.1 | with_reducible exact h_.2.2.1 | with_reducible exact h_.2.2.2.1 | with_reducible exact h_.2.2.2.2.1 | with_reducible exact h_.2.2.2.2.2.1 | with_reducible exact h_.2.2.2.2.2.2.1 | with_reducible exact h_.2.2.2.2.2.2.2.1 | with_reducible exact h_.2.2.2.2.2.2.2.2.1 | with_reducible exact h_.2 | with_reducible exact h_.2.2 | with_reducible exact h_.2.2.2 | with_reducible exact h_.2.2.2.2 | with_reducible exact h_.2.2.2.2.2 | with_reducible exact h_.2.2.2.2.2.2 | with_reducible exact h_.2.2.2.2.2.2.2 | with_reducible exact h_.2.2.2.2.2.2.2.2)) (.int .i64 t320)) (fun _ hk => by first | exact hk.2 | (have h_ := hk; (try simp only [and_assoc, true_and] at h_); (repeat' apply And.intro) <;> first | with_reducible exact h_.1 | with_reducible exact h_.2.1 | with_reducible exact h_.2.2.1 | with_reducible exact h_.2.2.2.1 | with_reducible exact h_.2.2.2.2.1 | with_reducible exact h_.2.2.2.2.2.1 | with_reducible exact h_.2.2.2.2.2.2.1 | with_reducible exact h_.2.2.2.2.2.2.2.1 | with_reducible exact h_.2.2.2.2.2.2.2.2.1 | with_reducible exact h_.2 | with_reducible exact h_.2.2 | with_reducible exact h_.2.2.2 | with_reducible exact h_.2.2.2.2 | with_reducible exact h_.2.2.2.2.2 | with_reducible exact h_.2.2.2.2.2.2 | with_reducible exact h_.2.2.2.2.2.2.2 | with_reducible exact h_.2.2.2.2.2.2.2.2)) (.slice Ao53 t321.length co53)) (fun _ h_ => h_.1)))); (case side2 => exact (Kd.S_reads' HO317.out).2.1); (case side3 => refine (Kd.R_reads' (e := 2) (base := w.heap.size) (ok := fun k_ => (True ∧ some k_ ≠ (.slice Ao37 t311.length co37 : Value).ownBlock)) (n := t321.length) (c := co53) ?_).2.2; exact (by (with_reducible repeat (first | apply Kd.R_alloc | apply Kd.R_drewN | apply Kd.R_drew)); exact (Kd.R_mono (Kd.R_far (p := ⟨gb324, 2, none⟩) (Kd.R_far (p := ⟨gb324, 1, none⟩) (Kd.R_far (p := ⟨gb324, 0, none⟩) (Kd.R_types HO323.out BK324.out (by decide)) (fun _ hk => by first | exact hk.2 | (have h_ := hk; (try simp only [and_assoc, true_and] at h_); (repeat' apply And.intro) <;> first | with_reducible exact h_.1 | with_reducible exact h_.2.1 | with_reducible exact h_.2.2.1 | with_reducible exact h_.2.2.2.1 | with_reducible exact h_.2.2.2.2.1 | with_reducible exact h_.2.2.2.2.2.1 | with_reducible exact h_.2.2.2.2.2.2.1 | with_reducible exact h_.2.2.2.2.2.2.2.1 | with_reducible exact h_.2.2.2.2.2.2.2.2.1 | with_reducible exact h_.2 | with_reducible exact h_.2.2 | with_reducible exact h_.2.2.2 | with_reducible exact h_.2.2.2.2 | with_reducible exact h_.2.2.2.2.2 | with_reducible exact h_.2.2.2.2.2.2 | with_reducible exact h_.2.2.2.2.2.2.2 | with_reducible exact h_.2.2.2.2.2.2.2.2)) (.int .i64 t319)) (fun _ hk => by first | exact hk.2 | (have h_ := hk; (try simp only [and_assoc, true_and] at h_); (repeat' apply And.intro) <;> first | with_reducible exact h_.1 | with_reducible exact h_.2.1 | with_reducible exact h_.2.2.1 | with_reducible exact h_.2.2.2.1 | with_reducible exact h_.2.2.2.2.1 | with_reducible exact h_.2.2.2.2.2.1 | with_reducible exact h_.2.2.2.2.2.2.1 | with_reducible exact h_.2.2.2.2.2.2.2.1 | with_reducible exact h_.2.2.2.2.2.2.2.2.1 | with_reducible exact h_.2 | with_reducible exact h_.2.2 | with_reducible exact h_.2.2.2 | with_reducible exact h_.2.2.2.2 | with_reducible exact h_.2.2.2.2.2 | with_reducible exact h_.2.2.2.2.2.2 | with_reducible exact h_.2.2.2.2.2.2.2 | with_reducible exact h_.2.2.2.2.2.2.2.2)) (.int .i64 t320)) (fun _ hk => by first | exact hk.2 | (have h_ := hk; (try simp only [and_assoc, true_and] at h_); (repeat' apply And.intro) <;> first | with_reducible exact h_.1 | with_reducible exact h_.2.1 | with_reducible exact h_.2.2.1 | with_reducible exact h_.2.2.2.1 | with_reducible exact h_.2.2.2.2.1 | with_reducible exact h_.2.2.2.2.2.1 | with_reducible exact h_.2.2.2.2.2.2.1 | with_reducible exact h_.2.2.2.2.2.2.2.1 | with_reducible exact h_.2.2.2.2.2.2.2.2.1 | with_reducible exact h_.2 | with_reducible exact h_.2.2 | with_reducible exact h_.2.2.2 | with_reducible exact h_.2.2.2.2 | with_reducible exact h_.2.2.2.2.2 | with_reducible exact h_.2.2.2.2.2.2 | with_reducible exact h_.2.2.2.2.2.2.2 | with_reducible exact h_.2.2.2.2.2.2.2.2)) (.slice Ao53 t321.length co53)) (fun _ h_ => h_.1)))); (case side4 => exact (Kd.R_reads' HO323.out).2.1); rintro e w55 ⟨rfl, hb⟩; refine ⟨_, rfl, ?_⟩; have n0_ := aK (Kd.S_below (by (with_reducible repeat (first | apply Kd.S_alloc | apply Kd.S_drewN | apply Kd.S_drew)); exact (Kd.S_mono (Kd.S_far (p := ⟨gb324, 2, none⟩) (Kd.S_far (p := ⟨gb324, 1, none⟩) (Kd.S_far (p := ⟨gb324, 0, none⟩) (Kd.S_types HO308.out BK324.out (by decide)) (fun _ hk => by first | exact hk.2 | (have h_ := hk; (try simp only [and_assoc, true_and] at h_); (repeat' apply And.intro) <;> first | with_reducible exact h_.1 | with_reducible exact h_.2.1 | with_reducible exact h_.2.2.1 | with_reducible exact h_.2.2.2.1 | with_reducible exact h_.2.2.2.2.1 | with_reducible exact h_.2.2.2.2.2.1 | with_reducible exact h_.2.2.2.2.2.2.1 | with_reducible exact h_.2.2.2.2.2.2.2.1 | with_reducible exact h_.2.2.2.2.2.2.2.2.1 | with_reducible exact h_.2 | with_reducible exact h_.2.2 | with_reducible exact h_.2.2.2 | with_reducible exact h_.2.2.2.2 | with_reducible exact h_.2.2.2.2.2 | with_reducible exact h_.2.2.2.2.2.2 | with_reducible exact h_.2.2.2.2.2.2.2 | with_reducible exact h_.2.2.2.2.2.2.2.2)) (.int .i64 t319)) (fun _ hk => by first | exact hk.2 | (have h_ := hk; (try simp only [and_assoc, true_and] at h_); (repeat' apply And.intro) <;> first | with_reducible exact h_.1 | with_reducible exact h_.2.1 | with_reducible exact h_.2.2.1 | with_reducible exact h_.2.2.2.1 | with_reducible exact h_.2.2.2.2.1 | with_reducible exact h_.2.2.2.2.2.1 | with_reducible exact h_.2.2.2.2.2.2.1 | with_reducible exact h_.2.2.2.2.2.2.2.1 | with_reducible exact h_.2.2.2.2.2.2.2.2.1 | with_reducible exact h_.2 | with_reducible exact h_.2.2 | with_reducible exact h_.2.2.2 | with_reducible exact h_.2.2.2.2 | with_reducible exact h_.2.2.2.2.2 | with_reducible exact h_.2.2.2.2.2.2 | with_reducible exact h_.2.2.2.2.2.2.2 | with_reducible exact h_.2.2.2.2.2.2.2.2)) (.int .i64 t320)) (fun _ hk => by first | exact hk.2 | (have h_ := hk; (try simp only [and_assoc, true_and] at h_); (repeat' apply And.intro) <;> first | with_reducible exact h_.1 | with_reducible exact h_.2.1 | with_reducible exact h_.2.2.1 | with_reducible exact h_.2.2.2.1 | with_reducible exact h_.2.2.2.2.1 | with_reducible exact h_.2.2.2.2.2.1 | with_reducible exact h_.2.2.2.2.2.2.1 | with_reducible exact h_.2.2.2.2.2.2.2.1 | with_reducible exact h_.2.2.2.2.2.2.2.2.1 | with_reducible exact h_.2 | with_reducible exact h_.2.2 | with_reducible exact h_.2.2.2 | with_reducible exact h_.2.2.2.2 | with_reducible exact h_.2.2.2.2.2 | with_reducible exact h_.2.2.2.2.2.2 | with_reducible exact h_.2.2.2.2.2.2.2 | with_reducible exact h_.2.2.2.2.2.2.2.2)) (.slice Ao53 t321.length co53)) (fun _ h_ => h_.1))) hb); have n1_ := aK (Kd.R_below (by (with_reducible repeat (first | apply Kd.R_alloc | apply Kd.R_drewN | apply Kd.R_drew)); exact (Kd.R_mono (Kd.R_far (p := ⟨gb324, 2, none⟩) (Kd.R_far (p := ⟨gb324, 1, none⟩) (Kd.R_far (p := ⟨gb324, 0, none⟩) (Kd.R_types HO313.out BK324.out (by decide)) (fun _ hk => by first | exact hk.2 | (have h_ := hk; (try simp only [and_assoc, true_and] at h_); (repeat' apply And.intro) <;> first | with_reducible exact h_.1 | with_reducible exact h_.2.1 | with_reducible exact h_.2.2.1 | with_reducible exact h_.2.2.2.1 | with_reducible exact h_.2.2.2.2.1 | with_reducible exact h_.2.2.2.2.2.1 | with_reducible exact h_.2.2.2.2.2.2.1 | with_reducible exact h_.2.2.2.2.2.2.2.1 | with_reducible exact h_.2.2.2.2.2.2.2.2.1 | with_reducible exact h_.2 | with_reducible exact h_.2.2 | with_reducible exact h_.2.2.2 | with_reducible exact h_.2.2.2.2 | with_reducible exact h_.2.2.2.2.2 | with_reducible exact h_.2.2.2.2.2.2 | with_reducible exact h_.2.2.2.2.2.2.2 | with_reducible exact h_.2.2.2.2.2.2.2.2)) (.int .i64 t319)) (fun _ hk => by first | exact hk.2 | (have h_ := hk; (try simp only [and_assoc, true_and] at h_); (repeat' apply And.intro) <;> first | with_reducible exact h_.1 | with_reducible exact h_.2.1 | with_reducible exact h_.2.2.1 | with_reducible exact h_.2.2.2.1 | with_reducible exact h_.2.2.2.2.1 | with_reducible exact h_.2.2.2.2.2.1 | with_reducible exact h_.2.2.2.2.2.2.1 | with_reducible exact h_.2.2.2.2.2.2.2.1 | with_reducible exact h_.2.2.2.2.2.2.2.2.1 | with_reducible exact h_.2 | with_reducible exact h_.2.2 | with_reducible exact h_.2.2.2 | with_reducible exact h_.2.2.2.2 | with_reducible exact h_.2.2.2.2.2 | with_reducible exact h_.2.2.2.2.2.2 | with_reducible exact h_.2.2.2.2.2.2.2 | with_reducible exact h_.2.2.2.2.2.2.2.2)) (.int .i64 t320)) (fun _ hk => by first | exact hk.2 | (have h_ := hk; (try simp only [and_assoc, true_and] at h_); (repeat' apply And.intro) <;> first | with_reducible exact h_.1 | with_reducible exact h_.2.1 | with_reducible exact h_.2.2.1 | with_reducible exact h_.2.2.2.1 | with_reducible exact h_.2.2.2.2.1 | with_reducible exact h_.2.2.2.2.2.1 | with_reducible exact h_.2.2.2.2.2.2.1 | with_reducible exact h_.2.2.2.2.2.2.2.1 | with_reducible exact h_.2.2.2.2.2.2.2.2.1 | with_reducible exact h_.2 | with_reducible exact h_.2.2 | with_reducible exact h_.2.2.2 | with_reducible exact h_.2.2.2.2 | with_reducible exact h_.2.2.2.2.2 | with_reducible exact h_.2.2.2.2.2.2 | with_reducible exact h_.2.2.2.2.2.2.2 | with_reducible exact h_.2.2.2.2.2.2.2.2)) (.slice Ao53 t321.length co53)) (fun _ h_ => h_.1))) hb); have n2_ := aK (Kd.S_below (by (with_reducible repeat (first | apply Kd.S_alloc | apply Kd.S_drewN | apply Kd.S_drew)); exact (Kd.S_mono (Kd.S_far (p := ⟨gb324, 2, none⟩) (Kd.S_far (p := ⟨gb324, 1, none⟩) (Kd.S_far (p := ⟨gb324, 0, none⟩) (Kd.S_types HO317.out BK324.out (by decide)) (fun _ hk => by first | exact hk.2 | (have h_ := hk; (try simp only [and_assoc, true_and] at h_); (repeat' apply And.intro) <;> first | with_reducible exact h_.1 | with_reducible exact h_.2.1 | with_reducible exact h_.2.2.1 | with_reducible exact h_.2.2.2.1 | with_reducible exact h_.2.2.2.2.1 | with_reducible exact h_.2.2.2.2.2.1 | with_reducible exact h_.2.2.2.2.2.2.1 | with_reducible exact h_.2.2.2.2.2.2.2.1 | with_reducible exact h_.2.2.2.2.2.2.2.2.1 | with_reducible exact h_.2 | with_reducible exact h_.2.2 | with_reducible exact h_.2.2.2 | with_reducible exact h_.2.2.2.2 | with_reducible exact h_.2.2.2.2.2 | with_reducible exact h_.2.2.2.2.2.2 | with_reducible exact h_.2.2.2.2.2.2.2 | with_reducible exact h_.2.2.2.2.2.2.2.2)) (.int .i64 t319)) (fun _ hk => by first | exact hk.2 | (have h_ := hk; (try simp only [and_assoc, true_and] at h_); (repeat' apply And.intro) <;> first | with_reducible exact h_.1 | with_reducible exact h_.2.1 | with_reducible exact h_.2.2.1 | with_reducible exact h_.2.2.2.1 | with_reducible exact h_.2.2.2.2.1 | with_reducible exact h_.2.2.2.2.2.1 | with_reducible exact h_.2.2.2.2.2.2.1 | with_reducible exact h_.2.2.2.2.2.2.2.1 | with_reducible exact h_.2.2.2.2.2.2.2.2.1 | with_reducible exact h_.2 | with_reducible exact h_.2.2 | with_reducible exact h_.2.2.2 | with_reducible exact h_.2.2.2.2 | with_reducible exact h_.2.2.2.2.2 | with_reducible exact h_.2.2.2.2.2.2 | with_reducible exact h_.2.2.2.2.2.2.2 | with_reducible exact h_.2.2.2.2.2.2.2.2)) (.int .i64 t320)) (fun _ hk => by first | exact hk.2 | (have h_ := hk; (try simp only [and_assoc, true_and] at h_); (repeat' apply And.intro) <;> first | with_reducible exact h_.1 | with_reducible exact h_.2.1 | with_reducible exact h_.2.2.1 | with_reducible exact h_.2.2.2.1 | with_reducible exact h_.2.2.2.2.1 | with_reducible exact h_.2.2.2.2.2.1 | with_reducible exact h_.2.2.2.2.2.2.1 | with_reducible exact h_.2.2.2.2.2.2.2.1 | with_reducible exact h_.2.2.2.2.2.2.2.2.1 | with_reducible exact h_.2 | with_reducible exact h_.2.2 | with_reducible exact h_.2.2.2 | with_reducible exact h_.2.2.2.2 | with_reducible exact h_.2.2.2.2.2 | with_reducible exact h_.2.2.2.2.2.2 | with_reducible exact h_.2.2.2.2.2.2.2 | with_reducible exact h_.2.2.2.2.2.2.2.2)) (.slice Ao53 t321.length co53)) (fun _ h_ => h_.1))) hb); have n3_ := aK (Kd.R_below (by (with_reducible repeat (first | apply Kd.R_alloc | apply Kd.R_drewN | apply Kd.R_drew)); exact (Kd.R_mono (Kd.R_far (p := ⟨gb324, 2, none⟩) (Kd.R_far (p := ⟨gb324, 1, none⟩) (Kd.R_far (p := ⟨gb324, 0, none⟩) (Kd.R_types HO323.out BK324.out (by decide)) (fun _ hk => by first | exact hk.2 | (have h_ := hk; (try simp only [and_assoc, true_and] at h_); (repeat' apply And.intro) <;> first | with_reducible exact h_.1 | with_reducible exact h_.2.1 | with_reducible exact h_.2.2.1 | with_reducible exact h_.2.2.2.1 | with_reducible exact h_.2.2.2.2.1 | with_reducible exact h_.2.2.2.2.2.1 | with_reducible exact h_.2.2.2.2.2.2.1 | with_reducible exact h_.2.2.2.2.2.2.2.1 | with_reducible exact h_.2.2.2.2.2.2.2.2.1 | with_reducible exact h_.2 | with_reducible exact h_.2.2 | with_reducible exact h_.2.2.2 | with_reducible exact h_.2.2.2.2 | with_reducible exact h_.2.2.2.2.2 | with_reducible exact h_.2.2.2.2.2.2 | with_reducible exact h_.2.2.2.2.2.2.2 | with_reducible exact h_.2.2.2.2.2.2.2.2)) (.int .i64 t319)) (fun _ hk => by first | exact hk.2 | (have h_ := hk; (try simp only [and_assoc, true_and] at h_); (repeat' apply And.intro) <;> first | with_reducible exact h_.1 | with_reducible exact h_.2.1 | with_reducible exact h_.2.2.1 | with_reducible exact h_.2.2.2.1 | with_reducible exact h_.2.2.2.2.1 | with_reducible exact h_.2.2.2.2.2.1 | with_reducible exact h_.2.2.2.2.2.2.1 | with_reducible exact h_.2.2.2.2.2.2.2.1 | with_reducible exact h_.2.2.2.2.2.2.2.2.1 | with_reducible exact h_.2 | with_reducible exact h_.2.2 | with_reducible exact h_.2.2.2 | with_reducible exact h_.2.2.2.2 | with_reducible exact h_.2.2.2.2.2 | with_reducible exact h_.2.2.2.2.2.2 | with_reducible exact h_.2.2.2.2.2.2.2 | with_reducible exact h_.2.2.2.2.2.2.2.2)) (.int .i64 t320)) (fun _ hk => by first | exact hk.2 | (have h_ := hk; (try simp only [and_assoc, true_and] at h_); (repeat' apply And.intro) <;> first | with_reducible exact h_.1 | with_reducible exact h_.2.1 | with_reducible exact h_.2.2.1 | with_reducible exact h_.2.2.2.1 | with_reducible exact h_.2.2.2.2.1 | with_reducible exact h_.2.2.2.2.2.1 | with_reducible exact h_.2.2.2.2.2.2.1 | with_reducible exact h_.2.2.2.2.2.2.2.1 | with_reducible exact h_.2.2.2.2.2.2.2.2.1 | with_reducible exact h_.2 | with_reducible exact h_.2.2 | with_reducible exact h_.2.2.2 | with_reducible exact h_.2.2.2.2 | with_reducible exact h_.2.2.2.2.2 | with_reducible exact h_.2.2.2.2.2.2 | with_reducible exact h_.2.2.2.2.2.2.2 | with_reducible exact h_.2.2.2.2.2.2.2.2)) (.slice Ao53 t321.length co53)) (fun _ h_ => h_.1))) hb); have n4_ := aK (bB (g := gb302) (o := .cells #[.slice A0_0 l0_0.length c0_0] 41 (0, 0)) (by (with_reducible repeat (first | refine bN ?_ _ | refine bD ?_ | refine bA ?_ _)); refine blk_far ?_ NB302_324.out _; (with_reducible repeat (first | refine bN ?_ _ | refine bD ?_ | refine bA ?_ _)); refine blk_far ?_ NB302_324.out _; (with_reducible repeat (first | refine bN ?_ _ | refine bD ?_ | refine bA ?_ _)); refine blk_far ?_ NB302_324.out _; (with_reducible repeat (first | refine bN ?_ _ | refine bD ?_ | refine bA ?_ _)); exact BK302.out) hb); have n5_ := aK (bB (g := gb303) (o := .cells #[.int .i64 a1_0, .int .i64 a1_1, .slice A1_2 l1_2.length c1_2] 24 (0, 0)) (by (with_reducible repeat (first | refine bN ?_ _ | refine bD ?_ | refine bA ?_ _)); refine blk_far ?_ NB303_324.out _; (with_reducible repeat (first | refine bN ?_ _ | refine bD ?_ | refine bA ?_ _)); refine blk_far ?_ NB303_324.out _; (with_reducible repeat (first | refine bN ?_ _ | refine bD ?_ | refine bA ?_ _)); refine blk_far ?_ NB303_324.out _; (with_reducible repeat (first | refine bN ?_ _ | refine bD ?_ | refine bA ?_ _)); exact BK303.out) hb); have n6_ := aK (bB (g := gb318) (o := .cells #[.slice Ao42 t315.length co42] 44 (0, 0)) (by (with_reducible repeat (first | refine bN ?_ _ | refine bD ?_ | refine bA ?_ _)); refine blk_far ?_ NB318_324.out _; (with_reducible repeat (first | refine bN ?_ _ | refine bD ?_ | refine bA ?_ _)); refine blk_far ?_ NB318_324.out _; (with_reducible repeat (first | refine bN ?_ _ | refine bD ?_ | refine bA ?_ _)); refine blk_far ?_ NB318_324.out _; (with_reducible repeat (first | refine bN ?_ _ | refine bD ?_ | refine bA ?_ _)); exact BK318.out) hb); have n7_ := aK (bB (g := gb324) (o := .cells #[.int .i64 t319, .int .i64 t320, .slice Ao53 t321.length co53] 27 (0, 0)) (by (with_reducible repeat (first | refine bN ?_ _ | refine bD ?_ | refine bA ?_ _)); refine blk_put (cs := #[.int .i64 t319, .int .i64 t320, .slice none 0 0]) ?_ 2 _ rfl; (with_reducible repeat (first | refine bN ?_ _ | refine bD ?_ | refine bA ?_ _)); refine blk_put (cs := #[.int .i64 t319, .int .i64 0, .slice none 0 0]) ?_ 1 _ rfl; (with_reducible repeat (first | refine bN ?_ _ | refine bD ?_ | refine bA ?_ _)); refine blk_put (cs := #[.int .i64 0, .int .i64 0, .slice none 0 0]) ?_ 0 _ rfl; (with_reducible repeat (first | refine bN ?_ _ | refine bD ?_ | refine bA ?_ _)); exact BK324.out) hb); have n8_ := aK (below_step (by repeat (first | (with_reducible first | exact HB.out | apply bL | apply bM | apply b1 | refine bS ?_ GE302.out | refine bS ?_ GE303.out | refine bS ?_ GE318.out | refine bS ?_ GE324.out) | exact HB.out)) hb); clear HO308; clear HO313; clear HO317; clear HO323; clear BK302; clear BK303; clear BK318; clear BK324; clear HB; have HO308 := n0_; have HO313 := n1_; have HO317 := n2_; have HO323 := n3_; have BK302 := n4_; have BK303 := n5_; have BK318 := n6_; have BK324 := n7_; have HB := n8_; clear n0_ n1_ n2_ n3_ n4_ n5_ n6_ n7_ n8_; (try clear hb); (try clear hb2); (try clear hk); (try clear hi)))
    go_ret
    exact ⟨by first | rfl | (simp [errW_none, errW_some] <;> rfl) | (simp [*, errW_none, errW_some] <;> rfl), by repeat (first | (with_reducible first | exact HB.out | apply bL | apply bM | apply b1 | refine bS ?_ GE302.out | refine bS ?_ GE303.out | refine bS ?_ GE318.out | refine bS ?_ GE324.out) | exact HB.out)⟩
   ·rw [if_neg c25] at H
    have c25b0 : (t325 != t314) = false := by simpa using c25
    (try (have c25b1 : decide (t325 = t314) = true := by simpa using c25))
    (try (have c25b2 : (t325 == t314) = true := by simpa using c25))
    clear c25
    replace H := Option.bind_eq_some_iff.mp H
    obtain ⟨t326, A560, H⟩ := H
    replace H : ((laws_eqDeal.f k t315 t326).bind fun t329 => (if t329 = true then ((laws_toPlay.f k a1_0 a1_1 l1_2).bind fun bt330 => ((laws_eqPlay.f k t319 t320 t321 bt330.1 bt330.2.1 bt330.2.2).bind fun t335 => (if t335 = true then (some true) else (some false)))) else (some false))) = some r := H
    have A56 := aK A560
    clear A560
    replace H := Option.bind_eq_some_iff.mp H
    obtain ⟨t329, A570, H⟩ := H
    replace H : (if t329 = true then ((laws_toPlay.f k a1_0 a1_1 l1_2).bind fun bt330 => ((laws_eqPlay.f k t319 t320 t321 bt330.1 bt330.2.1 bt330.2.2).bind fun t335 => (if t335 = true then (some true) else (some false)))) else (some false)) = some r := H
    have A57 := aK A570
    clear A570
    by_cases c58 : t329 = true
    ·subst c58
     have H1 : ((laws_toPlay.f k a1_0 a1_1 l1_2).bind fun bt330 => ((laws_eqPlay.f k t319 t320 t321 bt330.1 bt330.2.1 bt330.2.2).bind fun t335 => (if t335 = true then (some true) else (some false)))) = some r := by rw [if_pos rfl] at H; exact H
     clear H
     have H := H1
     clear H1
     replace H := Option.bind_eq_some_iff.mp H
     obtain ⟨⟨t330, t331, t332⟩, A590, H⟩ := H
     replace H : ((laws_eqPlay.f k t319 t320 t321 t330 t331 t332).bind fun t335 => (if t335 = true then (some true) else (some false))) = some r := H
     have A59 := aK A590
     clear A590
     replace H := Option.bind_eq_some_iff.mp H
     obtain ⟨t335, A600, H⟩ := H
     replace H : (if t335 = true then (some true) else (some false)) = some r := H
     have A60 := aK A600
     clear A600
     by_cases c61 : t335 = true
     ·subst c61
      have H1 : (some true) = some r := by rw [if_pos rfl] at H; exact H
      clear H
      have H := H1
      clear H1
      obtain rfl := Option.some.inj H
      go_enter Try.func8, Try.ntmps8
      try go_wp2_with (first | ((with_reducible refine gate_dst (N := 2) rfl ?_); refine box_event ?hg (N := 2) ?hd (cs := #[.slice A0_0 l0_0.length c0_0]) (t := 41) ?hr ?_; (case hd => rfl); (case hg => rfl); (case hr => first | (go_simp; done) | (go_simp; rfl)); intro gb302 hg w62 hbox hb; have n0_ := aK (below_step (by repeat (first | (with_reducible first | exact HB.out | apply bL | apply bM | apply b1) | exact HB.out)) hb); have n1_ := aK (hbox); have n2_ := aK ((by rw [hg]; exact (below_size (by repeat (first | (with_reducible first | exact HB.out | apply bL | apply bM | apply b1) | exact HB.out))) : w.heap.size ≤ gb302)); have n3_ := aK ((by rw [hg]; exact (below_size (by repeat (first | (with_reducible first | exact HB.out | apply bL | apply bM | apply b1) | exact HB.out))) : w.heap.size ≤ gb302)); clear HB; have HB := n0_; have BK302 := n1_; have GW302 := n2_; have GE302 := n3_; clear n0_ n1_ n2_ n3_; clear hb hbox hg) | ((with_reducible refine gate_dst (N := 3) rfl ?_); refine box_event ?hg (N := 3) ?hd (cs := #[.int .i64 a1_0, .int .i64 a1_1, .slice A1_2 l1_2.length c1_2]) (t := 24) ?hr ?_; (case hd => rfl); (case hg => rfl); (case hr => first | (go_simp; done) | (go_simp; rfl)); intro gb303 hg w63 hbox hb; have n0_ := aK (bB (by (with_reducible repeat (first | refine bN ?_ _ | refine bD ?_ | refine bA ?_ _)); exact BK302.out) hb); have n1_ := aK (below_step (by repeat (first | (with_reducible first | exact HB.out | apply bL | apply bM | apply b1 | refine bS ?_ GE302.out) | exact HB.out)) hb); have n2_ := aK (hbox); have n3_ := aK ((by rw [hg]; exact (below_size (by repeat (first | (with_reducible first | exact HB.out | apply bL | apply bM | apply b1 | refine bS ?_ GE302.out) | exact HB.out))) : w.heap.size ≤ gb303)); have n4_ := aK ((by rw [hg]; exact (below_size (by repeat (first | (with_reducible first | exact HB.out | apply bL | apply bM | apply b1 | refine bS ?_ GE302.out) | exact HB.out))) : w.heap.size ≤ gb303)); have n5_ := aK ((by rw [hg]; exact Nat.ne_of_lt (blk_lt (by (with_reducible repeat (first | refine bN ?_ _ | refine bD ?_ | refine bA ?_ _)); exact BK302.out)) : gb302 ≠ gb303)); have n6_ := aK ((by rw [hg]; exact Nat.ne_of_gt (blk_lt (by (with_reducible repeat (first | refine bN ?_ _ | refine bD ?_ | refine bA ?_ _)); exact BK302.out)) : gb303 ≠ gb302)); clear BK302; clear HB; have BK302 := n0_; have HB := n1_; have BK303 := n2_; have GW303 := n3_; have GE303 := n4_; have NB302_303 := n5_; have NB303_302 := n6_; clear n0_ n1_ n2_ n3_ n4_ n5_ n6_; clear hb hbox hg; have hnb64 := NB302_303.out; have hnc64 := NB303_302.out; have hcz65_0 : w63.cell? ⟨gb302, 0, none⟩ = some (.slice A0_0 l0_0.length c0_0) := (bC BK302.out 0).trans rfl; have hfz65_0 := blk_frozen BK302.out 0) | ((with_reducible refine gate_callee (f := 40) rfl ?_); refine goesL_ (some 12) rfl rfl Try.func40 (by kernel_rfl) rfl #[.agg #[.slice A0_0 l0_0.length c0_0], .int .i64 1048576] rfl (by (try simp only [mA, mC, mN]); first | done | rfl) ?_; (with_reducible refine (laws_szDeal.calls k _ _ l0_0 1048576 t304 _ ?side1 ?side2 A3.out).mono ?_); (case side1 => repeat (first | exact (Kd.C_below HR0_0.out HB.out) | (with_reducible refine Kd.C_alloc ?_ _) | (with_reducible refine Kd.C_drewN ?_ _) | (with_reducible refine Kd.C_drew ?_))); (case side2 => exact HC0_0.out); rintro e w66 ⟨rfl, hb⟩; refine ⟨_, rfl, ?_⟩; have n0_ := aK (bB (by (with_reducible repeat (first | refine bN ?_ _ | refine bD ?_ | refine bA ?_ _)); exact BK302.out) hb); have n1_ := aK (bB (by (with_reducible repeat (first | refine bN ?_ _ | refine bD ?_ | refine bA ?_ _)); exact BK303.out) hb); have n2_ := aK (below_step (by repeat (first | (with_reducible first | exact HB.out | apply bL | apply bM | apply b1 | refine bS ?_ GE302.out | refine bS ?_ GE303.out) | exact HB.out)) hb); clear BK302; clear BK303; clear HB; have BK302 := n0_; have BK303 := n1_; have HB := n2_; clear n0_ n1_ n2_; (try clear hb); (try clear hb2); (try clear hk); (try clear hi); have hcz67_0 : w66.cell? ⟨gb303, 0, none⟩ = some (.int .i64 a1_0) := (bC BK303.out 0).trans rfl; have hcz67_1 : w66.cell? ⟨gb303, 1, none⟩ = some (.int .i64 a1_1) := (bC BK303.out 1).trans rfl; have hcz67_2 : w66.cell? ⟨gb303, 2, none⟩ = some (.slice A1_2 l1_2.length c1_2) := (bC BK303.out 2).trans rfl; have hfz67_0 := blk_frozen BK303.out 0; have hfz67_1 := blk_frozen BK303.out 1; have hfz67_2 := blk_frozen BK303.out 2) | ((with_reducible refine gate_callee (f := 22) rfl ?_); refine goesL_ (some 17) rfl rfl Try.func22 (by kernel_rfl) rfl #[.agg #[.int .i64 a1_0, .int .i64 a1_1, .slice A1_2 l1_2.length c1_2], .int .i64 t304] rfl (by (try simp only [mA, mC, mN]); first | done | rfl) ?_; (with_reducible refine (laws_szPlay.calls a1_0 a1_1 _ _ l1_2 t304 t305 _ ?side1 ?side2 A10.out).mono ?_); (case side1 => repeat (first | exact (Kd.C_below HR1_2.out HB.out) | (with_reducible refine Kd.C_alloc ?_ _) | (with_reducible refine Kd.C_drewN ?_ _) | (with_reducible refine Kd.C_drew ?_))); (case side2 => exact HC1_2.out); rintro e w68 ⟨rfl, hb⟩; refine ⟨_, rfl, ?_⟩; have n0_ := aK (bB (by (with_reducible repeat (first | refine bN ?_ _ | refine bD ?_ | refine bA ?_ _)); exact BK302.out) hb); have n1_ := aK (bB (by (with_reducible repeat (first | refine bN ?_ _ | refine bD ?_ | refine bA ?_ _)); exact BK303.out) hb); have n2_ := aK (below_step (by repeat (first | (with_reducible first | exact HB.out | apply bL | apply bM | apply b1 | refine bS ?_ GE302.out | refine bS ?_ GE303.out) | exact HB.out)) hb); clear BK302; clear BK303; clear HB; have BK302 := n0_; have BK303 := n1_; have HB := n2_; clear n0_ n1_ n2_; (try clear hb); (try clear hb2); (try clear hk); (try clear hi)))
      have n0_ := aK (bD BK302.out)
      have n1_ := aK (bD BK303.out)
      have n2_ := aK (b1 HB.out)
      clear BK302
      clear BK303
      clear HB
      have BK302 := n0_
      have BK303 := n1_
      have HB := n2_
      clear n0_ n1_ n2_
      refine start_ (n := 6) (S := fun w' => w'.cell? ⟨gb302, 0, none⟩ = some (.slice A0_0 l0_0.length c0_0) ∧ w'.cell? ⟨gb303, 0, none⟩ = some (.int .i64 a1_0) ∧ w'.cell? ⟨gb303, 1, none⟩ = some (.int .i64 a1_1) ∧ w'.cell? ⟨gb303, 2, none⟩ = some (.slice A1_2 l1_2.length c1_2)) (ds := []) #[false, false, false, false, false, false] (by kernel_rfl) rfl rfl ⟨(bC BK302.out 0).trans rfl, (bC BK303.out 0).trans rfl, (bC BK303.out 1).trans rfl, (bC BK303.out 2).trans rfl⟩ (fun hHeld => ?_)
      generalize w68.drew = w69 at BK302 BK303 HB hHeld ⊢
      refine take_ (i := 0) (N := some 20) (v := ?_) (a' := ?_) #[true, false, false, false, false, false] rfl rfl (by kernel_rfl) (fun _ _ _ h => h) (Or.inl ⟨by rfl, ?_⟩) hHeld ?_ ?_
      rotate_left
      ·rintro w' ⟨s0, s1, s2, s3⟩
       go_simp
       with_reducible rfl
      rotate_left
      ·simp only [Act.put, lA, l0', lS, i64_w, i32_w]
       rfl
      refine take_ (i := 2) (N := some 22) (v := ?_) (a' := ?_) #[true, false, true, false, false, false] rfl rfl (by kernel_rfl) (fun _ _ _ h => h) (Or.inl ⟨by rfl, ?_⟩) hHeld ?_ ?_
      rotate_left
      ·rintro w' ⟨s0, s1, s2, s3⟩
       go_simp
       with_reducible rfl
      rotate_left
      ·simp only [Act.put, lA, l0', lS, i64_w, i32_w]
       rfl
      refine one_ (i := 1) (N := some 21) #[true, true, true, false, false, false] rfl rfl (by kernel_rfl) (by decide) (fun K hK => ?_)
      refine goes_ Try.func42 (by kernel_rfl) rfl #[.agg #[.slice A0_0 l0_0.length c0_0]] (by rfl) rfl rfl (by (try simp only [mA, mC, mN]); first | done | rfl) ?_
      with_reducible refine (laws_toDeal.calls k _ _ l0_0 t306 _ ?side1 ?side2 A19.out).mono ?_
      (case side1 => repeat (first | exact (Kd.C_below HR0_0.out HB.out) | (with_reducible refine Kd.C_alloc ?_ _) | (with_reducible refine Kd.C_drewN ?_ _) | (with_reducible refine Kd.C_drew ?_)))
      (case side2 => exact HC0_0.out)
      rintro e w70 ⟨v307, rfl, ho0, hb⟩
      refine ⟨_, rfl, ?_⟩
      have n0_ := aK (Kd.S_lower ho0 (below_size (by repeat (first | (with_reducible first | exact HB.out | apply bL | apply bM | apply b1 | refine bS ?_ GE302.out | refine bS ?_ GE303.out) | exact HB.out))))
      have n1_ := aK (bB (by (with_reducible repeat (first | refine bN ?_ _ | refine bD ?_ | refine bA ?_ _)); exact BK302.out) hb)
      have n2_ := aK (bB (by (with_reducible repeat (first | refine bN ?_ _ | refine bD ?_ | refine bA ?_ _)); exact BK303.out) hb)
      have n3_ := aK (below_step (by repeat (first | (with_reducible first | exact HB.out | apply bL | apply bM | apply b1 | refine bS ?_ GE302.out | refine bS ?_ GE303.out) | exact HB.out)) hb)
      clear BK302
      clear BK303
      clear HB
      have HO308 := n0_
      have BK302 := n1_
      have BK303 := n2_
      have HB := n3_
      clear n0_ n1_ n2_ n3_
      (try clear hb)
      (try clear hb2)
      (try clear hk)
      (try clear hi)
      (try clear ho0)
      refine hK.out _ _ ⟨(bC BK302.out 0).trans rfl, (bC BK303.out 0).trans rfl, (bC BK303.out 1).trans rfl, (bC BK303.out 2).trans rfl⟩ (fun hHeld => ?_)
      clear hK K
      refine norm_ (a' := ?_) ?_ ?_
      rotate_left
      ·show Act.put _ (some 21) _ = _
       simp only [Act.put, lA, l0', lS, i64_w, i32_w]
       rfl
      refine one_ (i := 3) (N := some 23) #[true, true, true, true, false, false] rfl rfl (by kernel_rfl) (by decide) (fun K hK => ?_)
      refine goes_ Try.func24 (by kernel_rfl) rfl #[.agg #[.int .i64 a1_0, .int .i64 a1_1, .slice A1_2 l1_2.length c1_2]] (by rfl) rfl rfl (by (try simp only [mA, mC, mN]); first | done | rfl) ?_
      with_reducible refine (laws_toPlay.calls k a1_0 a1_1 _ _ l1_2 t309 t310 t311 _ ?side1 ?side2 A20.out).mono ?_
      (case side1 => repeat (first | exact (Kd.C_below HR1_2.out HB.out) | (with_reducible refine Kd.C_alloc ?_ _) | (with_reducible refine Kd.C_drewN ?_ _) | (with_reducible refine Kd.C_drew ?_)))
      (case side2 => exact HC1_2.out)
      rintro e w71 ⟨v312, rfl, ho0, hb⟩
      refine ⟨_, rfl, ?_⟩
      have n0_ := aK (Kd.S_elder' (by (with_reducible repeat (first | apply Kd.S_alloc | apply Kd.S_drewN | apply Kd.S_drew)); exact HO308.out) (Kd.R_base ho0) hb)
      have n1_ := aK (Kd.R_lower ho0 (below_size (by repeat (first | (with_reducible first | exact HB.out | apply bL | apply bM | apply b1 | refine bS ?_ GE302.out | refine bS ?_ GE303.out) | exact HB.out))))
      have n2_ := aK (bB (by (with_reducible repeat (first | refine bN ?_ _ | refine bD ?_ | refine bA ?_ _)); exact BK302.out) hb)
      have n3_ := aK (bB (by (with_reducible repeat (first | refine bN ?_ _ | refine bD ?_ | refine bA ?_ _)); exact BK303.out) hb)
      have n4_ := aK (below_step (by repeat (first | (with_reducible first | exact HB.out | apply bL | apply bM | apply b1 | refine bS ?_ GE302.out | refine bS ?_ GE303.out) | exact HB.out)) hb)
      clear HO308
      clear BK302
      clear BK303
      clear HB
      have HO308 := n0_
      have HO313 := n1_
      have BK302 := n2_
      have BK303 := n3_
      have HB := n4_
      clear n0_ n1_ n2_ n3_ n4_
      (try clear hb)
      (try clear hb2)
      (try clear hk)
      (try clear hi)
      (try clear ho0)
      obtain ⟨Ao72, co72, eo72⟩ := Kd.S_slice HO308.out
      (first | subst eo72 | (injection eo72 with f1_ f2_ f3_; have f4_ := f1_.symm; have f5_ := f3_.symm; clear f1_ f2_ f3_; subst f4_; subst f5_))
      obtain ⟨Ao73, co73, eo73⟩ := Kd.R_slice HO313.out
      (first | subst eo73 | (injection eo73 with f1_ f2_ f3_; have f4_ := f1_.symm; have f5_ := f3_.symm; clear f1_ f2_ f3_; subst f4_; subst f5_))
      refine hK.out _ _ ⟨(bC BK302.out 0).trans rfl, (bC BK303.out 0).trans rfl, (bC BK303.out 1).trans rfl, (bC BK303.out 2).trans rfl⟩ (fun hHeld => ?_)
      clear hK K
      refine norm_ (a' := ?_) ?_ ?_
      rotate_left
      ·show Act.put _ (some 23) _ = _
       simp only [Act.put, lA, l0', lS, i64_w, i32_w]
       rfl
      refine one_ (i := 4) (N := some 24) #[true, true, true, true, true, false] rfl rfl (by kernel_rfl) (by decide) (fun K hK => ?_)
      refine goes_ Try.func41 (by kernel_rfl) rfl #[.agg #[.slice Ao72 t306.length co72], .agg #[.int .i64 t309, .int .i64 t310, .slice Ao73 t311.length co73]] (by rfl) rfl rfl (by (try simp only [mA, mC, mN]); first | done | rfl) ?_
      with_reducible refine (spec_IsLoosePlay.calls k _ _ t306 t309 t310 _ _ t311 t314 _ ?side1 ?side2 ?side3 ?side4 A21.out).mono ?_
      (case side1 => repeat (first | exact (Kd.S_reads' HO308.out).2.2 | (with_reducible refine Kd.C_alloc ?_ _) | (with_reducible refine Kd.C_drewN ?_ _) | (with_reducible refine Kd.C_drew ?_)))
      (case side2 => exact (Kd.S_reads' HO308.out).2.1)
      (case side3 => repeat (first | exact (Kd.R_reads' HO313.out).2.2 | (with_reducible refine Kd.C_alloc ?_ _) | (with_reducible refine Kd.C_drewN ?_ _) | (with_reducible refine Kd.C_drew ?_)))
      (case side4 => exact (Kd.R_reads' HO313.out).2.1)
      rintro e w74 ⟨rfl, hb⟩
      refine ⟨_, rfl, ?_⟩
      have n0_ := aK (Kd.S_below (by (with_reducible repeat (first | apply Kd.S_alloc | apply Kd.S_drewN | apply Kd.S_drew)); exact HO308.out) hb)
      have n1_ := aK (Kd.R_below (by (with_reducible repeat (first | apply Kd.R_alloc | apply Kd.R_drewN | apply Kd.R_drew)); exact HO313.out) hb)
      have n2_ := aK (bB (by (with_reducible repeat (first | refine bN ?_ _ | refine bD ?_ | refine bA ?_ _)); exact BK302.out) hb)
      have n3_ := aK (bB (by (with_reducible repeat (first | refine bN ?_ _ | refine bD ?_ | refine bA ?_ _)); exact BK303.out) hb)
      have n4_ := aK (below_step (by repeat (first | (with_reducible first | exact HB.out | apply bL | apply bM | apply b1 | refine bS ?_ GE302.out | refine bS ?_ GE303.out) | exact HB.out)) hb)
      clear HO308
      clear HO313
      clear BK302
      clear BK303
      clear HB
      have HO308 := n0_
      have HO313 := n1_
      have BK302 := n2_
      have BK303 := n3_
      have HB := n4_
      clear n0_ n1_ n2_ n3_ n4_
      (try clear hb)
      (try clear hb2)
      (try clear hk)
      (try clear hi)
      refine hK.out _ _ ⟨(bC BK302.out 0).trans rfl, (bC BK303.out 0).trans rfl, (bC BK303.out 1).trans rfl, (bC BK303.out 2).trans rfl⟩ (fun hHeld => ?_)
      clear hK K
      refine norm_ (a' := ?_) ?_ ?_
      rotate_left
      ·show Act.put _ (some 24) _ = _
       simp only [Act.put, lA, l0', lS, i64_w, i32_w]
       rfl
      refine pure_ (i := 5) (N := some 6) (v := ?_) (a' := ?_) #[true, true, true, true, true, true] rfl rfl (by kernel_rfl) (fun _ _ _ h => h) (Or.inl ⟨by rfl, ?_⟩) ?_ ?_
      rotate_left
      ·intro w'
       go_simp
       with_reducible rfl
      rotate_left
      ·simp only [Act.put, lA, l0', lS, i64_w, i32_w]
       rfl
      refine done_ (by kernel_rfl) ?_
      have hcz75_0 : w74.cell? ⟨gb302, 0, none⟩ = some (.slice A0_0 l0_0.length c0_0) := (bC BK302.out 0).trans rfl
      have hfz75_0 := blk_frozen BK302.out 0
      try go_wp2_with (first | ((with_reducible refine gate_callee (f := 42) rfl ?_); refine goesL_ (some 26) rfl rfl Try.func42 (by kernel_rfl) rfl #[.agg #[.slice A0_0 l0_0.length c0_0]] rfl (by (try simp only [mA, mC, mN]); first | done | rfl) ?_; (with_reducible refine (laws_toDeal.calls k _ _ l0_0 t315 _ ?side1 ?side2 A22.out).mono ?_); (case side1 => repeat (first | exact (Kd.C_below HR0_0.out HB.out) | (with_reducible refine Kd.C_alloc ?_ _) | (with_reducible refine Kd.C_drewN ?_ _) | (with_reducible refine Kd.C_drew ?_))); (case side2 => exact HC0_0.out); rintro e w76 ⟨v316, rfl, ho0, hb⟩; refine ⟨_, rfl, ?_⟩; have n0_ := aK (Kd.S_elder' (by (with_reducible repeat (first | apply Kd.S_alloc | apply Kd.S_drewN | apply Kd.S_drew)); exact HO308.out) (Kd.S_base ho0) hb); have n1_ := aK (Kd.R_below (by (with_reducible repeat (first | apply Kd.R_alloc | apply Kd.R_drewN | apply Kd.R_drew)); exact HO313.out) hb); have n2_ := aK (Kd.S_lower (Kd.S_new' (Kd.S_new' ho0 (Kd.S_lt (by (with_reducible repeat (first | apply Kd.S_alloc | apply Kd.S_drewN | apply Kd.S_drew)); exact HO308.out))) (Kd.R_lt (by (with_reducible repeat (first | apply Kd.R_alloc | apply Kd.R_drewN | apply Kd.R_drew)); exact HO313.out))) (below_size (by repeat (first | (with_reducible first | exact HB.out | apply bL | apply bM | apply b1 | refine bS ?_ GE302.out | refine bS ?_ GE303.out) | exact HB.out)))); have n3_ := aK (bB (by (with_reducible repeat (first | refine bN ?_ _ | refine bD ?_ | refine bA ?_ _)); exact BK302.out) hb); have n4_ := aK (bB (by (with_reducible repeat (first | refine bN ?_ _ | refine bD ?_ | refine bA ?_ _)); exact BK303.out) hb); have n5_ := aK (below_step (by repeat (first | (with_reducible first | exact HB.out | apply bL | apply bM | apply b1 | refine bS ?_ GE302.out | refine bS ?_ GE303.out) | exact HB.out)) hb); clear HO308; clear HO313; clear BK302; clear BK303; clear HB; have HO308 := n0_; have HO313 := n1_; have HO317 := n2_; have BK302 := n3_; have BK303 := n4_; have HB := n5_; clear n0_ n1_ n2_ n3_ n4_ n5_; (try clear hb); (try clear hb2); (try clear hk); (try clear hi); (try clear ho0)) | ((with_reducible refine gate_dst (N := 7) rfl ?_); refine box_event ?hg (N := 7) ?hd (cs := #[.slice none 0 0]) (t := 44) ?hr ?_; (case hd => rfl); (case hg => rfl); (case hr => first | (go_simp; done) | (go_simp; rfl)); intro gb318 hg w77 hbox hb; have n0_ := aK (Kd.S_below (by (with_reducible repeat (first | apply Kd.S_alloc | apply Kd.S_drewN | apply Kd.S_drew)); exact HO308.out) hb); have n1_ := aK (Kd.R_below (by (with_reducible repeat (first | apply Kd.R_alloc | apply Kd.R_drewN | apply Kd.R_drew)); exact HO313.out) hb); have n2_ := aK (Kd.S_below (by (with_reducible repeat (first | apply Kd.S_alloc | apply Kd.S_drewN | apply Kd.S_drew)); exact HO317.out) hb); have n3_ := aK (bB (by (with_reducible repeat (first | refine bN ?_ _ | refine bD ?_ | refine bA ?_ _)); exact BK302.out) hb); have n4_ := aK (bB (by (with_reducible repeat (first | refine bN ?_ _ | refine bD ?_ | refine bA ?_ _)); exact BK303.out) hb); have n5_ := aK (below_step (by repeat (first | (with_reducible first | exact HB.out | apply bL | apply bM | apply b1 | refine bS ?_ GE302.out | refine bS ?_ GE303.out) | exact HB.out)) hb); have n6_ := aK (hbox); have n7_ := aK ((by rw [hg]; exact (below_size (by repeat (first | (with_reducible first | exact HB.out | apply bL | apply bM | apply b1 | refine bS ?_ GE302.out | refine bS ?_ GE303.out) | exact HB.out))) : w.heap.size ≤ gb318)); have n8_ := aK ((by rw [hg]; exact (below_size (by repeat (first | (with_reducible first | exact HB.out | apply bL | apply bM | apply b1 | refine bS ?_ GE302.out | refine bS ?_ GE303.out) | exact HB.out))) : w.heap.size ≤ gb318)); have n9_ := aK ((by rw [hg]; exact Nat.ne_of_lt (blk_lt (by (with_reducible repeat (first | refine bN ?_ _ | refine bD ?_ | refine bA ?_ _)); exact BK302.out)) : gb302 ≠ gb318)); have n10_ := aK ((by rw [hg]; exact Nat.ne_of_gt (blk_lt (by (with_reducible repeat (first | refine bN ?_ _ | refine bD ?_ | refine bA ?_ _)); exact BK302.out)) : gb318 ≠ gb302)); have n11_ := aK ((by rw [hg]; exact Nat.ne_of_lt (blk_lt (by (with_reducible repeat (first | refine bN ?_ _ | refine bD ?_ | refine bA ?_ _)); exact BK303.out)) : gb303 ≠ gb318)); have n12_ := aK ((by rw [hg]; exact Nat.ne_of_gt (blk_lt (by (with_reducible repeat (first | refine bN ?_ _ | refine bD ?_ | refine bA ?_ _)); exact BK303.out)) : gb318 ≠ gb303)); clear HO308; clear HO313; clear HO317; clear BK302; clear BK303; clear HB; have HO308 := n0_; have HO313 := n1_; have HO317 := n2_; have BK302 := n3_; have BK303 := n4_; have HB := n5_; have BK318 := n6_; have GW318 := n7_; have GE318 := n8_; have NB302_318 := n9_; have NB318_302 := n10_; have NB303_318 := n11_; have NB318_303 := n12_; clear n0_ n1_ n2_ n3_ n4_ n5_ n6_ n7_ n8_ n9_ n10_ n11_ n12_; clear hb hbox hg; obtain ⟨Ao78, co78, eo78⟩ := Kd.S_slice HO317.out; subst eo78; have hnb79 := NB318_302.out; have hnc79 := NB302_318.out; have hnb80 := NB318_303.out; have hnc80 := NB303_318.out; have hcz81_0 : w77.cell? ⟨gb318, 0, none⟩ = some (.slice none 0 0) := (bC BK318.out 0).trans rfl; have hfz81_0 := blk_frozen BK318.out 0; have hcz82_0 : w77.cell? ⟨gb303, 0, none⟩ = some (.int .i64 a1_0) := (bC BK303.out 0).trans rfl; have hcz82_1 : w77.cell? ⟨gb303, 1, none⟩ = some (.int .i64 a1_1) := (bC BK303.out 1).trans rfl; have hcz82_2 : w77.cell? ⟨gb303, 2, none⟩ = some (.slice A1_2 l1_2.length c1_2) := (bC BK303.out 2).trans rfl; have hfz82_0 := blk_frozen BK303.out 0; have hfz82_1 := blk_frozen BK303.out 1; have hfz82_2 := blk_frozen BK303.out 2) | ((with_reducible refine gate_callee (f := 24) rfl ?_); refine goesL_ (some 28) rfl rfl Try.func24 (by kernel_rfl) rfl #[.agg #[.int .i64 a1_0, .int .i64 a1_1, .slice A1_2 l1_2.length c1_2]] rfl (by (try simp only [mA, mC, mN]); first | done | rfl) ?_; (with_reducible refine (laws_toPlay.calls k a1_0 a1_1 _ _ l1_2 t319 t320 t321 _ ?side1 ?side2 A23.out).mono ?_); (case side1 => exact Kd.C_below HR1_2.out (by repeat (first | (with_reducible first | exact HB.out | apply bL | apply bM | apply b1 | refine bS ?_ GE302.out | refine bS ?_ GE303.out | refine bS ?_ GE318.out) | exact HB.out))); (case side2 => exact HC1_2.out); rintro e w83 ⟨v322, rfl, ho0, hb⟩; refine ⟨_, rfl, ?_⟩; have n0_ := aK (Kd.S_elder' (by (with_reducible repeat (first | apply Kd.S_alloc | apply Kd.S_drewN | apply Kd.S_drew)); exact (Kd.S_mono (Kd.S_far (p := ⟨gb318, 0, none⟩) (Kd.S_types HO308.out BK318.out (by decide)) (fun _ hk => by first | exact hk.2 | (have h_ := hk; (try simp only [and_assoc, true_and] at h_); (repeat' apply And.intro) <;> first | with_reducible exact h_.1 | with_reducible exact h_.2.1 | with_reducible exact h_.2.2.1 | with_reducible exact h_.2.2.2.1 | with_reducible exact h_.2.2.2.2.1 | with_reducible exact h_.2.2.2.2.2.1 | with_reducible exact h_.2.2.2.2.2.2.1 | with_reducible exact h_.2.2.2.2.2.2.2.1 | with_reducible exact h_.2.2.2.2.2.2.2.2.1 | with_reducible exact h_.2 | with_reducible exact h_.2.2 | with_reducible exact h_.2.2.2 | with_reducible exact h_.2.2.2.2 | with_reducible exact h_.2.2.2.2.2 | with_reducible exact h_.2.2.2.2.2.2 | with_reducible exact h_.2.2.2.2.2.2.2 | with_reducible exact h_.2.2.2.2.2.2.2.2)) (.slice Ao78 t315.length co78)) (fun _ h_ => h_.1))) (Kd.R_base ho0) hb); have n1_ := aK (Kd.R_elder' (by (with_reducible repeat (first | apply Kd.R_alloc | apply Kd.R_drewN | apply Kd.R_drew)); exact (Kd.R_mono (Kd.R_far (p := ⟨gb318, 0, none⟩) (Kd.R_types HO313.out BK318.out (by decide)) (fun _ hk => by first | exact hk.2 | (have h_ := hk; (try simp only [and_assoc, true_and] at h_); (repeat' apply And.intro) <;> first | with_reducible exact h_.1 | with_reducible exact h_.2.1 | with_reducible exact h_.2.2.1 | with_reducible exact h_.2.2.2.1 | with_reducible exact h_.2.2.2.2.1 | with_reducible exact h_.2.2.2.2.2.1 | with_reducible exact h_.2.2.2.2.2.2.1 | with_reducible exact h_.2.2.2.2.2.2.2.1 | with_reducible exact h_.2.2.2.2.2.2.2.2.1 | with_reducible exact h_.2 | with_reducible exact h_.2.2 | with_reducible exact h_.2.2.2 | with_reducible exact h_.2.2.2.2 | with_reducible exact h_.2.2.2.2.2 | with_reducible exact h_.2.2.2.2.2.2 | with_reducible exact h_.2.2.2.2.2.2.2 | with_reducible exact h_.2.2.2.2.2.2.2.2)) (.slice Ao78 t315.length co78)) (fun _ h_ => h_.1))) (Kd.R_base ho0) hb); have n2_ := aK (Kd.S_elder' (by (with_reducible repeat (first | apply Kd.S_alloc | apply Kd.S_drewN | apply Kd.S_drew)); exact (Kd.S_mono (Kd.S_far (p := ⟨gb318, 0, none⟩) (Kd.S_types HO317.out BK318.out (by decide)) (fun _ hk => by first | exact hk.2 | (have h_ := hk; (try simp only [and_assoc, true_and] at h_); (repeat' apply And.intro) <;> first | with_reducible exact h_.1 | with_reducible exact h_.2.1 | with_reducible exact h_.2.2.1 | with_reducible exact h_.2.2.2.1 | with_reducible exact h_.2.2.2.2.1 | with_reducible exact h_.2.2.2.2.2.1 | with_reducible exact h_.2.2.2.2.2.2.1 | with_reducible exact h_.2.2.2.2.2.2.2.1 | with_reducible exact h_.2.2.2.2.2.2.2.2.1 | with_reducible exact h_.2 | with_reducible exact h_.2.2 | with_reducible exact h_.2.2.2 | with_reducible exact h_.2.2.2.2 | with_reducible exact h_.2.2.2.2.2 | with_reducible exact h_.2.2.2.2.2.2 | with_reducible exact h_.2.2.2.2.2.2.2 | with_reducible exact h_.2.2.2.2.2.2.2.2)) (.slice Ao78 t315.length co78)) (fun _ h_ => h_.1))) (Kd.R_base ho0) hb); have n3_ := aK (Kd.R_lower (Kd.R_new' ho0 (Kd.R_lt (by (with_reducible repeat (first | apply Kd.R_alloc | apply Kd.R_drewN | apply Kd.R_drew)); exact (Kd.R_mono (Kd.R_far (p := ⟨gb318, 0, none⟩) (Kd.R_types HO313.out BK318.out (by decide)) (fun _ hk => by first | exact hk.2 | (have h_ := hk; (try simp only [and_assoc, true_and] at h_); (repeat' apply And.intro) <;> first | with_reducible exact h_.1 | with_reducible exact h_.2.1 | with_reducible exact h_.2.2.1 | with_reducible exact h_.2.2.2.1 | with_reducible exact h_.2.2.2.2.1 | with_reducible exact h_.2.2.2.2.2.1 | with_reducible exact h_.2.2.2.2.2.2.1 | with_reducible exact h_.2.2.2.2.2.2.2.1 | with_reducible exact h_.2.2.2.2.2.2.2.2.1 | with_reducible exact h_.2 | with_reducible exact h_.2.2 | with_reducible exact h_.2.2.2 | with_reducible exact h_.2.2.2.2 | with_reducible exact h_.2.2.2.2.2 | with_reducible exact h_.2.2.2.2.2.2 | with_reducible exact h_.2.2.2.2.2.2.2 | with_reducible exact h_.2.2.2.2.2.2.2.2)) (.slice Ao78 t315.length co78)) (fun _ h_ => h_.1))))) (below_size (by repeat (first | (with_reducible first | exact HB.out | apply bL | apply bM | apply b1 | refine bS ?_ GE302.out | refine bS ?_ GE303.out | refine bS ?_ GE318.out) | exact HB.out)))); have n4_ := aK (bB (g := gb302) (o := .cells #[.slice A0_0 l0_0.length c0_0] 41 (0, 0)) (by (with_reducible repeat (first | refine bN ?_ _ | refine bD ?_ | refine bA ?_ _)); refine blk_far ?_ NB302_318.out _; (with_reducible repeat (first | refine bN ?_ _ | refine bD ?_ | refine bA ?_ _)); exact BK302.out) hb); have n5_ := aK (bB (g := gb303) (o := .cells #[.int .i64 a1_0, .int .i64 a1_1, .slice A1_2 l1_2.length c1_2] 24 (0, 0)) (by (with_reducible repeat (first | refine bN ?_ _ | refine bD ?_ | refine bA ?_ _)); refine blk_far ?_ NB303_318.out _; (with_reducible repeat (first | refine bN ?_ _ | refine bD ?_ | refine bA ?_ _)); exact BK303.out) hb); have n6_ := aK (bB (g := gb318) (o := .cells #[.slice Ao78 t315.length co78] 44 (0, 0)) (by (with_reducible repeat (first | refine bN ?_ _ | refine bD ?_ | refine bA ?_ _)); refine blk_put (cs := #[.slice none 0 0]) ?_ 0 _ rfl; (with_reducible repeat (first | refine bN ?_ _ | refine bD ?_ | refine bA ?_ _)); exact BK318.out) hb); have n7_ := aK (below_step (by repeat (first | (with_reducible first | exact HB.out | apply bL | apply bM | apply b1 | refine bS ?_ GE302.out | refine bS ?_ GE303.out | refine bS ?_ GE318.out) | exact HB.out)) hb); clear HO308; clear HO313; clear HO317; clear BK302; clear BK303; clear BK318; clear HB; have HO308 := n0_; have HO313 := n1_; have HO317 := n2_; have HO323 := n3_; have BK302 := n4_; have BK303 := n5_; have BK318 := n6_; have HB := n7_; clear n0_ n1_ n2_ n3_ n4_ n5_ n6_ n7_; (try clear hb); (try clear hb2); (try clear hk); (try clear hi); (try clear ho0)) | ((with_reducible refine gate_dst (N := 8) rfl ?_); refine box_event ?hg (N := 8) ?hd (cs := #[.int .i64 0, .int .i64 0, .slice none 0 0]) (t := 27) ?hr ?_; (case hd => rfl); (case hg => rfl); (case hr => first | (go_simp; done) | (go_simp; rfl)); intro gb324 hg w84 hbox hb; have n0_ := aK (Kd.S_below (by (with_reducible repeat (first | apply Kd.S_alloc | apply Kd.S_drewN | apply Kd.S_drew)); exact HO308.out) hb); have n1_ := aK (Kd.R_below (by (with_reducible repeat (first | apply Kd.R_alloc | apply Kd.R_drewN | apply Kd.R_drew)); exact HO313.out) hb); have n2_ := aK (Kd.S_below (by (with_reducible repeat (first | apply Kd.S_alloc | apply Kd.S_drewN | apply Kd.S_drew)); exact HO317.out) hb); have n3_ := aK (Kd.R_below (by (with_reducible repeat (first | apply Kd.R_alloc | apply Kd.R_drewN | apply Kd.R_drew)); exact HO323.out) hb); have n4_ := aK (bB (by (with_reducible repeat (first | refine bN ?_ _ | refine bD ?_ | refine bA ?_ _)); exact BK302.out) hb); have n5_ := aK (bB (by (with_reducible repeat (first | refine bN ?_ _ | refine bD ?_ | refine bA ?_ _)); exact BK303.out) hb); have n6_ := aK (bB (by (with_reducible repeat (first | refine bN ?_ _ | refine bD ?_ | refine bA ?_ _)); exact BK318.out) hb); have n7_ := aK (below_step (by repeat (first | (with_reducible first | exact HB.out | apply bL | apply bM | apply b1 | refine bS ?_ GE302.out | refine bS ?_ GE303.out | refine bS ?_ GE318.out) | exact HB.out)) hb); have n8_ := aK (hbox); have n9_ := aK ((by rw [hg]; exact (below_size (by repeat (first | (with_reducible first | exact HB.out | apply bL | apply bM | apply b1 | refine bS ?_ GE302.out | refine bS ?_ GE303.out | refine bS ?_ GE318.out) | exact HB.out))) : w.heap.size ≤ gb324)); have n10_ := aK ((by rw [hg]; exact (below_size (by repeat (first | (with_reducible first | exact HB.out | apply bL | apply bM | apply b1 | refine bS ?_ GE302.out | refine bS ?_ GE303.out | refine bS ?_ GE318.out) | exact HB.out))) : w.heap.size ≤ gb324)); have n11_ := aK ((by rw [hg]; exact Nat.ne_of_lt (blk_lt (by (with_reducible repeat (first | refine bN ?_ _ | refine bD ?_ | refine bA ?_ _)); exact BK302.out)) : gb302 ≠ gb324)); have n12_ := aK ((by rw [hg]; exact Nat.ne_of_gt (blk_lt (by (with_reducible repeat (first | refine bN ?_ _ | refine bD ?_ | refine bA ?_ _)); exact BK302.out)) : gb324 ≠ gb302)); have n13_ := aK ((by rw [hg]; exact Nat.ne_of_lt (blk_lt (by (with_reducible repeat (first | refine bN ?_ _ | refine bD ?_ | refine bA ?_ _)); exact BK303.out)) : gb303 ≠ gb324)); have n14_ := aK ((by rw [hg]; exact Nat.ne_of_gt (blk_lt (by (with_reducible repeat (first | refine bN ?_ _ | refine bD ?_ | refine bA ?_ _)); exact BK303.out)) : gb324 ≠ gb303)); have n15_ := aK ((by rw [hg]; exact Nat.ne_of_lt (blk_lt (by (with_reducible repeat (first | refine bN ?_ _ | refine bD ?_ | refine bA ?_ _)); exact BK318.out)) : gb318 ≠ gb324)); have n16_ := aK ((by rw [hg]; exact Nat.ne_of_gt (blk_lt (by (with_reducible repeat (first | refine bN ?_ _ | refine bD ?_ | refine bA ?_ _)); exact BK318.out)) : gb324 ≠ gb318)); clear HO308; clear HO313; clear HO317; clear HO323; clear BK302; clear BK303; clear BK318; clear HB; have HO308 := n0_; have HO313 := n1_; have HO317 := n2_; have HO323 := n3_; have BK302 := n4_; have BK303 := n5_; have BK318 := n6_; have HB := n7_; have BK324 := n8_; have GW324 := n9_; have GE324 := n10_; have NB302_324 := n11_; have NB324_302 := n12_; have NB303_324 := n13_; have NB324_303 := n14_; have NB318_324 := n15_; have NB324_318 := n16_; clear n0_ n1_ n2_ n3_ n4_ n5_ n6_ n7_ n8_ n9_ n10_ n11_ n12_ n13_ n14_ n15_ n16_; clear hb hbox hg; have hnb85 := NB324_302.out; have hnc85 := NB302_324.out; have hnb86 := NB324_303.out; have hnc86 := NB303_324.out; have hnb87 := NB324_318.out; have hnc87 := NB318_324.out; have hcz88_0 : w84.cell? ⟨gb324, 0, none⟩ = some (.int .i64 0) := (bC BK324.out 0).trans rfl; have hcz88_1 : w84.cell? ⟨gb324, 1, none⟩ = some (.int .i64 0) := (bC BK324.out 1).trans rfl; have hcz88_2 : w84.cell? ⟨gb324, 2, none⟩ = some (.slice none 0 0) := (bC BK324.out 2).trans rfl; have hfz88_0 := blk_frozen BK324.out 0; have hfz88_1 := blk_frozen BK324.out 1; have hfz88_2 := blk_frozen BK324.out 2; obtain ⟨Ao89, co89, eo89⟩ := Kd.R_slice HO323.out; subst eo89; have hcz90_0 : w84.cell? ⟨gb318, 0, none⟩ = some (.slice Ao78 t315.length co78) := (bC BK318.out 0).trans rfl; have hfz90_0 := blk_frozen BK318.out 0) | ((with_reducible refine gate_callee (f := 43) rfl ?_); refine goesL_ (some 31) rfl rfl Try.func43 (by kernel_rfl) rfl #[.agg #[.slice Ao78 t315.length co78], .agg #[.int .i64 t319, .int .i64 t320, .slice Ao89 t321.length co89]] rfl (by (try simp only [mA, mC, mN]); first | done | rfl) ?_; (with_reducible refine (impl_IsLoosePlay.calls k _ _ t315 t319 t320 _ _ t321 t325 _ ?side1 ?side2 ?side3 ?side4 A24.out).mono ?_); (case side1 => refine (Kd.S_reads' (e := 22) (base := w.heap.size) (ok := fun k_ => (((True ∧ some k_ ≠ (.slice Ao72 t306.length co72 : Value).ownBlock) ∧ some k_ ≠ (.slice Ao73 t311.length co73 : Value).ownBlock) ∧ some k_ ≠ (.slice Ao89 t321.length co89 : Value).ownBlock)) (n := t315.length) (c := co78) ?_).2.2; exact (by (with_reducible repeat (first | apply Kd.S_alloc | apply Kd.S_drewN | apply Kd.S_drew)); exact (Kd.S_mono (Kd.S_far (p := ⟨gb324, 2, none⟩) (Kd.S_far (p := ⟨gb324, 1, none⟩) (Kd.S_far (p := ⟨gb324, 0, none⟩) (Kd.S_types HO317.out BK324.out (by decide)) (fun _ hk => by first | exact hk.2 | (have h_ := hk; (try simp only [and_assoc, true_and] at h_); (repeat' apply And.intro) <;> first | with_reducible exact h_.1 | with_reducible exact h_.2.1 | with_reducible exact h_.2.2.1 | with_reducible exact h_.2.2.2.1 | with_reducible exact h_.2.2.2.2.1 | with_reducible exact h_.2.2.2.2.2.1 | with_reducible exact h_.2.2.2.2.2.2.1 | with_reducible exact h_.2.2.2.2.2.2.2.1 | with_reducible exact h_.2.2.2.2.2.2.2.2.1 | with_reducible exact h_.2 | with_reducible exact h_.2.2 | with_reducible exact h_.2.2.2 | with_reducible exact h_.2.2.2.2 | with_reducible exact h_.2.2.2.2.2 | with_reducible exact h_.2.2.2.2.2.2 | with_reducible exact h_.2.2.2.2.2.2.2 | with_reducible exact h_.2.2.2.2.2.2.2.2)) (.int .i64 t319)) (fun _ hk => by first | exact hk.2 | (have h_ := hk; (try simp only [and_assoc, true_and] at h_); (repeat' apply And.intro) <;> first | with_reducible exact h_.1 | with_reducible exact h_.2.1 | with_reducible exact h_.2.2.1 | with_reducible exact h_.2.2.2.1 | with_reducible exact h_.2.2.2.2.1 | with_reducible exact h_.2.2.2.2.2.1 | with_reducible exact h_.2.2.2.2.2.2.1 | with_reducible exact h_.2.2.2.2.2.2.2.1 | with_reducible exact h_.2.2.2.2.2.2.2.2.1 | with_reducible exact h_.2 | with_reducible exact h_.2.2 | with_reducible exact h_.2.2.2 | with_reducible exact h_.2.2.2.2 | with_reducible exact h_.2.2.2.2.2 | with_reducible exact h_.2.2.2.2.2.2 | with_reducible exact h_.2.2.2.2.2.2.2 | with_reducible exact h_.2.2.2.2.2.2.2.2)) (.int .i64 t320)) (fun _ hk => by first | exact hk.2 | (have h_ := hk; (try simp only [and_assoc, true_and] at h_); (repeat' apply And.intro) <;> first | with_reducible exact h_.1 | with_reducible exact h_.2.1 | with_reducible exact h_.2.2.1 | with_reducible exact h_.2.2.2.1 | with_reducible exact h_.2.2.2.2.1 | with_reducible exact h_.2.2.2.2.2.1 | with_reducible exact h_.2.2.2.2.2.2.1 | with_reducible exact h_.2.2.2.2.2.2.2.1 | with_reducible exact h_.2.2.2.2.2.2.2.2.1 | with_reducible exact h_.2 | with_reducible exact h_.2.2 | with_reducible exact h_.2.2.2 | with_reducible exact h_.2.2.2.2 | with_reducible exact h_.2.2.2.2.2 | with_reducible exact h_.2.2.2.2.2.2 | with_reducible exact h_.2.2.2.2.2.2.2 | with_reducible exact h_.2.2.2.2.2.2.2.2)) (.slice Ao89 t321.length co89)) (fun _ h_ => h_.1)))); (case side2 => exact (Kd.S_reads' HO317.out).2.1); (case side3 => refine (Kd.R_reads' (e := 2) (base := w.heap.size) (ok := fun k_ => (True ∧ some k_ ≠ (.slice Ao73 t311.length co73 : Value).ownBlock)) (n := t321.length) (c := co89) ?_).2.2; exact (by (with_reducible repeat (first | apply Kd.R_alloc | apply Kd.R_drewN | apply Kd.R_drew)); exact (Kd.R_mono (Kd.R_far (p := ⟨gb324, 2, none⟩) (Kd.R_far (p := ⟨gb324, 1, none⟩) (Kd.R_far (p := ⟨gb324, 0, none⟩) (Kd.R_types HO323.out BK324.out (by decide)) (fun _ hk => by first | exact hk.2 | (have h_ := hk; (try simp only [and_assoc, true_and] at h_); (repeat' apply And.intro) <;> first | with_reducible exact h_.1 | with_reducible exact h_.2.1 | with_reducible exact h_.2.2.1 | with_reducible exact h_.2.2.2.1 | with_reducible exact h_.2.2.2.2.1 | with_reducible exact h_.2.2.2.2.2.1 | with_reducible exact h_.2.2.2.2.2.2.1 | with_reducible exact h_.2.2.2.2.2.2.2.1 | with_reducible exact h_.2.2.2.2.2.2.2.2.1 | with_reducible exact h_.2 | with_reducible exact h_.2.2 | with_reducible exact h_.2.2.2 | with_reducible exact h_.2.2.2.2 | with_reducible exact h_.2.2.2.2.2 | with_reducible exact h_.2.2.2.2.2.2 | with_reducible exact h_.2.2.2.2.2.2.2 | with_reducible exact h_.2.2.2.2.2.2.2.2)) (.int .i64 t319)) (fun _ hk => by first | exact hk.2 | (have h_ := hk; (try simp only [and_assoc, true_and] at h_); (repeat' apply And.intro) <;> first | with_reducible exact h_.1 | with_reducible exact h_.2.1 | with_reducible exact h_.2.2.1 | with_reducible exact h_.2.2.2.1 | with_reducible exact h_.2.2.2.2.1 | with_reducible exact h_.2.2.2.2.2.1 | with_reducible exact h_.2.2.2.2.2.2.1 | with_reducible exact h_.2.2.2.2.2.2.2.1 | with_reducible exact h_.2.2.2.2.2.2.2.2.1 | with_reducible exact h_.2 | with_reducible exact h_.2.2 | with_reducible exact h_.2.2.2 | with_reducible exact h_.2.2.2.2 | with_reducible exact h_.2.2.2.2.2 | with_reducible exact h_.2.2.2.2.2.2 | with_reducible exact h_.2.2.2.2.2.2.2 | with_reducible exact h_.2.2.2.2.2.2.2.2)) (.int .i64 t320)) (fun _ hk => by first | exact hk.2 | (have h_ := hk; (try simp only [and_assoc, true_and] at h_); (repeat' apply And.intro) <;> first | with_reducible exact h_.1 | with_reducible exact h_.2.1 | with_reducible exact h_.2.2.1 | with_reducible exact h_.2.2.2.1 | with_reducible exact h_.2.2.2.2.1 | with_reducible exact h_.2.2.2.2.2.1 | with_reducible exact h_.2.2.2.2.2.2.1 | with_reducible exact h_.2.2.2.2.2.2.2.1 | with_reducible exact h_.2.2.2.2.2.2.2.2.1 | with_reducible exact h_.2 | with_reducible exact h_.2.2 | with_reducible exact h_.2.2.2 | with_reducible exact h_.2.2.2.2 | with_reducible exact h_.2.2.2.2.2 | with_reducible exact h_.2.2.2.2.2.2 | with_reducible exact h_.2.2.2.2.2.2.2 | with_reducible exact h_.2.2.2.2.2.2.2.2)) (.slice Ao89 t321.length co89)) (fun _ h_ => h_.1)))); (case side4 => exact (Kd.R_reads' HO323.out).2.1); rintro e w91 ⟨rfl, hb⟩; refine ⟨_, rfl, ?_⟩; have n0_ := aK (Kd.S_below (by (with_reducible repeat (first | apply Kd.S_alloc | apply Kd.S_drewN | apply Kd.S_drew)); exact (Kd.S_mono (Kd.S_far (p := ⟨gb324, 2, none⟩) (Kd.S_far (p := ⟨gb324, 1, none⟩) (Kd.S_far (p := ⟨gb324, 0, none⟩) (Kd.S_types HO308.out BK324.out (by decide)) (fun _ hk => by first | exact hk.2 | (have h_ := hk; (try simp only [and_assoc, true_and] at h_); (repeat' apply And.intro) <;> first | with_reducible exact h_.1 | with_reducible exact h_.2.1 | with_reducible exact h_.2.2.1 | with_reducible exact h_.2.2.2.1 | with_reducible exact h_.2.2.2.2.1 | with_reducible exact h_.2.2.2.2.2.1 | with_reducible exact h_.2.2.2.2.2.2.1 | with_reducible exact h_.2.2.2.2.2.2.2.1 | with_reducible exact h_.2.2.2.2.2.2.2.2.1 | with_reducible exact h_.2 | with_reducible exact h_.2.2 | with_reducible exact h_.2.2.2 | with_reducible exact h_.2.2.2.2 | with_reducible exact h_.2.2.2.2.2 | with_reducible exact h_.2.2.2.2.2.2 | with_reducible exact h_.2.2.2.2.2.2.2 | with_reducible exact h_.2.2.2.2.2.2.2.2)) (.int .i64 t319)) (fun _ hk => by first | exact hk.2 | (have h_ := hk; (try simp only [and_assoc, true_and] at h_); (repeat' apply And.intro) <;> first | with_reducible exact h_.1 | with_reducible exact h_.2.1 | with_reducible exact h_.2.2.1 | with_reducible exact h_.2.2.2.1 | with_reducible exact h_.2.2.2.2.1 | with_reducible exact h_.2.2.2.2.2.1 | with_reducible exact h_.2.2.2.2.2.2.1 | with_reducible exact h_.2.2.2.2.2.2.2.1 | with_reducible exact h_.2.2.2.2.2.2.2.2.1 | with_reducible exact h_.2 | with_reducible exact h_.2.2 | with_reducible exact h_.2.2.2 | with_reducible exact h_.2.2.2.2 | with_reducible exact h_.2.2.2.2.2 | with_reducible exact h_.2.2.2.2.2.2 | with_reducible exact h_.2.2.2.2.2.2.2 | with_reducible exact h_.2.2.2.2.2.2.2.2)) (.int .i64 t320)) (fun _ hk => by first | exact hk.2 | (have h_ := hk; (try simp only [and_assoc, true_and] at h_); (repeat' apply And.intro) <;> first | with_reducible exact h_.1 | with_reducible exact h_.2.1 | with_reducible exact h_.2.2.1 | with_reducible exact h_.2.2.2.1 | with_reducible exact h_.2.2.2.2.1 | with_reducible exact h_.2.2.2.2.2.1 | with_reducible exact h_.2.2.2.2.2.2.1 | with_reducible exact h_.2.2.2.2.2.2.2.1 | with_reducible exact h_.2.2.2.2.2.2.2.2.1 | with_reducible exact h_.2 | with_reducible exact h_.2.2 | with_reducible exact h_.2.2.2 | with_reducible exact h_.2.2.2.2 | with_reducible exact h_.2.2.2.2.2 | with_reducible exact h_.2.2.2.2.2.2 | with_reducible exact h_.2.2.2.2.2.2.2 | with_reducible exact h_.2.2.2.2.2.2.2.2)) (.slice Ao89 t321.length co89)) (fun _ h_ => h_.1))) hb); have n1_ := aK (Kd.R_below (by (with_reducible repeat (first | apply Kd.R_alloc | apply Kd.R_drewN | apply Kd.R_drew)); exact (Kd.R_mono (Kd.R_far (p := ⟨gb324, 2, none⟩) (Kd.R_far (p := ⟨gb324, 1, none⟩) (Kd.R_far (p := ⟨gb324, 0, none⟩) (Kd.R_types HO313.out BK324.out (by decide)) (fun _ hk => by first | exact hk.2 | (have h_ := hk; (try simp only [and_assoc, true_and] at h_); (repeat' apply And.intro) <;> first | with_reducible exact h_.1 | with_reducible exact h_.2.1 | with_reducible exact h_.2.2.1 | with_reducible exact h_.2.2.2.1 | with_reducible exact h_.2.2.2.2.1 | with_reducible exact h_.2.2.2.2.2.1 | with_reducible exact h_.2.2.2.2.2.2.1 | with_reducible exact h_.2.2.2.2.2.2.2.1 | with_reducible exact h_.2.2.2.2.2.2.2.2.1 | with_reducible exact h_.2 | with_reducible exact h_.2.2 | with_reducible exact h_.2.2.2 | with_reducible exact h_.2.2.2.2 | with_reducible exact h_.2.2.2.2.2 | with_reducible exact h_.2.2.2.2.2.2 | with_reducible exact h_.2.2.2.2.2.2.2 | with_reducible exact h_.2.2.2.2.2.2.2.2)) (.int .i64 t319)) (fun _ hk => by first | exact hk.2 | (have h_ := hk; (try simp only [and_assoc, true_and] at h_); (repeat' apply And.intro) <;> first | with_reducible exact h_.1 | with_reducible exact h_.2.1 | with_reducible exact h_.2.2.1 | with_reducible exact h_.2.2.2.1 | with_reducible exact h_.2.2.2.2.1 | with_reducible exact h_.2.2.2.2.2.1 | with_reducible exact h_.2.2.2.2.2.2.1 | with_reducible exact h_.2.2.2.2.2.2.2.1 | with_reducible exact h_.2.2.2.2.2.2.2.2.1 | with_reducible exact h_.2 | with_reducible exact h_.2.2 | with_reducible exact h_.2.2.2 | with_reducible exact h_.2.2.2.2 | with_reducible exact h_.2.2.2.2.2 | with_reducible exact h_.2.2.2.2.2.2 | with_reducible exact h_.2.2.2.2.2.2.2 | with_reducible exact h_.2.2.2.2.2.2.2.2)) (.int .i64 t320)) (fun _ hk => by first | exact hk.2 | (have h_ := hk; (try simp only [and_assoc, true_and] at h_); (repeat' apply And.intro) <;> first | with_reducible exact h_.1 | with_reducible exact h_.2.1 | with_reducible exact h_.2.2.1 | with_reducible exact h_.2.2.2.1 | with_reducible exact h_.2.2.2.2.1 | with_reducible exact h_.2.2.2.2.2.1 | with_reducible exact h_.2.2.2.2.2.2.1 | with_reducible exact h_.2.2.2.2.2.2.2.1 | with_reducible exact h_.2.2.2.2.2.2.2.2.1 | with_reducible exact h_.2 | with_reducible exact h_.2.2 | with_reducible exact h_.2.2.2 | with_reducible exact h_.2.2.2.2 | with_reducible exact h_.2.2.2.2.2 | with_reducible exact h_.2.2.2.2.2.2 | with_reducible exact h_.2.2.2.2.2.2.2 | with_reducible exact h_.2.2.2.2.2.2.2.2)) (.slice Ao89 t321.length co89)) (fun _ h_ => h_.1))) hb); have n2_ := aK (Kd.S_below (by (with_reducible repeat (first | apply Kd.S_alloc | apply Kd.S_drewN | apply Kd.S_drew)); exact (Kd.S_mono (Kd.S_far (p := ⟨gb324, 2, none⟩) (Kd.S_far (p := ⟨gb324, 1, none⟩) (Kd.S_far (p := ⟨gb324, 0, none⟩) (Kd.S_types HO317.out BK324.out (by decide)) (fun _ hk => by first | exact hk.2 | (have h_ := hk; (try simp only [and_assoc, true_and] at h_); (repeat' apply And.intro) <;> first | with_reducible exact h_.1 | with_reducible exact h_.2.1 | with_reducible exact h_.2.2.1 | with_reducible exact h_.2.2.2.1 | with_reducible exact h_.2.2.2.2.1 | with_reducible exact h_.2.2.2.2.2.1 | with_reducible exact h_.2.2.2.2.2.2.1 | with_reducible exact h_.2.2.2.2.2.2.2.1 | with_reducible exact h_.2.2.2.2.2.2.2.2.1 | with_reducible exact h_.2 | with_reducible exact h_.2.2 | with_reducible exact h_.2.2.2 | with_reducible exact h_.2.2.2.2 | with_reducible exact h_.2.2.2.2.2 | with_reducible exact h_.2.2.2.2.2.2 | with_reducible exact h_.2.2.2.2.2.2.2 | with_reducible exact h_.2.2.2.2.2.2.2.2)) (.int .i64 t319)) (fun _ hk => by first | exact hk.2 | (have h_ := hk; (try simp only [and_assoc, true_and] at h_); (repeat' apply And.intro) <;> first | with_reducible exact h_.1 | with_reducible exact h_.2.1 | with_reducible exact h_.2.2.1 | with_reducible exact h_.2.2.2.1 | with_reducible exact h_.2.2.2.2.1 | with_reducible exact h_.2.2.2.2.2.1 | with_reducible exact h_.2.2.2.2.2.2.1 | with_reducible exact h_.2.2.2.2.2.2.2.1 | with_reducible exact h_.2.2.2.2.2.2.2.2.1 | with_reducible exact h_.2 | with_reducible exact h_.2.2 | with_reducible exact h_.2.2.2 | with_reducible exact h_.2.2.2.2 | with_reducible exact h_.2.2.2.2.2 | with_reducible exact h_.2.2.2.2.2.2 | with_reducible exact h_.2.2.2.2.2.2.2 | with_reducible exact h_.2.2.2.2.2.2.2.2)) (.int .i64 t320)) (fun _ hk => by first | exact hk.2 | (have h_ := hk; (try simp only [and_assoc, true_and] at h_); (repeat' apply And.intro) <;> first | with_reducible exact h_.1 | with_reducible exact h_.2.1 | with_reducible exact h_.2.2.1 | with_reducible exact h_.2.2.2.1 | with_reducible exact h_.2.2.2.2.1 | with_reducible exact h_.2.2.2.2.2.1 | with_reducible exact h_.2.2.2.2.2.2.1 | with_reducible exact h_.2.2.2.2.2.2.2.1 | with_reducible exact h_.2.2.2.2.2.2.2.2.1 | with_reducible exact h_.2 | with_reducible exact h_.2.2 | with_reducible exact h_.2.2.2 | with_reducible exact h_.2.2.2.2 | with_reducible exact h_.2.2.2.2.2 | with_reducible exact h_.2.2.2.2.2.2 | with_reducible exact h_.2.2.2.2.2.2.2 | with_reducible exact h_.2.2.2.2.2.2.2.2)) (.slice Ao89 t321.length co89)) (fun _ h_ => h_.1))) hb); have n3_ := aK (Kd.R_below (by (with_reducible repeat (first | apply Kd.R_alloc | apply Kd.R_drewN | apply Kd.R_drew)); exact (Kd.R_mono (Kd.R_far (p := ⟨gb324, 2, none⟩) (Kd.R_far (p := ⟨gb324, 1, none⟩) (Kd.R_far (p := ⟨gb324, 0, none⟩) (Kd.R_types HO323.out BK324.out (by decide)) (fun _ hk => by first | exact hk.2 | (have h_ := hk; (try simp only [and_assoc, true_and] at h_); (repeat' apply And.intro) <;> first | with_reducible exact h_.1 | with_reducible exact h_.2.1 | with_reducible exact h_.2.2.1 | with_reducible exact h_.2.2.2.1 | with_reducible exact h_.2.2.2.2.1 | with_reducible exact h_.2.2.2.2.2.1 | with_reducible exact h_.2.2.2.2.2.2.1 | with_reducible exact h_.2.2.2.2.2.2.2.1 | with_reducible exact h_.2.2.2.2.2.2.2.2.1 | with_reducible exact h_.2 | with_reducible exact h_.2.2 | with_reducible exact h_.2.2.2 | with_reducible exact h_.2.2.2.2 | with_reducible exact h_.2.2.2.2.2 | with_reducible exact h_.2.2.2.2.2.2 | with_reducible exact h_.2.2.2.2.2.2.2 | with_reducible exact h_.2.2.2.2.2.2.2.2)) (.int .i64 t319)) (fun _ hk => by first | exact hk.2 | (have h_ := hk; (try simp only [and_assoc, true_and] at h_); (repeat' apply And.intro) <;> first | with_reducible exact h_.1 | with_reducible exact h_.2.1 | with_reducible exact h_.2.2.1 | with_reducible exact h_.2.2.2.1 | with_reducible exact h_.2.2.2.2.1 | with_reducible exact h_.2.2.2.2.2.1 | with_reducible exact h_.2.2.2.2.2.2.1 | with_reducible exact h_.2.2.2.2.2.2.2.1 | with_reducible exact h_.2.2.2.2.2.2.2.2.1 | with_reducible exact h_.2 | with_reducible exact h_.2.2 | with_reducible exact h_.2.2.2 | with_reducible exact h_.2.2.2.2 | with_reducible exact h_.2.2.2.2.2 | with_reducible exact h_.2.2.2.2.2.2 | with_reducible exact h_.2.2.2.2.2.2.2 | with_reducible exact h_.2.2.2.2.2.2.2.2)) (.int .i64 t320)) (fun _ hk => by first | exact hk.2 | (have h_ := hk; (try simp only [and_assoc, true_and] at h_); (repeat' apply And.intro) <;> first | with_reducible exact h_.1 | with_reducible exact h_.2.1 | with_reducible exact h_.2.2.1 | with_reducible exact h_.2.2.2.1 | with_reducible exact h_.2.2.2.2.1 | with_reducible exact h_.2.2.2.2.2.1 | with_reducible exact h_.2.2.2.2.2.2.1 | with_reducible exact h_.2.2.2.2.2.2.2.1 | with_reducible exact h_.2.2.2.2.2.2.2.2.1 | with_reducible exact h_.2 | with_reducible exact h_.2.2 | with_reducible exact h_.2.2.2 | with_reducible exact h_.2.2.2.2 | with_reducible exact h_.2.2.2.2.2 | with_reducible exact h_.2.2.2.2.2.2 | with_reducible exact h_.2.2.2.2.2.2.2 | with_reducible exact h_.2.2.2.2.2.2.2.2)) (.slice Ao89 t321.length co89)) (fun _ h_ => h_.1))) hb); have n4_ := aK (bB (g := gb302) (o := .cells #[.slice A0_0 l0_0.length c0_0] 41 (0, 0)) (by (with_reducible repeat (first | refine bN ?_ _ | refine bD ?_ | refine bA ?_ _)); refine blk_far ?_ NB302_324.out _; (with_reducible repeat (first | refine bN ?_ _ | refine bD ?_ | refine bA ?_ _)); refine blk_far ?_ NB302_324.out _; (with_reducible repeat (first | refine bN ?_ _ | refine bD ?_ | refine bA ?_ _)); refine blk_far ?_ NB302_324.out _; (with_reducible repeat (first | refine bN ?_ _ | refine bD ?_ | refine bA ?_ _)); exact BK302.out) hb); have n5_ := aK (bB (g := gb303) (o := .cells #[.int .i64 a1_0, .int .i64 a1_1, .slice A1_2 l1_2.length c1_2] 24 (0, 0)) (by (with_reducible repeat (first | refine bN ?_ _ | refine bD ?_ | refine bA ?_ _)); refine blk_far ?_ NB303_324.out _; (with_reducible repeat (first | refine bN ?_ _ | refine bD ?_ | refine bA ?_ _)); refine blk_far ?_ NB303_324.out _; (with_reducible repeat (first | refine bN ?_ _ | refine bD ?_ | refine bA ?_ _)); refine blk_far ?_ NB303_324.out _; (with_reducible repeat (first | refine bN ?_ _ | refine bD ?_ | refine bA ?_ _)); exact BK303.out) hb); have n6_ := aK (bB (g := gb318) (o := .cells #[.slice Ao78 t315.length co78] 44 (0, 0)) (by (with_reducible repeat (first | refine bN ?_ _ | refine bD ?_ | refine bA ?_ _)); refine blk_far ?_ NB318_324.out _; (with_reducible repeat (first | refine bN ?_ _ | refine bD ?_ | refine bA ?_ _)); refine blk_far ?_ NB318_324.out _; (with_reducible repeat (first | refine bN ?_ _ | refine bD ?_ | refine bA ?_ _)); refine blk_far ?_ NB318_324.out _; (with_reducible repeat (first | refine bN ?_ _ | refine bD ?_ | refine bA ?_ _)); exact BK318.out) hb); have n7_ := aK (bB (g := gb324) (o := .cells #[.int .i64 t319, .int .i64 t320, .slice Ao89 t321.length co89] 27 (0, 0)) (by (with_reducible repeat (first | refine bN ?_ _ | refine bD ?_ | refine bA ?_ _)); refine blk_put (cs := #[.int .i64 t319, .int .i64 t320, .slice none 0 0]) ?_ 2 _ rfl; (with_reducible repeat (first | refine bN ?_ _ | refine bD ?_ | refine bA ?_ _)); refine blk_put (cs := #[.int .i64 t319, .int .i64 0, .slice none 0 0]) ?_ 1 _ rfl; (with_reducible repeat (first | refine bN ?_ _ | refine bD ?_ | refine bA ?_ _)); refine blk_put (cs := #[.int .i64 0, .int .i64 0, .slice none 0 0]) ?_ 0 _ rfl; (with_reducible repeat (first | refine bN ?_ _ | refine bD ?_ | refine bA ?_ _)); exact BK324.out) hb); have n8_ := aK (below_step (by repeat (first | (with_reducible first | exact HB.out | apply bL | apply bM | apply b1 | refine bS ?_ GE302.out | refine bS ?_ GE303.out | refine bS ?_ GE318.out | refine bS ?_ GE324.out) | exact HB.out)) hb); clear HO308; clear HO313; clear HO317; clear HO323; clear BK302; clear BK303; clear BK318; clear BK324; clear HB; have HO308 := n0_; have HO313 := n1_; have HO317 := n2_; have HO323 := n3_; have BK302 := n4_; have BK303 := n5_; have BK318 := n6_; have BK324 := n7_; have HB := n8_; clear n0_ n1_ n2_ n3_ n4_ n5_ n6_ n7_ n8_; (try clear hb); (try clear hb2); (try clear hk); (try clear hi)))
      have n0_ := aK (Kd.S_drew HO308.out)
      have n1_ := aK (Kd.R_drew HO313.out)
      have n2_ := aK (Kd.S_drew HO317.out)
      have n3_ := aK (Kd.R_drew HO323.out)
      have n4_ := aK (bD BK302.out)
      have n5_ := aK (bD BK303.out)
      have n6_ := aK (bD BK318.out)
      have n7_ := aK (bD BK324.out)
      have n8_ := aK (b1 HB.out)
      clear HO308
      clear HO313
      clear HO317
      clear HO323
      clear BK302
      clear BK303
      clear BK318
      clear BK324
      clear HB
      have HO308 := n0_
      have HO313 := n1_
      have HO317 := n2_
      have HO323 := n3_
      have BK302 := n4_
      have BK303 := n5_
      have BK318 := n6_
      have BK324 := n7_
      have HB := n8_
      clear n0_ n1_ n2_ n3_ n4_ n5_ n6_ n7_ n8_
      refine start_ (n := 5) (S := fun w' => w'.cell? ⟨gb318, 0, none⟩ = some (.slice Ao78 t315.length co78) ∧ w'.cell? ⟨gb302, 0, none⟩ = some (.slice A0_0 l0_0.length c0_0)) (ds := []) #[false, false, false, false, false] (by kernel_rfl) rfl rfl ⟨(bC BK318.out 0).trans rfl, (bC BK302.out 0).trans rfl⟩ (fun hHeld => ?_)
      generalize w91.drew = w92 at HO308 HO313 HO317 HO323 BK302 BK303 BK318 BK324 HB hHeld ⊢
      refine take_ (i := 0) (N := some 35) (v := ?_) (a' := ?_) #[true, false, false, false, false] rfl rfl (by kernel_rfl) (fun _ _ _ h => h) (Or.inl ⟨by rfl, ?_⟩) hHeld ?_ ?_
      rotate_left
      ·rintro w' ⟨s0, s1⟩
       go_simp
       with_reducible rfl
      rotate_left
      ·simp only [Act.put, lA, l0', lS, i64_w, i32_w]
       rfl
      refine take_ (i := 1) (N := some 36) (v := ?_) (a' := ?_) #[true, true, false, false, false] rfl rfl (by kernel_rfl) (fun _ _ _ h => h) (Or.inl ⟨by rfl, ?_⟩) hHeld ?_ ?_
      rotate_left
      ·rintro w' ⟨s0, s1⟩
       go_simp
       with_reducible rfl
      rotate_left
      ·simp only [Act.put, lA, l0', lS, i64_w, i32_w]
       rfl
      refine one_ (i := 2) (N := some 37) #[true, true, true, false, false] rfl rfl (by kernel_rfl) (by decide) (fun K hK => ?_)
      refine goes_ Try.func42 (by kernel_rfl) rfl #[.agg #[.slice A0_0 l0_0.length c0_0]] (by rfl) rfl rfl (by (try simp only [mA, mC, mN]); first | done | rfl) ?_
      with_reducible refine (laws_toDeal.calls k _ _ l0_0 t326 _ ?side1 ?side2 A56.out).mono ?_
      (case side1 => repeat (first | exact (Kd.C_below HR0_0.out HB.out) | (with_reducible refine Kd.C_alloc ?_ _) | (with_reducible refine Kd.C_drewN ?_ _) | (with_reducible refine Kd.C_drew ?_)))
      (case side2 => exact HC0_0.out)
      rintro e w93 ⟨v327, rfl, ho0, hb⟩
      refine ⟨_, rfl, ?_⟩
      have n0_ := aK (Kd.S_elder' (by (with_reducible repeat (first | apply Kd.S_alloc | apply Kd.S_drewN | apply Kd.S_drew)); exact HO308.out) (Kd.S_base ho0) hb)
      have n1_ := aK (Kd.R_below (by (with_reducible repeat (first | apply Kd.R_alloc | apply Kd.R_drewN | apply Kd.R_drew)); exact HO313.out) hb)
      have n2_ := aK (Kd.S_elder' (by (with_reducible repeat (first | apply Kd.S_alloc | apply Kd.S_drewN | apply Kd.S_drew)); exact HO317.out) (Kd.S_base ho0) hb)
      have n3_ := aK (Kd.R_below (by (with_reducible repeat (first | apply Kd.R_alloc | apply Kd.R_drewN | apply Kd.R_drew)); exact HO323.out) hb)
      have n4_ := aK (Kd.S_lower (Kd.S_new' (Kd.S_new' (Kd.S_new' (Kd.S_new' ho0 (Kd.S_lt (by (with_reducible repeat (first | apply Kd.S_alloc | apply Kd.S_drewN | apply Kd.S_drew)); exact HO308.out))) (Kd.R_lt (by (with_reducible repeat (first | apply Kd.R_alloc | apply Kd.R_drewN | apply Kd.R_drew)); exact HO313.out))) (Kd.S_lt (by (with_reducible repeat (first | apply Kd.S_alloc | apply Kd.S_drewN | apply Kd.S_drew)); exact HO317.out))) (Kd.R_lt (by (with_reducible repeat (first | apply Kd.R_alloc | apply Kd.R_drewN | apply Kd.R_drew)); exact HO323.out))) (below_size (by repeat (first | (with_reducible first | exact HB.out | apply bL | apply bM | apply b1 | refine bS ?_ GE302.out | refine bS ?_ GE303.out | refine bS ?_ GE318.out | refine bS ?_ GE324.out) | exact HB.out))))
      have n5_ := aK (bB (by (with_reducible repeat (first | refine bN ?_ _ | refine bD ?_ | refine bA ?_ _)); exact BK302.out) hb)
      have n6_ := aK (bB (by (with_reducible repeat (first | refine bN ?_ _ | refine bD ?_ | refine bA ?_ _)); exact BK303.out) hb)
      have n7_ := aK (bB (by (with_reducible repeat (first | refine bN ?_ _ | refine bD ?_ | refine bA ?_ _)); exact BK318.out) hb)
      have n8_ := aK (bB (by (with_reducible repeat (first | refine bN ?_ _ | refine bD ?_ | refine bA ?_ _)); exact BK324.out) hb)
      have n9_ := aK (below_step (by repeat (first | (with_reducible first | exact HB.out | apply bL | apply bM | apply b1 | refine bS ?_ GE302.out | refine bS ?_ GE303.out | refine bS ?_ GE318.out | refine bS ?_ GE324.out) | exact HB.out)) hb)
      clear HO308
      clear HO313
      clear HO317
      clear HO323
      clear BK302
      clear BK303
      clear BK318
      clear BK324
      clear HB
      have HO308 := n0_
      have HO313 := n1_
      have HO317 := n2_
      have HO323 := n3_
      have HO328 := n4_
      have BK302 := n5_
      have BK303 := n6_
      have BK318 := n7_
      have BK324 := n8_
      have HB := n9_
      clear n0_ n1_ n2_ n3_ n4_ n5_ n6_ n7_ n8_ n9_
      (try clear hb)
      (try clear hb2)
      (try clear hk)
      (try clear hi)
      (try clear ho0)
      obtain ⟨Ao94, co94, eo94⟩ := Kd.S_slice HO328.out
      (first | subst eo94 | (injection eo94 with f1_ f2_ f3_; have f4_ := f1_.symm; have f5_ := f3_.symm; clear f1_ f2_ f3_; subst f4_; subst f5_))
      refine hK.out _ _ ⟨(bC BK318.out 0).trans rfl, (bC BK302.out 0).trans rfl⟩ (fun hHeld => ?_)
      clear hK K
      refine norm_ (a' := ?_) ?_ ?_
      rotate_left
      ·show Act.put _ (some 37) _ = _
       simp only [Act.put, lA, l0', lS, i64_w, i32_w]
       rfl
      refine one_ (i := 3) (N := some 38) #[true, true, true, true, false] rfl rfl (by kernel_rfl) (by decide) (fun K hK => ?_)
      refine goes_ Try.func44 (by kernel_rfl) rfl #[.agg #[.slice Ao78 t315.length co78], .agg #[.slice Ao94 t326.length co94]] (by rfl) rfl rfl (by (try simp only [mA, mC, mN]); first | done | rfl) ?_
      with_reducible refine (laws_eqDeal.calls k _ _ t315 _ _ t326 true _ ?side1 ?side2 ?side3 ?side4 A57.out).mono ?_
      (case side1 => repeat (first | exact (Kd.S_reads' HO317.out).2.2 | (with_reducible refine Kd.C_alloc ?_ _) | (with_reducible refine Kd.C_drewN ?_ _) | (with_reducible refine Kd.C_drew ?_)))
      (case side2 => exact (Kd.S_reads' HO317.out).2.1)
      (case side3 => repeat (first | exact (Kd.S_reads' HO328.out).2.2 | (with_reducible refine Kd.C_alloc ?_ _) | (with_reducible refine Kd.C_drewN ?_ _) | (with_reducible refine Kd.C_drew ?_)))
      (case side4 => exact (Kd.S_reads' HO328.out).2.1)
      rintro e w95 ⟨rfl, hb⟩
      refine ⟨_, rfl, ?_⟩
      have n0_ := aK (Kd.S_below (by (with_reducible repeat (first | apply Kd.S_alloc | apply Kd.S_drewN | apply Kd.S_drew)); exact HO308.out) hb)
      have n1_ := aK (Kd.R_below (by (with_reducible repeat (first | apply Kd.R_alloc | apply Kd.R_drewN | apply Kd.R_drew)); exact HO313.out) hb)
      have n2_ := aK (Kd.S_below (by (with_reducible repeat (first | apply Kd.S_alloc | apply Kd.S_drewN | apply Kd.S_drew)); exact HO317.out) hb)
      have n3_ := aK (Kd.R_below (by (with_reducible repeat (first | apply Kd.R_alloc | apply Kd.R_drewN | apply Kd.R_drew)); exact HO323.out) hb)
      have n4_ := aK (Kd.S_below (by (with_reducible repeat (first | apply Kd.S_alloc | apply Kd.S_drewN | apply Kd.S_drew)); exact HO328.out) hb)
      have n5_ := aK (bB (by (with_reducible repeat (first | refine bN ?_ _ | refine bD ?_ | refine bA ?_ _)); exact BK302.out) hb)
      have n6_ := aK (bB (by (with_reducible repeat (first | refine bN ?_ _ | refine bD ?_ | refine bA ?_ _)); exact BK303.out) hb)
      have n7_ := aK (bB (by (with_reducible repeat (first | refine bN ?_ _ | refine bD ?_ | refine bA ?_ _)); exact BK318.out) hb)
      have n8_ := aK (bB (by (with_reducible repeat (first | refine bN ?_ _ | refine bD ?_ | refine bA ?_ _)); exact BK324.out) hb)
      have n9_ := aK (below_step (by repeat (first | (with_reducible first | exact HB.out | apply bL | apply bM | apply b1 | refine bS ?_ GE302.out | refine bS ?_ GE303.out | refine bS ?_ GE318.out | refine bS ?_ GE324.out) | exact HB.out)) hb)
      clear HO308
      clear HO313
      clear HO317
      clear HO323
      clear HO328
      clear BK302
      clear BK303
      clear BK318
      clear BK324
      clear HB
      have HO308 := n0_
      have HO313 := n1_
      have HO317 := n2_
      have HO323 := n3_
      have HO328 := n4_
      have BK302 := n5_
      have BK303 := n6_
      have BK318 := n7_
      have BK324 := n8_
      have HB := n9_
      clear n0_ n1_ n2_ n3_ n4_ n5_ n6_ n7_ n8_ n9_
      (try clear hb)
      (try clear hb2)
      (try clear hk)
      (try clear hi)
      refine hK.out _ _ ⟨(bC BK318.out 0).trans rfl, (bC BK302.out 0).trans rfl⟩ (fun hHeld => ?_)
      clear hK K
      refine norm_ (a' := ?_) ?_ ?_
      rotate_left
      ·show Act.put _ (some 38) _ = _
       simp only [Act.put, lA, l0', lS, i64_w, i32_w]
       rfl
      refine pure_ (i := 4) (N := some 39) (v := ?_) (a' := ?_) #[true, true, true, true, true] rfl rfl (by kernel_rfl) (fun _ _ _ h => h) (Or.inl ⟨by rfl, ?_⟩) ?_ ?_
      rotate_left
      ·intro w'
       go_simp
       with_reducible rfl
      rotate_left
      ·simp only [Act.put, lA, l0', lS, i64_w, i32_w]
       rfl
      refine done_ (by kernel_rfl) ?_
      try go_wp2
      have n0_ := aK (Kd.S_drew HO308.out)
      have n1_ := aK (Kd.R_drew HO313.out)
      have n2_ := aK (Kd.S_drew HO317.out)
      have n3_ := aK (Kd.R_drew HO323.out)
      have n4_ := aK (Kd.S_drew HO328.out)
      have n5_ := aK (bD BK302.out)
      have n6_ := aK (bD BK303.out)
      have n7_ := aK (bD BK318.out)
      have n8_ := aK (bD BK324.out)
      have n9_ := aK (b1 HB.out)
      clear HO308
      clear HO313
      clear HO317
      clear HO323
      clear HO328
      clear BK302
      clear BK303
      clear BK318
      clear BK324
      clear HB
      have HO308 := n0_
      have HO313 := n1_
      have HO317 := n2_
      have HO323 := n3_
      have HO328 := n4_
      have BK302 := n5_
      have BK303 := n6_
      have BK318 := n7_
      have BK324 := n8_
      have HB := n9_
      clear n0_ n1_ n2_ n3_ n4_ n5_ n6_ n7_ n8_ n9_
      refine start_ (n := 5) (S := fun w' => w'.cell? ⟨gb324, 0, none⟩ = some (.int .i64 t319) ∧ w'.cell? ⟨gb324, 1, none⟩ = some (.int .i64 t320) ∧ w'.cell? ⟨gb324, 2, none⟩ = some (.slice Ao89 t321.length co89) ∧ w'.cell? ⟨gb303, 0, none⟩ = some (.int .i64 a1_0) ∧ w'.cell? ⟨gb303, 1, none⟩ = some (.int .i64 a1_1) ∧ w'.cell? ⟨gb303, 2, none⟩ = some (.slice A1_2 l1_2.length c1_2)) (ds := []) #[false, false, false, false, false] (by kernel_rfl) rfl rfl ⟨(bC BK324.out 0).trans rfl, (bC BK324.out 1).trans rfl, (bC BK324.out 2).trans rfl, (bC BK303.out 0).trans rfl, (bC BK303.out 1).trans rfl, (bC BK303.out 2).trans rfl⟩ (fun hHeld => ?_)
      generalize w95.drew = w96 at HO308 HO313 HO317 HO323 HO328 BK302 BK303 BK318 BK324 HB hHeld ⊢
      refine take_ (i := 0) (N := some 40) (v := ?_) (a' := ?_) #[true, false, false, false, false] rfl rfl (by kernel_rfl) (fun _ _ _ h => h) (Or.inl ⟨by rfl, ?_⟩) hHeld ?_ ?_
      rotate_left
      ·rintro w' ⟨s0, s1, s2, s3, s4, s5⟩
       go_simp
       with_reducible rfl
      rotate_left
      ·simp only [Act.put, lA, l0', lS, i64_w, i32_w]
       rfl
      refine take_ (i := 1) (N := some 41) (v := ?_) (a' := ?_) #[true, true, false, false, false] rfl rfl (by kernel_rfl) (fun _ _ _ h => h) (Or.inl ⟨by rfl, ?_⟩) hHeld ?_ ?_
      rotate_left
      ·rintro w' ⟨s0, s1, s2, s3, s4, s5⟩
       go_simp
       with_reducible rfl
      rotate_left
      ·simp only [Act.put, lA, l0', lS, i64_w, i32_w]
       rfl
      refine one_ (i := 2) (N := some 42) #[true, true, true, false, false] rfl rfl (by kernel_rfl) (by decide) (fun K hK => ?_)
      refine goes_ Try.func24 (by kernel_rfl) rfl #[.agg #[.int .i64 a1_0, .int .i64 a1_1, .slice A1_2 l1_2.length c1_2]] (by rfl) rfl rfl (by (try simp only [mA, mC, mN]); first | done | rfl) ?_
      with_reducible refine (laws_toPlay.calls k a1_0 a1_1 _ _ l1_2 t330 t331 t332 _ ?side1 ?side2 A59.out).mono ?_
      (case side1 => repeat (first | exact (Kd.C_below HR1_2.out HB.out) | (with_reducible refine Kd.C_alloc ?_ _) | (with_reducible refine Kd.C_drewN ?_ _) | (with_reducible refine Kd.C_drew ?_)))
      (case side2 => exact HC1_2.out)
      rintro e w97 ⟨v333, rfl, ho0, hb⟩
      refine ⟨_, rfl, ?_⟩
      have n0_ := aK (Kd.S_elder' (by (with_reducible repeat (first | apply Kd.S_alloc | apply Kd.S_drewN | apply Kd.S_drew)); exact HO308.out) (Kd.R_base ho0) hb)
      have n1_ := aK (Kd.R_elder' (by (with_reducible repeat (first | apply Kd.R_alloc | apply Kd.R_drewN | apply Kd.R_drew)); exact HO313.out) (Kd.R_base ho0) hb)
      have n2_ := aK (Kd.S_elder' (by (with_reducible repeat (first | apply Kd.S_alloc | apply Kd.S_drewN | apply Kd.S_drew)); exact HO317.out) (Kd.R_base ho0) hb)
      have n3_ := aK (Kd.R_elder' (by (with_reducible repeat (first | apply Kd.R_alloc | apply Kd.R_drewN | apply Kd.R_drew)); exact HO323.out) (Kd.R_base ho0) hb)
      have n4_ := aK (Kd.S_elder' (by (with_reducible repeat (first | apply Kd.S_alloc | apply Kd.S_drewN | apply Kd.S_drew)); exact HO328.out) (Kd.R_base ho0) hb)
      have n5_ := aK (Kd.R_lower (Kd.R_new' (Kd.R_new' ho0 (Kd.R_lt (by (with_reducible repeat (first | apply Kd.R_alloc | apply Kd.R_drewN | apply Kd.R_drew)); exact HO313.out))) (Kd.R_lt (by (with_reducible repeat (first | apply Kd.R_alloc | apply Kd.R_drewN | apply Kd.R_drew)); exact HO323.out))) (below_size (by repeat (first | (with_reducible first | exact HB.out | apply bL | apply bM | apply b1 | refine bS ?_ GE302.out | refine bS ?_ GE303.out | refine bS ?_ GE318.out | refine bS ?_ GE324.out) | exact HB.out))))
      have n6_ := aK (bB (by (with_reducible repeat (first | refine bN ?_ _ | refine bD ?_ | refine bA ?_ _)); exact BK302.out) hb)
      have n7_ := aK (bB (by (with_reducible repeat (first | refine bN ?_ _ | refine bD ?_ | refine bA ?_ _)); exact BK303.out) hb)
      have n8_ := aK (bB (by (with_reducible repeat (first | refine bN ?_ _ | refine bD ?_ | refine bA ?_ _)); exact BK318.out) hb)
      have n9_ := aK (bB (by (with_reducible repeat (first | refine bN ?_ _ | refine bD ?_ | refine bA ?_ _)); exact BK324.out) hb)
      have n10_ := aK (below_step (by repeat (first | (with_reducible first | exact HB.out | apply bL | apply bM | apply b1 | refine bS ?_ GE302.out | refine bS ?_ GE303.out | refine bS ?_ GE318.out | refine bS ?_ GE324.out) | exact HB.out)) hb)
      clear HO308
      clear HO313
      clear HO317
      clear HO323
      clear HO328
      clear BK302
      clear BK303
      clear BK318
      clear BK324
      clear HB
      have HO308 := n0_
      have HO313 := n1_
      have HO317 := n2_
      have HO323 := n3_
      have HO328 := n4_
      have HO334 := n5_
      have BK302 := n6_
      have BK303 := n7_
      have BK318 := n8_
      have BK324 := n9_
      have HB := n10_
      clear n0_ n1_ n2_ n3_ n4_ n5_ n6_ n7_ n8_ n9_ n10_
      (try clear hb)
      (try clear hb2)
      (try clear hk)
      (try clear hi)
      (try clear ho0)
      obtain ⟨Ao98, co98, eo98⟩ := Kd.R_slice HO334.out
      (first | subst eo98 | (injection eo98 with f1_ f2_ f3_; have f4_ := f1_.symm; have f5_ := f3_.symm; clear f1_ f2_ f3_; subst f4_; subst f5_))
      refine hK.out _ _ ⟨(bC BK324.out 0).trans rfl, (bC BK324.out 1).trans rfl, (bC BK324.out 2).trans rfl, (bC BK303.out 0).trans rfl, (bC BK303.out 1).trans rfl, (bC BK303.out 2).trans rfl⟩ (fun hHeld => ?_)
      clear hK K
      refine norm_ (a' := ?_) ?_ ?_
      rotate_left
      ·show Act.put _ (some 42) _ = _
       simp only [Act.put, lA, l0', lS, i64_w, i32_w]
       rfl
      refine one_ (i := 3) (N := some 43) #[true, true, true, true, false] rfl rfl (by kernel_rfl) (by decide) (fun K hK => ?_)
      refine goes_ Try.func26 (by kernel_rfl) rfl #[.agg #[.int .i64 t319, .int .i64 t320, .slice Ao89 t321.length co89], .agg #[.int .i64 t330, .int .i64 t331, .slice Ao98 t332.length co98]] (by rfl) rfl rfl (by (try simp only [mA, mC, mN]); first | done | rfl) ?_
      with_reducible refine (laws_eqPlay.calls k t319 t320 _ _ t321 t330 t331 _ _ t332 true _ ?side1 ?side2 ?side3 ?side4 A60.out).mono ?_
      (case side1 => repeat (first | exact (Kd.R_reads' HO323.out).2.2 | (with_reducible refine Kd.C_alloc ?_ _) | (with_reducible refine Kd.C_drewN ?_ _) | (with_reducible refine Kd.C_drew ?_)))
      (case side2 => exact (Kd.R_reads' HO323.out).2.1)
      (case side3 => repeat (first | exact (Kd.R_reads' HO334.out).2.2 | (with_reducible refine Kd.C_alloc ?_ _) | (with_reducible refine Kd.C_drewN ?_ _) | (with_reducible refine Kd.C_drew ?_)))
      (case side4 => exact (Kd.R_reads' HO334.out).2.1)
      rintro e w99 ⟨rfl, hb⟩
      refine ⟨_, rfl, ?_⟩
      have n0_ := aK (Kd.S_below (by (with_reducible repeat (first | apply Kd.S_alloc | apply Kd.S_drewN | apply Kd.S_drew)); exact HO308.out) hb)
      have n1_ := aK (Kd.R_below (by (with_reducible repeat (first | apply Kd.R_alloc | apply Kd.R_drewN | apply Kd.R_drew)); exact HO313.out) hb)
      have n2_ := aK (Kd.S_below (by (with_reducible repeat (first | apply Kd.S_alloc | apply Kd.S_drewN | apply Kd.S_drew)); exact HO317.out) hb)
      have n3_ := aK (Kd.R_below (by (with_reducible repeat (first | apply Kd.R_alloc | apply Kd.R_drewN | apply Kd.R_drew)); exact HO323.out) hb)
      have n4_ := aK (Kd.S_below (by (with_reducible repeat (first | apply Kd.S_alloc | apply Kd.S_drewN | apply Kd.S_drew)); exact HO328.out) hb)
      have n5_ := aK (Kd.R_below (by (with_reducible repeat (first | apply Kd.R_alloc | apply Kd.R_drewN | apply Kd.R_drew)); exact HO334.out) hb)
      have n6_ := aK (bB (by (with_reducible repeat (first | refine bN ?_ _ | refine bD ?_ | refine bA ?_ _)); exact BK302.out) hb)
      have n7_ := aK (bB (by (with_reducible repeat (first | refine bN ?_ _ | refine bD ?_ | refine bA ?_ _)); exact BK303.out) hb)
      have n8_ := aK (bB (by (with_reducible repeat (first | refine bN ?_ _ | refine bD ?_ | refine bA ?_ _)); exact BK318.out) hb)
      have n9_ := aK (bB (by (with_reducible repeat (first | refine bN ?_ _ | refine bD ?_ | refine bA ?_ _)); exact BK324.out) hb)
      have n10_ := aK (below_step (by repeat (first | (with_reducible first | exact HB.out | apply bL | apply bM | apply b1 | refine bS ?_ GE302.out | refine bS ?_ GE303.out | refine bS ?_ GE318.out | refine bS ?_ GE324.out) | exact HB.out)) hb)
      clear HO308
      clear HO313
      clear HO317
      clear HO323
      clear HO328
      clear HO334
      clear BK302
      clear BK303
      clear BK318
      clear BK324
      clear HB
      have HO308 := n0_
      have HO313 := n1_
      have HO317 := n2_
      have HO323 := n3_
      have HO328 := n4_
      have HO334 := n5_
      have BK302 := n6_
      have BK303 := n7_
      have BK318 := n8_
      have BK324 := n9_
      have HB := n10_
      clear n0_ n1_ n2_ n3_ n4_ n5_ n6_ n7_ n8_ n9_ n10_
      (try clear hb)
      (try clear hb2)
      (try clear hk)
      (try clear hi)
      refine hK.out _ _ ⟨(bC BK324.out 0).trans rfl, (bC BK324.out 1).trans rfl, (bC BK324.out 2).trans rfl, (bC BK303.out 0).trans rfl, (bC BK303.out 1).trans rfl, (bC BK303.out 2).trans rfl⟩ (fun hHeld => ?_)
      clear hK K
      refine norm_ (a' := ?_) ?_ ?_
      rotate_left
      ·show Act.put _ (some 43) _ = _
       simp only [Act.put, lA, l0', lS, i64_w, i32_w]
       rfl
      refine pure_ (i := 4) (N := some 44) (v := ?_) (a' := ?_) #[true, true, true, true, true] rfl rfl (by kernel_rfl) (fun _ _ _ h => h) (Or.inl ⟨by rfl, ?_⟩) ?_ ?_
      rotate_left
      ·intro w'
       go_simp
       with_reducible rfl
      rotate_left
      ·simp only [Act.put, lA, l0', lS, i64_w, i32_w]
       rfl
      refine done_ (by kernel_rfl) ?_
      try go_wp2
      go_ret
      exact ⟨by first | rfl | (simp [errW_none, errW_some] <;> rfl) | (simp [*, errW_none, errW_some] <;> rfl), by repeat (first | (with_reducible first | exact HB.out | apply bL | apply bM | apply b1 | refine bS ?_ GE302.out | refine bS ?_ GE303.out | refine bS ?_ GE318.out | refine bS ?_ GE324.out) | exact HB.out)⟩
     ·replace c61 := Bool.eq_false_iff.mpr c61
      subst c61
      have H1 : (some false) = some r := by rw [if_neg (show ¬ (false = true) by decide)] at H; exact H
      clear H
      have H := H1
      clear H1
      obtain rfl := Option.some.inj H
      go_enter Try.func8, Try.ntmps8
      try go_wp2_with (first | ((with_reducible refine gate_dst (N := 2) rfl ?_); refine box_event ?hg (N := 2) ?hd (cs := #[.slice A0_0 l0_0.length c0_0]) (t := 41) ?hr ?_; (case hd => rfl); (case hg => rfl); (case hr => first | (go_simp; done) | (go_simp; rfl)); intro gb302 hg w100 hbox hb; have n0_ := aK (below_step (by repeat (first | (with_reducible first | exact HB.out | apply bL | apply bM | apply b1) | exact HB.out)) hb); have n1_ := aK (hbox); have n2_ := aK ((by rw [hg]; exact (below_size (by repeat (first | (with_reducible first | exact HB.out | apply bL | apply bM | apply b1) | exact HB.out))) : w.heap.size ≤ gb302)); have n3_ := aK ((by rw [hg]; exact (below_size (by repeat (first | (with_reducible first | exact HB.out | apply bL | apply bM | apply b1) | exact HB.out))) : w.heap.size ≤ gb302)); clear HB; have HB := n0_; have BK302 := n1_; have GW302 := n2_; have GE302 := n3_; clear n0_ n1_ n2_ n3_; clear hb hbox hg) | ((with_reducible refine gate_dst (N := 3) rfl ?_); refine box_event ?hg (N := 3) ?hd (cs := #[.int .i64 a1_0, .int .i64 a1_1, .slice A1_2 l1_2.length c1_2]) (t := 24) ?hr ?_; (case hd => rfl); (case hg => rfl); (case hr => first | (go_simp; done) | (go_simp; rfl)); intro gb303 hg w101 hbox hb; have n0_ := aK (bB (by (with_reducible repeat (first | refine bN ?_ _ | refine bD ?_ | refine bA ?_ _)); exact BK302.out) hb); have n1_ := aK (below_step (by repeat (first | (with_reducible first | exact HB.out | apply bL | apply bM | apply b1 | refine bS ?_ GE302.out) | exact HB.out)) hb); have n2_ := aK (hbox); have n3_ := aK ((by rw [hg]; exact (below_size (by repeat (first | (with_reducible first | exact HB.out | apply bL | apply bM | apply b1 | refine bS ?_ GE302.out) | exact HB.out))) : w.heap.size ≤ gb303)); have n4_ := aK ((by rw [hg]; exact (below_size (by repeat (first | (with_reducible first | exact HB.out | apply bL | apply bM | apply b1 | refine bS ?_ GE302.out) | exact HB.out))) : w.heap.size ≤ gb303)); have n5_ := aK ((by rw [hg]; exact Nat.ne_of_lt (blk_lt (by (with_reducible repeat (first | refine bN ?_ _ | refine bD ?_ | refine bA ?_ _)); exact BK302.out)) : gb302 ≠ gb303)); have n6_ := aK ((by rw [hg]; exact Nat.ne_of_gt (blk_lt (by (with_reducible repeat (first | refine bN ?_ _ | refine bD ?_ | refine bA ?_ _)); exact BK302.out)) : gb303 ≠ gb302)); clear BK302; clear HB; have BK302 := n0_; have HB := n1_; have BK303 := n2_; have GW303 := n3_; have GE303 := n4_; have NB302_303 := n5_; have NB303_302 := n6_; clear n0_ n1_ n2_ n3_ n4_ n5_ n6_; clear hb hbox hg; have hnb102 := NB302_303.out; have hnc102 := NB303_302.out; have hcz103_0 : w101.cell? ⟨gb302, 0, none⟩ = some (.slice A0_0 l0_0.length c0_0) := (bC BK302.out 0).trans rfl; have hfz103_0 := blk_frozen BK302.out 0) | ((with_reducible refine gate_callee (f := 40) rfl ?_); refine goesL_ (some 12) rfl rfl Try.func40 (by kernel_rfl) rfl #[.agg #[.slice A0_0 l0_0.length c0_0], .int .i64 1048576] rfl (by (try simp only [mA, mC, mN]); first | done | rfl) ?_; (with_reducible refine (laws_szDeal.calls k _ _ l0_0 1048576 t304 _ ?side1 ?side2 A3.out).mono ?_); (case side1 => repeat (first | exact (Kd.C_below HR0_0.out HB.out) | (with_reducible refine Kd.C_alloc ?_ _) | (with_reducible refine Kd.C_drewN ?_ _) | (with_reducible refine Kd.C_drew ?_))); (case side2 => exact HC0_0.out); rintro e w104 ⟨rfl, hb⟩; refine ⟨_, rfl, ?_⟩; have n0_ := aK (bB (by (with_reducible repeat (first | refine bN ?_ _ | refine bD ?_ | refine bA ?_ _)); exact BK302.out) hb); have n1_ := aK (bB (by (with_reducible repeat (first | refine bN ?_ _ | refine bD ?_ | refine bA ?_ _)); exact BK303.out) hb); have n2_ := aK (below_step (by repeat (first | (with_reducible first | exact HB.out | apply bL | apply bM | apply b1 | refine bS ?_ GE302.out | refine bS ?_ GE303.out) | exact HB.out)) hb); clear BK302; clear BK303; clear HB; have BK302 := n0_; have BK303 := n1_; have HB := n2_; clear n0_ n1_ n2_; (try clear hb); (try clear hb2); (try clear hk); (try clear hi); have hcz105_0 : w104.cell? ⟨gb303, 0, none⟩ = some (.int .i64 a1_0) := (bC BK303.out 0).trans rfl; have hcz105_1 : w104.cell? ⟨gb303, 1, none⟩ = some (.int .i64 a1_1) := (bC BK303.out 1).trans rfl; have hcz105_2 : w104.cell? ⟨gb303, 2, none⟩ = some (.slice A1_2 l1_2.length c1_2) := (bC BK303.out 2).trans rfl; have hfz105_0 := blk_frozen BK303.out 0; have hfz105_1 := blk_frozen BK303.out 1; have hfz105_2 := blk_frozen BK303.out 2) | ((with_reducible refine gate_callee (f := 22) rfl ?_); refine goesL_ (some 17) rfl rfl Try.func22 (by kernel_rfl) rfl #[.agg #[.int .i64 a1_0, .int .i64 a1_1, .slice A1_2 l1_2.length c1_2], .int .i64 t304] rfl (by (try simp only [mA, mC, mN]); first | done | rfl) ?_; (with_reducible refine (laws_szPlay.calls a1_0 a1_1 _ _ l1_2 t304 t305 _ ?side1 ?side2 A10.out).mono ?_); (case side1 => repeat (first | exact (Kd.C_below HR1_2.out HB.out) | (with_reducible refine Kd.C_alloc ?_ _) | (with_reducible refine Kd.C_drewN ?_ _) | (with_reducible refine Kd.C_drew ?_))); (case side2 => exact HC1_2.out); rintro e w106 ⟨rfl, hb⟩; refine ⟨_, rfl, ?_⟩; have n0_ := aK (bB (by (with_reducible repeat (first | refine bN ?_ _ | refine bD ?_ | refine bA ?_ _)); exact BK302.out) hb); have n1_ := aK (bB (by (with_reducible repeat (first | refine bN ?_ _ | refine bD ?_ | refine bA ?_ _)); exact BK303.out) hb); have n2_ := aK (below_step (by repeat (first | (with_reducible first | exact HB.out | apply bL | apply bM | apply b1 | refine bS ?_ GE302.out | refine bS ?_ GE303.out) | exact HB.out)) hb); clear BK302; clear BK303; clear HB; have BK302 := n0_; have BK303 := n1_; have HB := n2_; clear n0_ n1_ n2_; (try clear hb); (try clear hb2); (try clear hk); (try clear hi)))
      have n0_ := aK (bD BK302.out)
      have n1_ := aK (bD BK303.out)
      have n2_ := aK (b1 HB.out)
      clear BK302
      clear BK303
      clear HB
      have BK302 := n0_
      have BK303 := n1_
      have HB := n2_
      clear n0_ n1_ n2_
      refine start_ (n := 6) (S := fun w' => w'.cell? ⟨gb302, 0, none⟩ = some (.slice A0_0 l0_0.length c0_0) ∧ w'.cell? ⟨gb303, 0, none⟩ = some (.int .i64 a1_0) ∧ w'.cell? ⟨gb303, 1, none⟩ = some (.int .i64 a1_1) ∧ w'.cell? ⟨gb303, 2, none⟩ = some (.slice A1_2 l1_2.length c1_2)) (ds := []) #[false, false, false, false, false, false] (by kernel_rfl) rfl rfl ⟨(bC BK302.out 0).trans rfl, (bC BK303.out 0).trans rfl, (bC BK303.out 1).trans rfl, (bC BK303.out 2).trans rfl⟩ (fun hHeld => ?_)
      generalize w106.drew = w107 at BK302 BK303 HB hHeld ⊢
      refine take_ (i := 0) (N := some 20) (v := ?_) (a' := ?_) #[true, false, false, false, false, false] rfl rfl (by kernel_rfl) (fun _ _ _ h => h) (Or.inl ⟨by rfl, ?_⟩) hHeld ?_ ?_
      rotate_left
      ·rintro w' ⟨s0, s1, s2, s3⟩
       go_simp
       with_reducible rfl
      rotate_left
      ·simp only [Act.put, lA, l0', lS, i64_w, i32_w]
       rfl
      refine take_ (i := 2) (N := some 22) (v := ?_) (a' := ?_) #[true, false, true, false, false, false] rfl rfl (by kernel_rfl) (fun _ _ _ h => h) (Or.inl ⟨by rfl, ?_⟩) hHeld ?_ ?_
      rotate_left
      ·rintro w' ⟨s0, s1, s2, s3⟩
       go_simp
       with_reducible rfl
      rotate_left
      ·simp only [Act.put, lA, l0', lS, i64_w, i32_w]
       rfl
      refine one_ (i := 1) (N := some 21) #[true, true, true, false, false, false] rfl rfl (by kernel_rfl) (by decide) (fun K hK => ?_)
      refine goes_ Try.func42 (by kernel_rfl) rfl #[.agg #[.slice A0_0 l0_0.length c0_0]] (by rfl) rfl rfl (by (try simp only [mA, mC, mN]); first | done | rfl) ?_
      with_reducible refine (laws_toDeal.calls k _ _ l0_0 t306 _ ?side1 ?side2 A19.out).mono ?_
      (case side1 => repeat (first | exact (Kd.C_below HR0_0.out HB.out) | (with_reducible refine Kd.C_alloc ?_ _) | (with_reducible refine Kd.C_drewN ?_ _) | (with_reducible refine Kd.C_drew ?_)))
      (case side2 => exact HC0_0.out)
      rintro e w108 ⟨v307, rfl, ho0, hb⟩
      refine ⟨_, rfl, ?_⟩
      have n0_ := aK (Kd.S_lower ho0 (below_size (by repeat (first | (with_reducible first | exact HB.out | apply bL | apply bM | apply b1 | refine bS ?_ GE302.out | refine bS ?_ GE303.out) | exact HB.out))))
      have n1_ := aK (bB (by (with_reducible repeat (first | refine bN ?_ _ | refine bD ?_ | refine bA ?_ _)); exact BK302.out) hb)
      have n2_ := aK (bB (by (with_reducible repeat (first | refine bN ?_ _ | refine bD ?_ | refine bA ?_ _)); exact BK303.out) hb)
      have n3_ := aK (below_step (by repeat (first | (with_reducible first | exact HB.out | apply bL | apply bM | apply b1 | refine bS ?_ GE302.out | refine bS ?_ GE303.out) | exact HB.out)) hb)
      clear BK302
      clear BK303
      clear HB
      have HO308 := n0_
      have BK302 := n1_
      have BK303 := n2_
      have HB := n3_
      clear n0_ n1_ n2_ n3_
      (try clear hb)
      (try clear hb2)
      (try clear hk)
      (try clear hi)
      (try clear ho0)
      refine hK.out _ _ ⟨(bC BK302.out 0).trans rfl, (bC BK303.out 0).trans rfl, (bC BK303.out 1).trans rfl, (bC BK303.out 2).trans rfl⟩ (fun hHeld => ?_)
      clear hK K
      refine norm_ (a' := ?_) ?_ ?_
      rotate_left
      ·show Act.put _ (some 21) _ = _
       simp only [Act.put, lA, l0', lS, i64_w, i32_w]
       rfl
      refine one_ (i := 3) (N := some 23) #[true, true, true, true, false, false] rfl rfl (by kernel_rfl) (by decide) (fun K hK => ?_)
      refine goes_ Try.func24 (by kernel_rfl) rfl #[.agg #[.int .i64 a1_0, .int .i64 a1_1, .slice A1_2 l1_2.length c1_2]] (by rfl) rfl rfl (by (try simp only [mA, mC, mN]); first | done | rfl) ?_
      with_reducible refine (laws_toPlay.calls k a1_0 a1_1 _ _ l1_2 t309 t310 t311 _ ?side1 ?side2 A20.out).mono ?_
      (case side1 => repeat (first | exact (Kd.C_below HR1_2.out HB.out) | (with_reducible refine Kd.C_alloc ?_ _) | (with_reducible refine Kd.C_drewN ?_ _) | (with_reducible refine Kd.C_drew ?_)))
      (case side2 => exact HC1_2.out)
      rintro e w109 ⟨v312, rfl, ho0, hb⟩
      refine ⟨_, rfl, ?_⟩
      have n0_ := aK (Kd.S_elder' (by (with_reducible repeat (first | apply Kd.S_alloc | apply Kd.S_drewN | apply Kd.S_drew)); exact HO308.out) (Kd.R_base ho0) hb)
      have n1_ := aK (Kd.R_lower ho0 (below_size (by repeat (first | (with_reducible first | exact HB.out | apply bL | apply bM | apply b1 | refine bS ?_ GE302.out | refine bS ?_ GE303.out) | exact HB.out))))
      have n2_ := aK (bB (by (with_reducible repeat (first | refine bN ?_ _ | refine bD ?_ | refine bA ?_ _)); exact BK302.out) hb)
      have n3_ := aK (bB (by (with_reducible repeat (first | refine bN ?_ _ | refine bD ?_ | refine bA ?_ _)); exact BK303.out) hb)
      have n4_ := aK (below_step (by repeat (first | (with_reducible first | exact HB.out | apply bL | apply bM | apply b1 | refine bS ?_ GE302.out | refine bS ?_ GE303.out) | exact HB.out)) hb)
      clear HO308
      clear BK302
      clear BK303
      clear HB
      have HO308 := n0_
      have HO313 := n1_
      have BK302 := n2_
      have BK303 := n3_
      have HB := n4_
      clear n0_ n1_ n2_ n3_ n4_
      (try clear hb)
      (try clear hb2)
      (try clear hk)
      (try clear hi)
      (try clear ho0)
      obtain ⟨Ao110, co110, eo110⟩ := Kd.S_slice HO308.out
      (first | subst eo110 | (injection eo110 with f1_ f2_ f3_; have f4_ := f1_.symm; have f5_ := f3_.symm; clear f1_ f2_ f3_; subst f4_; subst f5_))
      obtain ⟨Ao111, co111, eo111⟩ := Kd.R_slice HO313.out
      (first | subst eo111 | (injection eo111 with f1_ f2_ f3_; have f4_ := f1_.symm; have f5_ := f3_.symm; clear f1_ f2_ f3_; subst f4_; subst f5_))
      refine hK.out _ _ ⟨(bC BK302.out 0).trans rfl, (bC BK303.out 0).trans rfl, (bC BK303.out 1).trans rfl, (bC BK303.out 2).trans rfl⟩ (fun hHeld => ?_)
      clear hK K
      refine norm_ (a' := ?_) ?_ ?_
      rotate_left
      ·show Act.put _ (some 23) _ = _
       simp only [Act.put, lA, l0', lS, i64_w, i32_w]
       rfl
      refine one_ (i := 4) (N := some 24) #[true, true, true, true, true, false] rfl rfl (by kernel_rfl) (by decide) (fun K hK => ?_)
      refine goes_ Try.func41 (by kernel_rfl) rfl #[.agg #[.slice Ao110 t306.length co110], .agg #[.int .i64 t309, .int .i64 t310, .slice Ao111 t311.length co111]] (by rfl) rfl rfl (by (try simp only [mA, mC, mN]); first | done | rfl) ?_
      with_reducible refine (spec_IsLoosePlay.calls k _ _ t306 t309 t310 _ _ t311 t314 _ ?side1 ?side2 ?side3 ?side4 A21.out).mono ?_
      (case side1 => repeat (first | exact (Kd.S_reads' HO308.out).2.2 | (with_reducible refine Kd.C_alloc ?_ _) | (with_reducible refine Kd.C_drewN ?_ _) | (with_reducible refine Kd.C_drew ?_)))
      (case side2 => exact (Kd.S_reads' HO308.out).2.1)
      (case side3 => repeat (first | exact (Kd.R_reads' HO313.out).2.2 | (with_reducible refine Kd.C_alloc ?_ _) | (with_reducible refine Kd.C_drewN ?_ _) | (with_reducible refine Kd.C_drew ?_)))
      (case side4 => exact (Kd.R_reads' HO313.out).2.1)
      rintro e w112 ⟨rfl, hb⟩
      refine ⟨_, rfl, ?_⟩
      have n0_ := aK (Kd.S_below (by (with_reducible repeat (first | apply Kd.S_alloc | apply Kd.S_drewN | apply Kd.S_drew)); exact HO308.out) hb)
      have n1_ := aK (Kd.R_below (by (with_reducible repeat (first | apply Kd.R_alloc | apply Kd.R_drewN | apply Kd.R_drew)); exact HO313.out) hb)
      have n2_ := aK (bB (by (with_reducible repeat (first | refine bN ?_ _ | refine bD ?_ | refine bA ?_ _)); exact BK302.out) hb)
      have n3_ := aK (bB (by (with_reducible repeat (first | refine bN ?_ _ | refine bD ?_ | refine bA ?_ _)); exact BK303.out) hb)
      have n4_ := aK (below_step (by repeat (first | (with_reducible first | exact HB.out | apply bL | apply bM | apply b1 | refine bS ?_ GE302.out | refine bS ?_ GE303.out) | exact HB.out)) hb)
      clear HO308
      clear HO313
      clear BK302
      clear BK303
      clear HB
      have HO308 := n0_
      have HO313 := n1_
      have BK302 := n2_
      have BK303 := n3_
      have HB := n4_
      clear n0_ n1_ n2_ n3_ n4_
      (try clear hb)
      (try clear hb2)
      (try clear hk)
      (try clear hi)
      refine hK.out _ _ ⟨(bC BK302.out 0).trans rfl, (bC BK303.out 0).trans rfl, (bC BK303.out 1).trans rfl, (bC BK303.out 2).trans rfl⟩ (fun hHeld => ?_)
      clear hK K
      refine norm_ (a' := ?_) ?_ ?_
      rotate_left
      ·show Act.put _ (some 24) _ = _
       simp only [Act.put, lA, l0', lS, i64_w, i32_w]
       rfl
      refine pure_ (i := 5) (N := some 6) (v := ?_) (a' := ?_) #[true, true, true, true, true, true] rfl rfl (by kernel_rfl) (fun _ _ _ h => h) (Or.inl ⟨by rfl, ?_⟩) ?_ ?_
      rotate_left
      ·intro w'
       go_simp
       with_reducible rfl
      rotate_left
      ·simp only [Act.put, lA, l0', lS, i64_w, i32_w]
       rfl
      refine done_ (by kernel_rfl) ?_
      have hcz113_0 : w112.cell? ⟨gb302, 0, none⟩ = some (.slice A0_0 l0_0.length c0_0) := (bC BK302.out 0).trans rfl
      have hfz113_0 := blk_frozen BK302.out 0
      try go_wp2_with (first | ((with_reducible refine gate_callee (f := 42) rfl ?_); refine goesL_ (some 26) rfl rfl Try.func42 (by kernel_rfl) rfl #[.agg #[.slice A0_0 l0_0.length c0_0]] rfl (by (try simp only [mA, mC, mN]); first | done | rfl) ?_; (with_reducible refine (laws_toDeal.calls k _ _ l0_0 t315 _ ?side1 ?side2 A22.out).mono ?_); (case side1 => repeat (first | exact (Kd.C_below HR0_0.out HB.out) | (with_reducible refine Kd.C_alloc ?_ _) | (with_reducible refine Kd.C_drewN ?_ _) | (with_reducible refine Kd.C_drew ?_))); (case side2 => exact HC0_0.out); rintro e w114 ⟨v316, rfl, ho0, hb⟩; refine ⟨_, rfl, ?_⟩; have n0_ := aK (Kd.S_elder' (by (with_reducible repeat (first | apply Kd.S_alloc | apply Kd.S_drewN | apply Kd.S_drew)); exact HO308.out) (Kd.S_base ho0) hb); have n1_ := aK (Kd.R_below (by (with_reducible repeat (first | apply Kd.R_alloc | apply Kd.R_drewN | apply Kd.R_drew)); exact HO313.out) hb); have n2_ := aK (Kd.S_lower (Kd.S_new' (Kd.S_new' ho0 (Kd.S_lt (by (with_reducible repeat (first | apply Kd.S_alloc | apply Kd.S_drewN | apply Kd.S_drew)); exact HO308.out))) (Kd.R_lt (by (with_reducible repeat (first | apply Kd.R_alloc | apply Kd.R_drewN | apply Kd.R_drew)); exact HO313.out))) (below_size (by repeat (first | (with_reducible first | exact HB.out | apply bL | apply bM | apply b1 | refine bS ?_ GE302.out | refine bS ?_ GE303.out) | exact HB.out)))); have n3_ := aK (bB (by (with_reducible repeat (first | refine bN ?_ _ | refine bD ?_ | refine bA ?_ _)); exact BK302.out) hb); have n4_ := aK (bB (by (with_reducible repeat (first | refine bN ?_ _ | refine bD ?_ | refine bA ?_ _)); exact BK303.out) hb); have n5_ := aK (below_step (by repeat (first | (with_reducible first | exact HB.out | apply bL | apply bM | apply b1 | refine bS ?_ GE302.out | refine bS ?_ GE303.out) | exact HB.out)) hb); clear HO308; clear HO313; clear BK302; clear BK303; clear HB; have HO308 := n0_; have HO313 := n1_; have HO317 := n2_; have BK302 := n3_; have BK303 := n4_; have HB := n5_; clear n0_ n1_ n2_ n3_ n4_ n5_; (try clear hb); (try clear hb2); (try clear hk); (try clear hi); (try clear ho0)) | ((with_reducible refine gate_dst (N := 7) rfl ?_); refine box_event ?hg (N := 7) ?hd (cs := #[.slice none 0 0]) (t := 44) ?hr ?_; (case hd => rfl); (case hg => rfl); (case hr => first | (go_simp; done) | (go_simp; rfl)); intro gb318 hg w115 hbox hb; have n0_ := aK (Kd.S_below (by (with_reducible repeat (first | apply Kd.S_alloc | apply Kd.S_drewN | apply Kd.S_drew)); exact HO308.out) hb); have n1_ := aK (Kd.R_below (by (with_reducible repeat (first | apply Kd.R_alloc | apply Kd.R_drewN | apply Kd.R_drew)); exact HO313.out) hb); have n2_ := aK (Kd.S_below (by (with_reducible repeat (first | apply Kd.S_alloc | apply Kd.S_drewN | apply Kd.S_drew)); exact HO317.out) hb); have n3_ := aK (bB (by (with_reducible repeat (first | refine bN ?_ _ | refine bD ?_ | refine bA ?_ _)); exact BK302.out) hb); have n4_ := aK (bB (by (with_reducible repeat (first | refine bN ?_ _ | refine bD ?_ | refine bA ?_ _)); exact BK303.out) hb); have n5_ := aK (below_step (by repeat (first | (with_reducible first | exact HB.out | apply bL | apply bM | apply b1 | refine bS ?_ GE302.out | refine bS ?_ GE303.out) | exact HB.out)) hb); have n6_ := aK (hbox); have n7_ := aK ((by rw [hg]; exact (below_size (by repeat (first | (with_reducible first | exact HB.out | apply bL | apply bM | apply b1 | refine bS ?_ GE302.out | refine bS ?_ GE303.out) | exact HB.out))) : w.heap.size ≤ gb318)); have n8_ := aK ((by rw [hg]; exact (below_size (by repeat (first | (with_reducible first | exact HB.out | apply bL | apply bM | apply b1 | refine bS ?_ GE302.out | refine bS ?_ GE303.out) | exact HB.out))) : w.heap.size ≤ gb318)); have n9_ := aK ((by rw [hg]; exact Nat.ne_of_lt (blk_lt (by (with_reducible repeat (first | refine bN ?_ _ | refine bD ?_ | refine bA ?_ _)); exact BK302.out)) : gb302 ≠ gb318)); have n10_ := aK ((by rw [hg]; exact Nat.ne_of_gt (blk_lt (by (with_reducible repeat (first | refine bN ?_ _ | refine bD ?_ | refine bA ?_ _)); exact BK302.out)) : gb318 ≠ gb302)); have n11_ := aK ((by rw [hg]; exact Nat.ne_of_lt (blk_lt (by (with_reducible repeat (first | refine bN ?_ _ | refine bD ?_ | refine bA ?_ _)); exact BK303.out)) : gb303 ≠ gb318)); have n12_ := aK ((by rw [hg]; exact Nat.ne_of_gt (blk_lt (by (with_reducible repeat (first | refine bN ?_ _ | refine bD ?_ | refine bA ?_ _)); exact BK303.out)) : gb318 ≠ gb303)); clear HO308; clear HO313; clear HO317; clear BK302; clear BK303; clear HB; have HO308 := n0_; have HO313 := n1_; have HO317 := n2_; have BK302 := n3_; have BK303 := n4_; have HB := n5_; have BK318 := n6_; have GW318 := n7_; have GE318 := n8_; have NB302_318 := n9_; have NB318_302 := n10_; have NB303_318 := n11_; have NB318_303 := n12_; clear n0_ n1_ n2_ n3_ n4_ n5_ n6_ n7_ n8_ n9_ n10_ n11_ n12_; clear hb hbox hg; obtain ⟨Ao116, co116, eo116⟩ := Kd.S_slice HO317.out; subst eo116; have hnb117 := NB318_302.out; have hnc117 := NB302_318.out; have hnb118 := NB318_303.out; have hnc118 := NB303_318.out; have hcz119_0 : w115.cell? ⟨gb318, 0, none⟩ = some (.slice none 0 0) := (bC BK318.out 0).trans rfl; have hfz119_0 := blk_frozen BK318.out 0; have hcz120_0 : w115.cell? ⟨gb303, 0, none⟩ = some (.int .i64 a1_0) := (bC BK303.out 0).trans rfl; have hcz120_1 : w115.cell? ⟨gb303, 1, none⟩ = some (.int .i64 a1_1) := (bC BK303.out 1).trans rfl; have hcz120_2 : w115.cell? ⟨gb303, 2, none⟩ = some (.slice A1_2 l1_2.length c1_2) := (bC BK303.out 2).trans rfl; have hfz120_0 := blk_frozen BK303.out 0; have hfz120_1 := blk_frozen BK303.out 1; have hfz120_2 := blk_frozen BK303.out 2) | ((with_reducible refine gate_callee (f := 24) rfl ?_); refine goesL_ (some 28) rfl rfl Try.func24 (by kernel_rfl) rfl #[.agg #[.int .i64 a1_0, .int .i64 a1_1, .slice A1_2 l1_2.length c1_2]] rfl (by (try simp only [mA, mC, mN]); first | done | rfl) ?_; (with_reducible refine (laws_toPlay.calls k a1_0 a1_1 _ _ l1_2 t319 t320 t321 _ ?side1 ?side2 A23.out).mono ?_); (case side1 => exact Kd.C_below HR1_2.out (by repeat (first | (with_reducible first | exact HB.out | apply bL | apply bM | apply b1 | refine bS ?_ GE302.out | refine bS ?_ GE303.out | refine bS ?_ GE318.out) | exact HB.out))); (case side2 => exact HC1_2.out); rintro e w121 ⟨v322, rfl, ho0, hb⟩; refine ⟨_, rfl, ?_⟩; have n0_ := aK (Kd.S_elder' (by (with_reducible repeat (first | apply Kd.S_alloc | apply Kd.S_drewN | apply Kd.S_drew)); exact (Kd.S_mono (Kd.S_far (p := ⟨gb318, 0, none⟩) (Kd.S_types HO308.out BK318.out (by decide)) (fun _ hk => by first | exact hk.2 | (have h_ := hk; (try simp only [and_assoc, true_and] at h_); (repeat' apply And.intro) <;> first | with_reducible exact h_.1 | with_reducible exact h_.2.1 | with_reducible exact h_.2.2.1 | with_reducible exact h_.2.2.2.1 | with_reducible exact h_.2.2.2.2.1 | with_reducible exact h_.2.2.2.2.2.1 | with_reducible exact h_.2.2.2.2.2.2.1 | with_reducible exact h_.2.2.2.2.2.2.2.1 | with_reducible exact h_.2.2.2.2.2.2.2.2.1 | with_reducible exact h_.2 | with_reducible exact h_.2.2 | with_reducible exact h_.2.2.2 | with_reducible exact h_.2.2.2.2 | with_reducible exact h_.2.2.2.2.2 | with_reducible exact h_.2.2.2.2.2.2 | with_reducible exact h_.2.2.2.2.2.2.2 | with_reducible exact h_.2.2.2.2.2.2.2.2)) (.slice Ao116 t315.length co116)) (fun _ h_ => h_.1))) (Kd.R_base ho0) hb); have n1_ := aK (Kd.R_elder' (by (with_reducible repeat (first | apply Kd.R_alloc | apply Kd.R_drewN | apply Kd.R_drew)); exact (Kd.R_mono (Kd.R_far (p := ⟨gb318, 0, none⟩) (Kd.R_types HO313.out BK318.out (by decide)) (fun _ hk => by first | exact hk.2 | (have h_ := hk; (try simp only [and_assoc, true_and] at h_); (repeat' apply And.intro) <;> first | with_reducible exact h_.1 | with_reducible exact h_.2.1 | with_reducible exact h_.2.2.1 | with_reducible exact h_.2.2.2.1 | with_reducible exact h_.2.2.2.2.1 | with_reducible exact h_.2.2.2.2.2.1 | with_reducible exact h_.2.2.2.2.2.2.1 | with_reducible exact h_.2.2.2.2.2.2.2.1 | with_reducible exact h_.2.2.2.2.2.2.2.2.1 | with_reducible exact h_.2 | with_reducible exact h_.2.2 | with_reducible exact h_.2.2.2 | with_reducible exact h_.2.2.2.2 | with_reducible exact h_.2.2.2.2.2 | with_reducible exact h_.2.2.2.2.2.2 | with_reducible exact h_.2.2.2.2.2.2.2 | with_reducible exact h_.2.2.2.2.2.2.2.2)) (.slice Ao116 t315.length co116)) (fun _ h_ => h_.1))) (Kd.R_base ho0) hb); have n2_ := aK (Kd.S_elder' (by (with_reducible repeat (first | apply Kd.S_alloc | apply Kd.S_drewN | apply Kd.S_drew)); exact (Kd.S_mono (Kd.S_far (p := ⟨gb318, 0, none⟩) (Kd.S_types HO317.out BK318.out (by decide)) (fun _ hk => by first | exact hk.2 | (have h_ := hk; (try simp only [and_assoc, true_and] at h_); (repeat' apply And.intro) <;> first | with_reducible exact h_.1 | with_reducible exact h_.2.1 | with_reducible exact h_.2.2.1 | with_reducible exact h_.2.2.2.1 | with_reducible exact h_.2.2.2.2.1 | with_reducible exact h_.2.2.2.2.2.1 | with_reducible exact h_.2.2.2.2.2.2.1 | with_reducible exact h_.2.2.2.2.2.2.2.1 | with_reducible exact h_.2.2.2.2.2.2.2.2.1 | with_reducible exact h_.2 | with_reducible exact h_.2.2 | with_reducible exact h_.2.2.2 | with_reducible exact h_.2.2.2.2 | with_reducible exact h_.2.2.2.2.2 | with_reducible exact h_.2.2.2.2.2.2 | with_reducible exact h_.2.2.2.2.2.2.2 | with_reducible exact h_.2.2.2.2.2.2.2.2)) (.slice Ao116 t315.length co116)) (fun _ h_ => h_.1))) (Kd.R_base ho0) hb); have n3_ := aK (Kd.R_lower (Kd.R_new' ho0 (Kd.R_lt (by (with_reducible repeat (first | apply Kd.R_alloc | apply Kd.R_drewN | apply Kd.R_drew)); exact (Kd.R_mono (Kd.R_far (p := ⟨gb318, 0, none⟩) (Kd.R_types HO313.out BK318.out (by decide)) (fun _ hk => by first | exact hk.2 | (have h_ := hk; (try simp only [and_assoc, true_and] at h_); (repeat' apply And.intro) <;> first | with_reducible exact h_.1 | with_reducible exact h_.2.1 | with_reducible exact h_.2.2.1 | with_reducible exact h_.2.2.2.1 | with_reducible exact h_.2.2.2.2.1 | with_reducible exact h_.2.2.2.2.2.1 | with_reducible exact h_.2.2.2.2.2.2.1 | with_reducible exact h_.2.2.2.2.2.2.2.1 | with_reducible exact h_.2.2.2.2.2.2.2.2.1 | with_reducible exact h_.2 | with_reducible exact h_.2.2 | with_reducible exact h_.2.2.2 | with_reducible exact h_.2.2.2.2 | with_reducible exact h_.2.2.2.2.2 | with_reducible exact h_.2.2.2.2.2.2 | with_reducible exact h_.2.2.2.2.2.2.2 | with_reducible exact h_.2.2.2.2.2.2.2.2)) (.slice Ao116 t315.length co116)) (fun _ h_ => h_.1))))) (below_size (by repeat (first | (with_reducible first | exact HB.out | apply bL | apply bM | apply b1 | refine bS ?_ GE302.out | refine bS ?_ GE303.out | refine bS ?_ GE318.out) | exact HB.out)))); have n4_ := aK (bB (g := gb302) (o := .cells #[.slice A0_0 l0_0.length c0_0] 41 (0, 0)) (by (with_reducible repeat (first | refine bN ?_ _ | refine bD ?_ | refine bA ?_ _)); refine blk_far ?_ NB302_318.out _; (with_reducible repeat (first | refine bN ?_ _ | refine bD ?_ | refine bA ?_ _)); exact BK302.out) hb); have n5_ := aK (bB (g := gb303) (o := .cells #[.int .i64 a1_0, .int .i64 a1_1, .slice A1_2 l1_2.length c1_2] 24 (0, 0)) (by (with_reducible repeat (first | refine bN ?_ _ | refine bD ?_ | refine bA ?_ _)); refine blk_far ?_ NB303_318.out _; (with_reducible repeat (first | refine bN ?_ _ | refine bD ?_ | refine bA ?_ _)); exact BK303.out) hb); have n6_ := aK (bB (g := gb318) (o := .cells #[.slice Ao116 t315.length co116] 44 (0, 0)) (by (with_reducible repeat (first | refine bN ?_ _ | refine bD ?_ | refine bA ?_ _)); refine blk_put (cs := #[.slice none 0 0]) ?_ 0 _ rfl; (with_reducible repeat (first | refine bN ?_ _ | refine bD ?_ | refine bA ?_ _)); exact BK318.out) hb); have n7_ := aK (below_step (by repeat (first | (with_reducible first | exact HB.out | apply bL | apply bM | apply b1 | refine bS ?_ GE302.out | refine bS ?_ GE303.out | refine bS ?_ GE318.out) | exact HB.out)) hb); clear HO308; clear HO313; clear HO317; clear BK302; clear BK303; clear BK318; clear HB; have HO308 := n0_; have HO313 := n1_; have HO317 := n2_; have HO323 := n3_; have BK302 := n4_; have BK303 := n5_; have BK318 := n6_; have HB := n7_; clear n0_ n1_ n2_ n3_ n4_ n5_ n6_ n7_; (try clear hb); (try clear hb2); (try clear hk); (try clear hi); (try clear ho0)) | ((with_reducible refine gate_dst (N := 8) rfl ?_); refine box_event ?hg (N := 8) ?hd (cs := #[.int .i64 0, .int .i64 0, .slice none 0 0]) (t := 27) ?hr ?_; (case hd => rfl); (case hg => rfl); (case hr => first | (go_simp; done) | (go_simp; rfl)); intro gb324 hg w122 hbox hb; have n0_ := aK (Kd.S_below (by (with_reducible repeat (first | apply Kd.S_alloc | apply Kd.S_drewN | apply Kd.S_drew)); exact HO308.out) hb); have n1_ := aK (Kd.R_below (by (with_reducible repeat (first | apply Kd.R_alloc | apply Kd.R_drewN | apply Kd.R_drew)); exact HO313.out) hb); have n2_ := aK (Kd.S_below (by (with_reducible repeat (first | apply Kd.S_alloc | apply Kd.S_drewN | apply Kd.S_drew)); exact HO317.out) hb); have n3_ := aK (Kd.R_below (by (with_reducible repeat (first | apply Kd.R_alloc | apply Kd.R_drewN | apply Kd.R_drew)); exact HO323.out) hb); have n4_ := aK (bB (by (with_reducible repeat (first | refine bN ?_ _ | refine bD ?_ | refine bA ?_ _)); exact BK302.out) hb); have n5_ := aK (bB (by (with_reducible repeat (first | refine bN ?_ _ | refine bD ?_ | refine bA ?_ _)); exact BK303.out) hb); have n6_ := aK (bB (by (with_reducible repeat (first | refine bN ?_ _ | refine bD ?_ | refine bA ?_ _)); exact BK318.out) hb); have n7_ := aK (below_step (by repeat (first | (with_reducible first | exact HB.out | apply bL | apply bM | apply b1 | refine bS ?_ GE302.out | refine bS ?_ GE303.out | refine bS ?_ GE318.out) | exact HB.out)) hb); have n8_ := aK (hbox); have n9_ := aK ((by rw [hg]; exact (below_size (by repeat (first | (with_reducible first | exact HB.out | apply bL | apply bM | apply b1 | refine bS ?_ GE302.out | refine bS ?_ GE303.out | refine bS ?_ GE318.out) | exact HB.out))) : w.heap.size ≤ gb324)); have n10_ := aK ((by rw [hg]; exact (below_size (by repeat (first | (with_reducible first | exact HB.out | apply bL | apply bM | apply b1 | refine bS ?_ GE302.out | refine bS ?_ GE303.out | refine bS ?_ GE318.out) | exact HB.out))) : w.heap.size ≤ gb324)); have n11_ := aK ((by rw [hg]; exact Nat.ne_of_lt (blk_lt (by (with_reducible repeat (first | refine bN ?_ _ | refine bD ?_ | refine bA ?_ _)); exact BK302.out)) : gb302 ≠ gb324)); have n12_ := aK ((by rw [hg]; exact Nat.ne_of_gt (blk_lt (by (with_reducible repeat (first | refine bN ?_ _ | refine bD ?_ | refine bA ?_ _)); exact BK302.out)) : gb324 ≠ gb302)); have n13_ := aK ((by rw [hg]; exact Nat.ne_of_lt (blk_lt (by (with_reducible repeat (first | refine bN ?_ _ | refine bD ?_ | refine bA ?_ _)); exact BK303.out)) : gb303 ≠ gb324)); have n14_ := aK ((by rw [hg]; exact Nat.ne_of_gt (blk_lt (by (with_reducible repeat (first | refine bN ?_ _ | refine bD ?_ | refine bA ?_ _)); exact BK303.out)) : gb324 ≠ gb303)); have n15_ := aK ((by rw [hg]; exact Nat.ne_of_lt (blk_lt (by (with_reducible repeat (first | refine bN ?_ _ | refine bD ?_ | refine bA ?_ _)); exact BK318.out)) : gb318 ≠ gb324)); have n16_ := aK ((by rw [hg]; exact Nat.ne_of_gt (blk_lt (by (with_reducible repeat (first | refine bN ?_ _ | refine bD ?_ | refine bA ?_ _)); exact BK318.out)) : gb324 ≠ gb318)); clear HO308; clear HO313; clear HO317; clear HO323; clear BK302; clear BK303; clear BK318; clear HB; have HO308 := n0_; have HO313 := n1_; have HO317 := n2_; have HO323 := n3_; have BK302 := n4_; have BK303 := n5_; have BK318 := n6_; have HB := n7_; have BK324 := n8_; have GW324 := n9_; have GE324 := n10_; have NB302_324 := n11_; have NB324_302 := n12_; have NB303_324 := n13_; have NB324_303 := n14_; have NB318_324 := n15_; have NB324_318 := n16_; clear n0_ n1_ n2_ n3_ n4_ n5_ n6_ n7_ n8_ n9_ n10_ n11_ n12_ n13_ n14_ n15_ n16_; clear hb hbox hg; have hnb123 := NB324_302.out; have hnc123 := NB302_324.out; have hnb124 := NB324_303.out; have hnc124 := NB303_324.out; have hnb125 := NB324_318.out; have hnc125 := NB318_324.out; have hcz126_0 : w122.cell? ⟨gb324, 0, none⟩ = some (.int .i64 0) := (bC BK324.out 0).trans rfl; have hcz126_1 : w122.cell? ⟨gb324, 1, none⟩ = some (.int .i64 0) := (bC BK324.out 1).trans rfl; have hcz126_2 : w122.cell? ⟨gb324, 2, none⟩ = some (.slice none 0 0) := (bC BK324.out 2).trans rfl; have hfz126_0 := blk_frozen BK324.out 0; have hfz126_1 := blk_frozen BK324.out 1; have hfz126_2 := blk_frozen BK324.out 2; obtain ⟨Ao127, co127, eo127⟩ := Kd.R_slice HO323.out; subst eo127; have hcz128_0 : w122.cell? ⟨gb318, 0, none⟩ = some (.slice Ao116 t315.length co116) := (bC BK318.out 0).trans rfl; have hfz128_0 := blk_frozen BK318.out 0) | ((with_reducible refine gate_callee (f := 43) rfl ?_); refine goesL_ (some 31) rfl rfl Try.func43 (by kernel_rfl) rfl #[.agg #[.slice Ao116 t315.length co116], .agg #[.int .i64 t319, .int .i64 t320, .slice Ao127 t321.length co127]] rfl (by (try simp only [mA, mC, mN]); first | done | rfl) ?_; (with_reducible refine (impl_IsLoosePlay.calls k _ _ t315 t319 t320 _ _ t321 t325 _ ?side1 ?side2 ?side3 ?side4 A24.out).mono ?_); (case side1 => refine (Kd.S_reads' (e := 22) (base := w.heap.size) (ok := fun k_ => (((True ∧ some k_ ≠ (.slice Ao110 t306.length co110 : Value).ownBlock) ∧ some k_ ≠ (.slice Ao111 t311.length co111 : Value).ownBlock) ∧ some k_ ≠ (.slice Ao127 t321.length co127 : Value).ownBlock)) (n := t315.length) (c := co116) ?_).2.2; exact (by (with_reducible repeat (first | apply Kd.S_alloc | apply Kd.S_drewN | apply Kd.S_drew)); exact (Kd.S_mono (Kd.S_far (p := ⟨gb324, 2, none⟩) (Kd.S_far (p := ⟨gb324, 1, none⟩) (Kd.S_far (p := ⟨gb324, 0, none⟩) (Kd.S_types HO317.out BK324.out (by decide)) (fun _ hk => by first | exact hk.2 | (have h_ := hk; (try simp only [and_assoc, true_and] at h_); (repeat' apply And.intro) <;> first | with_reducible exact h_.1 | with_reducible exact h_.2.1 | with_reducible exact h_.2.2.1 | with_reducible exact h_.2.2.2.1 | with_reducible exact h_.2.2.2.2.1 | with_reducible exact h_.2.2.2.2.2.1 | with_reducible exact h_.2.2.2.2.2.2.1 | with_reducible exact h_.2.2.2.2.2.2.2.1 | with_reducible exact h_.2.2.2.2.2.2.2.2.1 | with_reducible exact h_.2 | with_reducible exact h_.2.2 | with_reducible exact h_.2.2.2 | with_reducible exact h_.2.2.2.2 | with_reducible exact h_.2.2.2.2.2 | with_reducible exact h_.2.2.2.2.2.2 | with_reducible exact h_.2.2.2.2.2.2.2 | with_reducible exact h_.2.2.2.2.2.2.2.2)) (.int .i64 t319)) (fun _ hk => by first | exact hk.2 | (have h_ := hk; (try simp only [and_assoc, true_and] at h_); (repeat' apply And.intro) <;> first | with_reducible exact h_.1 | with_reducible exact h_.2.1 | with_reducible exact h_.2.2.1 | with_reducible exact h_.2.2.2.1 | with_reducible exact h_.2.2.2.2.1 | with_reducible exact h_.2.2.2.2.2.1 | with_reducible exact h_.2.2.2.2.2.2.1 | with_reducible exact h_.2.2.2.2.2.2.2.1 | with_reducible exact h_.2.2.2.2.2.2.2.2.1 | with_reducible exact h_.2 | with_reducible exact h_.2.2 | with_reducible exact h_.2.2.2 | with_reducible exact h_.2.2.2.2 | with_reducible exact h_.2.2.2.2.2 | with_reducible exact h_.2.2.2.2.2.2 | with_reducible exact h_.2.2.2.2.2.2.2 | with_reducible exact h_.2.2.2.2.2.2.2.2)) (.int .i64 t320)) (fun _ hk => by first | exact hk.2 | (have h_ := hk; (try simp only [and_assoc, true_and] at h_); (repeat' apply And.intro) <;> first | with_reducible exact h_.1 | with_reducible exact h_.2.1 | with_reducible exact h_.2.2.1 | with_reducible exact h_.2.2.2.1 | with_reducible exact h_.2.2.2.2.1 | with_reducible exact h_.2.2.2.2.2.1 | with_reducible exact h_.2.2.2.2.2.2.1 | with_reducible exact h_.2.2.2.2.2.2.2.1 | with_reducible exact h_.2.2.2.2.2.2.2.2.1 | with_reducible exact h_.2 | with_reducible exact h_.2.2 | with_reducible exact h_.2.2.2 | with_reducible exact h_.2.2.2.2 | with_reducible exact h_.2.2.2.2.2 | with_reducible exact h_.2.2.2.2.2.2 | with_reducible exact h_.2.2.2.2.2.2.2 | with_reducible exact h_.2.2.2.2.2.2.2.2)) (.slice Ao127 t321.length co127)) (fun _ h_ => h_.1)))); (case side2 => exact (Kd.S_reads' HO317.out).2.1); (case side3 => refine (Kd.R_reads' (e := 2) (base := w.heap.size) (ok := fun k_ => (True ∧ some k_ ≠ (.slice Ao111 t311.length co111 : Value).ownBlock)) (n := t321.length) (c := co127) ?_).2.2; exact (by (with_reducible repeat (first | apply Kd.R_alloc | apply Kd.R_drewN | apply Kd.R_drew)); exact (Kd.R_mono (Kd.R_far (p := ⟨gb324, 2, none⟩) (Kd.R_far (p := ⟨gb324, 1, none⟩) (Kd.R_far (p := ⟨gb324, 0, none⟩) (Kd.R_types HO323.out BK324.out (by decide)) (fun _ hk => by first | exact hk.2 | (have h_ := hk; (try simp only [and_assoc, true_and] at h_); (repeat' apply And.intro) <;> first | with_reducible exact h_.1 | with_reducible exact h_.2.1 | with_reducible exact h_.2.2.1 | with_reducible exact h_.2.2.2.1 | with_reducible exact h_.2.2.2.2.1 | with_reducible exact h_.2.2.2.2.2.1 | with_reducible exact h_.2.2.2.2.2.2.1 | with_reducible exact h_.2.2.2.2.2.2.2.1 | with_reducible exact h_.2.2.2.2.2.2.2.2.1 | with_reducible exact h_.2 | with_reducible exact h_.2.2 | with_reducible exact h_.2.2.2 | with_reducible exact h_.2.2.2.2 | with_reducible exact h_.2.2.2.2.2 | with_reducible exact h_.2.2.2.2.2.2 | with_reducible exact h_.2.2.2.2.2.2.2 | with_reducible exact h_.2.2.2.2.2.2.2.2)) (.int .i64 t319)) (fun _ hk => by first | exact hk.2 | (have h_ := hk; (try simp only [and_assoc, true_and] at h_); (repeat' apply And.intro) <;> first | with_reducible exact h_.1 | with_reducible exact h_.2.1 | with_reducible exact h_.2.2.1 | with_reducible exact h_.2.2.2.1 | with_reducible exact h_.2.2.2.2.1 | with_reducible exact h_.2.2.2.2.2.1 | with_reducible exact h_.2.2.2.2.2.2.1 | with_reducible exact h_.2.2.2.2.2.2.2.1 | with_reducible exact h_.2.2.2.2.2.2.2.2.1 | with_reducible exact h_.2 | with_reducible exact h_.2.2 | with_reducible exact h_.2.2.2 | with_reducible exact h_.2.2.2.2 | with_reducible exact h_.2.2.2.2.2 | with_reducible exact h_.2.2.2.2.2.2 | with_reducible exact h_.2.2.2.2.2.2.2 | with_reducible exact h_.2.2.2.2.2.2.2.2)) (.int .i64 t320)) (fun _ hk => by first | exact hk.2 | (have h_ := hk; (try simp only [and_assoc, true_and] at h_); (repeat' apply And.intro) <;> first | with_reducible exact h_.1 | with_reducible exact h_.2.1 | with_reducible exact h_.2.2.1 | with_reducible exact h_.2.2.2.1 | with_reducible exact h_.2.2.2.2.1 | with_reducible exact h_.2.2.2.2.2.1 | with_reducible exact h_.2.2.2.2.2.2.1 | with_reducible exact h_.2.2.2.2.2.2.2.1 | with_reducible exact h_.2.2.2.2.2.2.2.2.1 | with_reducible exact h_.2 | with_reducible exact h_.2.2 | with_reducible exact h_.2.2.2 | with_reducible exact h_.2.2.2.2 | with_reducible exact h_.2.2.2.2.2 | with_reducible exact h_.2.2.2.2.2.2 | with_reducible exact h_.2.2.2.2.2.2.2 | with_reducible exact h_.2.2.2.2.2.2.2.2)) (.slice Ao127 t321.length co127)) (fun _ h_ => h_.1)))); (case side4 => exact (Kd.R_reads' HO323.out).2.1); rintro e w129 ⟨rfl, hb⟩; refine ⟨_, rfl, ?_⟩; have n0_ := aK (Kd.S_below (by (with_reducible repeat (first | apply Kd.S_alloc | apply Kd.S_drewN | apply Kd.S_drew)); exact (Kd.S_mono (Kd.S_far (p := ⟨gb324, 2, none⟩) (Kd.S_far (p := ⟨gb324, 1, none⟩) (Kd.S_far (p := ⟨gb324, 0, none⟩) (Kd.S_types HO308.out BK324.out (by decide)) (fun _ hk => by first | exact hk.2 | (have h_ := hk; (try simp only [and_assoc, true_and] at h_); (repeat' apply And.intro) <;> first | with_reducible exact h_.1 | with_reducible exact h_.2.1 | with_reducible exact h_.2.2.1 | with_reducible exact h_.2.2.2.1 | with_reducible exact h_.2.2.2.2.1 | with_reducible exact h_.2.2.2.2.2.1 | with_reducible exact h_.2.2.2.2.2.2.1 | with_reducible exact h_.2.2.2.2.2.2.2.1 | with_reducible exact h_.2.2.2.2.2.2.2.2.1 | with_reducible exact h_.2 | with_reducible exact h_.2.2 | with_reducible exact h_.2.2.2 | with_reducible exact h_.2.2.2.2 | with_reducible exact h_.2.2.2.2.2 | with_reducible exact h_.2.2.2.2.2.2 | with_reducible exact h_.2.2.2.2.2.2.2 | with_reducible exact h_.2.2.2.2.2.2.2.2)) (.int .i64 t319)) (fun _ hk => by first | exact hk.2 | (have h_ := hk; (try simp only [and_assoc, true_and] at h_); (repeat' apply And.intro) <;> first | with_reducible exact h_.1 | with_reducible exact h_.2.1 | with_reducible exact h_.2.2.1 | with_reducible exact h_.2.2.2.1 | with_reducible exact h_.2.2.2.2.1 | with_reducible exact h_.2.2.2.2.2.1 | with_reducible exact h_.2.2.2.2.2.2.1 | with_reducible exact h_.2.2.2.2.2.2.2.1 | with_reducible exact h_.2.2.2.2.2.2.2.2.1 | with_reducible exact h_.2 | with_reducible exact h_.2.2 | with_reducible exact h_.2.2.2 | with_reducible exact h_.2.2.2.2 | with_reducible exact h_.2.2.2.2.2 | with_reducible exact h_.2.2.2.2.2.2 | with_reducible exact h_.2.2.2.2.2.2.2 | with_reducible exact h_.2.2.2.2.2.2.2.2)) (.int .i64 t320)) (fun _ hk => by first | exact hk.2 | (have h_ := hk; (try simp only [and_assoc, true_and] at h_); (repeat' apply And.intro) <;> first | with_reducible exact h_.1 | with_reducible exact h_.2.1 | with_reducible exact h_.2.2.1 | with_reducible exact h_.2.2.2.1 | with_reducible exact h_.2.2.2.2.1 | with_reducible exact h_.2.2.2.2.2.1 | with_reducible exact h_.2.2.2.2.2.2.1 | with_reducible exact h_.2.2.2.2.2.2.2.1 | with_reducible exact h_.2.2.2.2.2.2.2.2.1 | with_reducible exact h_.2 | with_reducible exact h_.2.2 | with_reducible exact h_.2.2.2 | with_reducible exact h_.2.2.2.2 | with_reducible exact h_.2.2.2.2.2 | with_reducible exact h_.2.2.2.2.2.2 | with_reducible exact h_.2.2.2.2.2.2.2 | with_reducible exact h_.2.2.2.2.2.2.2.2)) (.slice Ao127 t321.length co127)) (fun _ h_ => h_.1))) hb); have n1_ := aK (Kd.R_below (by (with_reducible repeat (first | apply Kd.R_alloc | apply Kd.R_drewN | apply Kd.R_drew)); exact (Kd.R_mono (Kd.R_far (p := ⟨gb324, 2, none⟩) (Kd.R_far (p := ⟨gb324, 1, none⟩) (Kd.R_far (p := ⟨gb324, 0, none⟩) (Kd.R_types HO313.out BK324.out (by decide)) (fun _ hk => by first | exact hk.2 | (have h_ := hk; (try simp only [and_assoc, true_and] at h_); (repeat' apply And.intro) <;> first | with_reducible exact h_.1 | with_reducible exact h_.2.1 | with_reducible exact h_.2.2.1 | with_reducible exact h_.2.2.2.1 | with_reducible exact h_.2.2.2.2.1 | with_reducible exact h_.2.2.2.2.2.1 | with_reducible exact h_.2.2.2.2.2.2.1 | with_reducible exact h_.2.2.2.2.2.2.2.1 | with_reducible exact h_.2.2.2.2.2.2.2.2.1 | with_reducible exact h_.2 | with_reducible exact h_.2.2 | with_reducible exact h_.2.2.2 | with_reducible exact h_.2.2.2.2 | with_reducible exact h_.2.2.2.2.2 | with_reducible exact h_.2.2.2.2.2.2 | with_reducible exact h_.2.2.2.2.2.2.2 | with_reducible exact h_.2.2.2.2.2.2.2.2)) (.int .i64 t319)) (fun _ hk => by first | exact hk.2 | (have h_ := hk; (try simp only [and_assoc, true_and] at h_); (repeat' apply And.intro) <;> first | with_reducible exact h_.1 | with_reducible exact h_.2.1 | with_reducible exact h_.2.2.1 | with_reducible exact h_.2.2.2.1 | with_reducible exact h_.2.2.2.2.1 | with_reducible exact h_.2.2.2.2.2.1 | with_reducible exact h_.2.2.2.2.2.2.1 | with_reducible exact h_.2.2.2.2.2.2.2.1 | with_reducible exact h_.2.2.2.2.2.2.2.2.1 | with_reducible exact h_.2 | with_reducible exact h_.2.2 | with_reducible exact h_.2.2.2 | with_reducible exact h_.2.2.2.2 | with_reducible exact h_.2.2.2.2.2 | with_reducible exact h_.2.2.2.2.2.2 | with_reducible exact h_.2.2.2.2.2.2.2 | with_reducible exact h_.2.2.2.2.2.2.2.2)) (.int .i64 t320)) (fun _ hk => by first | exact hk.2 | (have h_ := hk; (try simp only [and_assoc, true_and] at h_); (repeat' apply And.intro) <;> first | with_reducible exact h_.1 | with_reducible exact h_.2.1 | with_reducible exact h_.2.2.1 | with_reducible exact h_.2.2.2.1 | with_reducible exact h_.2.2.2.2.1 | with_reducible exact h_.2.2.2.2.2.1 | with_reducible exact h_.2.2.2.2.2.2.1 | with_reducible exact h_.2.2.2.2.2.2.2.1 | with_reducible exact h_.2.2.2.2.2.2.2.2.1 | with_reducible exact h_.2 | with_reducible exact h_.2.2 | with_reducible exact h_.2.2.2 | with_reducible exact h_.2.2.2.2 | with_reducible exact h_.2.2.2.2.2 | with_reducible exact h_.2.2.2.2.2.2 | with_reducible exact h_.2.2.2.2.2.2.2 | with_reducible exact h_.2.2.2.2.2.2.2.2)) (.slice Ao127 t321.length co127)) (fun _ h_ => h_.1))) hb); have n2_ := aK (Kd.S_below (by (with_reducible repeat (first | apply Kd.S_alloc | apply Kd.S_drewN | apply Kd.S_drew)); exact (Kd.S_mono (Kd.S_far (p := ⟨gb324, 2, none⟩) (Kd.S_far (p := ⟨gb324, 1, none⟩) (Kd.S_far (p := ⟨gb324, 0, none⟩) (Kd.S_types HO317.out BK324.out (by decide)) (fun _ hk => by first | exact hk.2 | (have h_ := hk; (try simp only [and_assoc, true_and] at h_); (repeat' apply And.intro) <;> first | with_reducible exact h_.1 | with_reducible exact h_.2.1 | with_reducible exact h_.2.2.1 | with_reducible exact h_.2.2.2.1 | with_reducible exact h_.2.2.2.2.1 | with_reducible exact h_.2.2.2.2.2.1 | with_reducible exact h_.2.2.2.2.2.2.1 | with_reducible exact h_.2.2.2.2.2.2.2.1 | with_reducible exact h_.2.2.2.2.2.2.2.2.1 | with_reducible exact h_.2 | with_reducible exact h_.2.2 | with_reducible exact h_.2.2.2 | with_reducible exact h_.2.2.2.2 | with_reducible exact h_.2.2.2.2.2 | with_reducible exact h_.2.2.2.2.2.2 | with_reducible exact h_.2.2.2.2.2.2.2 | with_reducible exact h_.2.2.2.2.2.2.2.2)) (.int .i64 t319)) (fun _ hk => by first | exact hk.2 | (have h_ := hk; (try simp only [and_assoc, true_and] at h_); (repeat' apply And.intro) <;> first | with_reducible exact h_.1 | with_reducible exact h_.2.1 | with_reducible exact h_.2.2.1 | with_reducible exact h_.2.2.2.1 | with_reducible exact h_.2.2.2.2.1 | with_reducible exact h_.2.2.2.2.2.1 | with_reducible exact h_.2.2.2.2.2.2.1 | with_reducible exact h_.2.2.2.2.2.2.2.1 | with_reducible exact h_.2.2.2.2.2.2.2.2.1 | with_reducible exact h_.2 | with_reducible exact h_.2.2 | with_reducible exact h_.2.2.2 | with_reducible exact h_.2.2.2.2 | with_reducible exact h_.2.2.2.2.2 | with_reducible exact h_.2.2.2.2.2.2 | with_reducible exact h_.2.2.2.2.2.2.2 | with_reducible exact h_.2.2.2.2.2.2.2.2)) (.int .i64 t320)) (fun _ hk => by first | exact hk.2 | (have h_ := hk; (try simp only [and_assoc, true_and] at h_); (repeat' apply And.intro) <;> first | with_reducible exact h_.1 | with_reducible exact h_.2.1 | with_reducible exact h_.2.2.1 | with_reducible exact h_.2.2.2.1 | with_reducible exact h_.2.2.2.2.1 | with_reducible exact h_.2.2.2.2.2.1 | with_reducible exact h_.2.2.2.2.2.2.1 | with_reducible exact h_.2.2.2.2.2.2.2.1 | with_reducible exact h_.2.2.2.2.2.2.2.2.1 | with_reducible exact h_.2 | with_reducible exact h_.2.2 | with_reducible exact h_.2.2.2 | with_reducible exact h_.2.2.2.2 | with_reducible exact h_.2.2.2.2.2 | with_reducible exact h_.2.2.2.2.2.2 | with_reducible exact h_.2.2.2.2.2.2.2 | with_reducible exact h_.2.2.2.2.2.2.2.2)) (.slice Ao127 t321.length co127)) (fun _ h_ => h_.1))) hb); have n3_ := aK (Kd.R_below (by (with_reducible repeat (first | apply Kd.R_alloc | apply Kd.R_drewN | apply Kd.R_drew)); exact (Kd.R_mono (Kd.R_far (p := ⟨gb324, 2, none⟩) (Kd.R_far (p := ⟨gb324, 1, none⟩) (Kd.R_far (p := ⟨gb324, 0, none⟩) (Kd.R_types HO323.out BK324.out (by decide)) (fun _ hk => by first | exact hk.2 | (have h_ := hk; (try simp only [and_assoc, true_and] at h_); (repeat' apply And.intro) <;> first | with_reducible exact h_.1 | with_reducible exact h_.2.1 | with_reducible exact h_.2.2.1 | with_reducible exact h_.2.2.2.1 | with_reducible exact h_.2.2.2.2.1 | with_reducible exact h_.2.2.2.2.2.1 | with_reducible exact h_.2.2.2.2.2.2.1 | with_reducible exact h_.2.2.2.2.2.2.2.1 | with_reducible exact h_.2.2.2.2.2.2.2.2.1 | with_reducible exact h_.2 | with_reducible exact h_.2.2 | with_reducible exact h_.2.2.2 | with_reducible exact h_.2.2.2.2 | with_reducible exact h_.2.2.2.2.2 | with_reducible exact h_.2.2.2.2.2.2 | with_reducible exact h_.2.2.2.2.2.2.2 | with_reducible exact h_.2.2.2.2.2.2.2.2)) (.int .i64 t319)) (fun _ hk => by first | exact hk.2 | (have h_ := hk; (try simp only [and_assoc, true_and] at h_); (repeat' apply And.intro) <;> first | with_reducible exact h_.1 | with_reducible exact h_.2.1 | with_reducible exact h_.2.2.1 | with_reducible exact h_.2.2.2.1 | with_reducible exact h_.2.2.2.2.1 | with_reducible exact h_.2.2.2.2.2.1 | with_reducible exact h_.2.2.2.2.2.2.1 | with_reducible exact h_.2.2.2.2.2.2.2.1 | with_reducible exact h_.2.2.2.2.2.2.2.2.1 | with_reducible exact h_.2 | with_reducible exact h_.2.2 | with_reducible exact h_.2.2.2 | with_reducible exact h_.2.2.2.2 | with_reducible exact h_.2.2.2.2.2 | with_reducible exact h_.2.2.2.2.2.2 | with_reducible exact h_.2.2.2.2.2.2.2 | with_reducible exact h_.2.2.2.2.2.2.2.2)) (.int .i64 t320)) (fun _ hk => by first | exact hk.2 | (have h_ := hk; (try simp only [and_assoc, true_and] at h_); (repeat' apply And.intro) <;> first | with_reducible exact h_.1 | with_reducible exact h_.2.1 | with_reducible exact h_.2.2.1 | with_reducible exact h_.2.2.2.1 | with_reducible exact h_.2.2.2.2.1 | with_reducible exact h_.2.2.2.2.2.1 | with_reducible exact h_.2.2.2.2.2.2.1 | with_reducible exact h_.2.2.2.2.2.2.2.1 | with_reducible exact h_.2.2.2.2.2.2.2.2.1 | with_reducible exact h_.2 | with_reducible exact h_.2.2 | with_reducible exact h_.2.2.2 | with_reducible exact h_.2.2.2.2 | with_reducible exact h_.2.2.2.2.2 | with_reducible exact h_.2.2.2.2.2.2 | with_reducible exact h_.2.2.2.2.2.2.2 | with_reducible exact h_.2.2.2.2.2.2.2.2)) (.slice Ao127 t321.length co127)) (fun _ h_ => h_.1))) hb); have n4_ := aK (bB (g := gb302) (o := .cells #[.slice A0_0 l0_0.length c0_0] 41 (0, 0)) (by (with_reducible repeat (first | refine bN ?_ _ | refine bD ?_ | refine bA ?_ _)); refine blk_far ?_ NB302_324.out _; (with_reducible repeat (first | refine bN ?_ _ | refine bD ?_ | refine bA ?_ _)); refine blk_far ?_ NB302_324.out _; (with_reducible repeat (first | refine bN ?_ _ | refine bD ?_ | refine bA ?_ _)); refine blk_far ?_ NB302_324.out _; (with_reducible repeat (first | refine bN ?_ _ | refine bD ?_ | refine bA ?_ _)); exact BK302.out) hb); have n5_ := aK (bB (g := gb303) (o := .cells #[.int .i64 a1_0, .int .i64 a1_1, .slice A1_2 l1_2.length c1_2] 24 (0, 0)) (by (with_reducible repeat (first | refine bN ?_ _ | refine bD ?_ | refine bA ?_ _)); refine blk_far ?_ NB303_324.out _; (with_reducible repeat (first | refine bN ?_ _ | refine bD ?_ | refine bA ?_ _)); refine blk_far ?_ NB303_324.out _; (with_reducible repeat (first | refine bN ?_ _ | refine bD ?_ | refine bA ?_ _)); refine blk_far ?_ NB303_324.out _; (with_reducible repeat (first | refine bN ?_ _ | refine bD ?_ | refine bA ?_ _)); exact BK303.out) hb); have n6_ := aK (bB (g := gb318) (o := .cells #[.slice Ao116 t315.length co116] 44 (0, 0)) (by (with_reducible repeat (first | refine bN ?_ _ | refine bD ?_ | refine bA ?_ _)); refine blk_far ?_ NB318_324.out _; (with_reducible repeat (first | refine bN ?_ _ | refine bD ?_ | refine bA ?_ _)); refine blk_far ?_ NB318_324.out _; (with_reducible repeat (first | refine bN ?_ _ | refine bD ?_ | refine bA ?_ _)); refine blk_far ?_ NB318_324.out _; (with_reducible repeat (first | refine bN ?_ _ | refine bD ?_ | refine bA ?_ _)); exact BK318.out) hb); have n7_ := aK (bB (g := gb324) (o := .cells #[.int .i64 t319, .int .i64 t320, .slice Ao127 t321.length co127] 27 (0, 0)) (by (with_reducible repeat (first | refine bN ?_ _ | refine bD ?_ | refine bA ?_ _)); refine blk_put (cs := #[.int .i64 t319, .int .i64 t320, .slice none 0 0]) ?_ 2 _ rfl; (with_reducible repeat (first | refine bN ?_ _ | refine bD ?_ | refine bA ?_ _)); refine blk_put (cs := #[.int .i64 t319, .int .i64 0, .slice none 0 0]) ?_ 1 _ rfl; (with_reducible repeat (first | refine bN ?_ _ | refine bD ?_ | refine bA ?_ _)); refine blk_put (cs := #[.int .i64 0, .int .i64 0, .slice none 0 0]) ?_ 0 _ rfl; (with_reducible repeat (first | refine bN ?_ _ | refine bD ?_ | refine bA ?_ _)); exact BK324.out) hb); have n8_ := aK (below_step (by repeat (first | (with_reducible first | exact HB.out | apply bL | apply bM | apply b1 | refine bS ?_ GE302.out | refine bS ?_ GE303.out | refine bS ?_ GE318.out | refine bS ?_ GE324.out) | exact HB.out)) hb); clear HO308; clear HO313; clear HO317; clear HO323; clear BK302; clear BK303; clear BK318; clear BK324; clear HB; have HO308 := n0_; have HO313 := n1_; have HO317 := n2_; have HO323 := n3_; have BK302 := n4_; have BK303 := n5_; have BK318 := n6_; have BK324 := n7_; have HB := n8_; clear n0_ n1_ n2_ n3_ n4_ n5_ n6_ n7_ n8_; (try clear hb); (try clear hb2); (try clear hk); (try clear hi)))
      have n0_ := aK (Kd.S_drew HO308.out)
      have n1_ := aK (Kd.R_drew HO313.out)
      have n2_ := aK (Kd.S_drew HO317.out)
      have n3_ := aK (Kd.R_drew HO323.out)
      have n4_ := aK (bD BK302.out)
      have n5_ := aK (bD BK303.out)
      have n6_ := aK (bD BK318.out)
      have n7_ := aK (bD BK324.out)
      have n8_ := aK (b1 HB.out)
      clear HO308
      clear HO313
      clear HO317
      clear HO323
      clear BK302
      clear BK303
      clear BK318
      clear BK324
      clear HB
      have HO308 := n0_
      have HO313 := n1_
      have HO317 := n2_
      have HO323 := n3_
      have BK302 := n4_
      have BK303 := n5_
      have BK318 := n6_
      have BK324 := n7_
      have HB := n8_
      clear n0_ n1_ n2_ n3_ n4_ n5_ n6_ n7_ n8_
      refine start_ (n := 5) (S := fun w' => w'.cell? ⟨gb318, 0, none⟩ = some (.slice Ao116 t315.length co116) ∧ w'.cell? ⟨gb302, 0, none⟩ = some (.slice A0_0 l0_0.length c0_0)) (ds := []) #[false, false, false, false, false] (by kernel_rfl) rfl rfl ⟨(bC BK318.out 0).trans rfl, (bC BK302.out 0).trans rfl⟩ (fun hHeld => ?_)
      generalize w129.drew = w130 at HO308 HO313 HO317 HO323 BK302 BK303 BK318 BK324 HB hHeld ⊢
      refine take_ (i := 0) (N := some 35) (v := ?_) (a' := ?_) #[true, false, false, false, false] rfl rfl (by kernel_rfl) (fun _ _ _ h => h) (Or.inl ⟨by rfl, ?_⟩) hHeld ?_ ?_
      rotate_left
      ·rintro w' ⟨s0, s1⟩
       go_simp
       with_reducible rfl
      rotate_left
      ·simp only [Act.put, lA, l0', lS, i64_w, i32_w]
       rfl
      refine take_ (i := 1) (N := some 36) (v := ?_) (a' := ?_) #[true, true, false, false, false] rfl rfl (by kernel_rfl) (fun _ _ _ h => h) (Or.inl ⟨by rfl, ?_⟩) hHeld ?_ ?_
      rotate_left
      ·rintro w' ⟨s0, s1⟩
       go_simp
       with_reducible rfl
      rotate_left
      ·simp only [Act.put, lA, l0', lS, i64_w, i32_w]
       rfl
      refine one_ (i := 2) (N := some 37) #[true, true, true, false, false] rfl rfl (by kernel_rfl) (by decide) (fun K hK => ?_)
      refine goes_ Try.func42 (by kernel_rfl) rfl #[.agg #[.slice A0_0 l0_0.length c0_0]] (by rfl) rfl rfl (by (try simp only [mA, mC, mN]); first | done | rfl) ?_
      with_reducible refine (laws_toDeal.calls k _ _ l0_0 t326 _ ?side1 ?side2 A56.out).mono ?_
      (case side1 => repeat (first | exact (Kd.C_below HR0_0.out HB.out) | (with_reducible refine Kd.C_alloc ?_ _) | (with_reducible refine Kd.C_drewN ?_ _) | (with_reducible refine Kd.C_drew ?_)))
      (case side2 => exact HC0_0.out)
      rintro e w131 ⟨v327, rfl, ho0, hb⟩
      refine ⟨_, rfl, ?_⟩
      have n0_ := aK (Kd.S_elder' (by (with_reducible repeat (first | apply Kd.S_alloc | apply Kd.S_drewN | apply Kd.S_drew)); exact HO308.out) (Kd.S_base ho0) hb)
      have n1_ := aK (Kd.R_below (by (with_reducible repeat (first | apply Kd.R_alloc | apply Kd.R_drewN | apply Kd.R_drew)); exact HO313.out) hb)
      have n2_ := aK (Kd.S_elder' (by (with_reducible repeat (first | apply Kd.S_alloc | apply Kd.S_drewN | apply Kd.S_drew)); exact HO317.out) (Kd.S_base ho0) hb)
      have n3_ := aK (Kd.R_below (by (with_reducible repeat (first | apply Kd.R_alloc | apply Kd.R_drewN | apply Kd.R_drew)); exact HO323.out) hb)
      have n4_ := aK (Kd.S_lower (Kd.S_new' (Kd.S_new' (Kd.S_new' (Kd.S_new' ho0 (Kd.S_lt (by (with_reducible repeat (first | apply Kd.S_alloc | apply Kd.S_drewN | apply Kd.S_drew)); exact HO308.out))) (Kd.R_lt (by (with_reducible repeat (first | apply Kd.R_alloc | apply Kd.R_drewN | apply Kd.R_drew)); exact HO313.out))) (Kd.S_lt (by (with_reducible repeat (first | apply Kd.S_alloc | apply Kd.S_drewN | apply Kd.S_drew)); exact HO317.out))) (Kd.R_lt (by (with_reducible repeat (first | apply Kd.R_alloc | apply Kd.R_drewN | apply Kd.R_drew)); exact HO323.out))) (below_size (by repeat (first | (with_reducible first | exact HB.out | apply bL | apply bM | apply b1 | refine bS ?_ GE302.out | refine bS ?_ GE303.out | refine bS ?_ GE318.out | refine bS ?_ GE324.out) | exact HB.out))))
      have n5_ := aK (bB (by (with_reducible repeat (first | refine bN ?_ _ | refine bD ?_ | refine bA ?_ _)); exact BK302.out) hb)
      have n6_ := aK (bB (by (with_reducible repeat (first | refine bN ?_ _ | refine bD ?_ | refine bA ?_ _)); exact BK303.out) hb)
      have n7_ := aK (bB (by (with_reducible repeat (first | refine bN ?_ _ | refine bD ?_ | refine bA ?_ _)); exact BK318.out) hb)
      have n8_ := aK (bB (by (with_reducible repeat (first | refine bN ?_ _ | refine bD ?_ | refine bA ?_ _)); exact BK324.out) hb)
      have n9_ := aK (below_step (by repeat (first | (with_reducible first | exact HB.out | apply bL | apply bM | apply b1 | refine bS ?_ GE302.out | refine bS ?_ GE303.out | refine bS ?_ GE318.out | refine bS ?_ GE324.out) | exact HB.out)) hb)
      clear HO308
      clear HO313
      clear HO317
      clear HO323
      clear BK302
      clear BK303
      clear BK318
      clear BK324
      clear HB
      have HO308 := n0_
      have HO313 := n1_
      have HO317 := n2_
      have HO323 := n3_
      have HO328 := n4_
      have BK302 := n5_
      have BK303 := n6_
      have BK318 := n7_
      have BK324 := n8_
      have HB := n9_
      clear n0_ n1_ n2_ n3_ n4_ n5_ n6_ n7_ n8_ n9_
      (try clear hb)
      (try clear hb2)
      (try clear hk)
      (try clear hi)
      (try clear ho0)
      obtain ⟨Ao132, co132, eo132⟩ := Kd.S_slice HO328.out
      (first | subst eo132 | (injection eo132 with f1_ f2_ f3_; have f4_ := f1_.symm; have f5_ := f3_.symm; clear f1_ f2_ f3_; subst f4_; subst f5_))
      refine hK.out _ _ ⟨(bC BK318.out 0).trans rfl, (bC BK302.out 0).trans rfl⟩ (fun hHeld => ?_)
      clear hK K
      refine norm_ (a' := ?_) ?_ ?_
      rotate_left
      ·show Act.put _ (some 37) _ = _
       simp only [Act.put, lA, l0', lS, i64_w, i32_w]
       rfl
      refine one_ (i := 3) (N := some 38) #[true, true, true, true, false] rfl rfl (by kernel_rfl) (by decide) (fun K hK => ?_)
      refine goes_ Try.func44 (by kernel_rfl) rfl #[.agg #[.slice Ao116 t315.length co116], .agg #[.slice Ao132 t326.length co132]] (by rfl) rfl rfl (by (try simp only [mA, mC, mN]); first | done | rfl) ?_
      with_reducible refine (laws_eqDeal.calls k _ _ t315 _ _ t326 true _ ?side1 ?side2 ?side3 ?side4 A57.out).mono ?_
      (case side1 => repeat (first | exact (Kd.S_reads' HO317.out).2.2 | (with_reducible refine Kd.C_alloc ?_ _) | (with_reducible refine Kd.C_drewN ?_ _) | (with_reducible refine Kd.C_drew ?_)))
      (case side2 => exact (Kd.S_reads' HO317.out).2.1)
      (case side3 => repeat (first | exact (Kd.S_reads' HO328.out).2.2 | (with_reducible refine Kd.C_alloc ?_ _) | (with_reducible refine Kd.C_drewN ?_ _) | (with_reducible refine Kd.C_drew ?_)))
      (case side4 => exact (Kd.S_reads' HO328.out).2.1)
      rintro e w133 ⟨rfl, hb⟩
      refine ⟨_, rfl, ?_⟩
      have n0_ := aK (Kd.S_below (by (with_reducible repeat (first | apply Kd.S_alloc | apply Kd.S_drewN | apply Kd.S_drew)); exact HO308.out) hb)
      have n1_ := aK (Kd.R_below (by (with_reducible repeat (first | apply Kd.R_alloc | apply Kd.R_drewN | apply Kd.R_drew)); exact HO313.out) hb)
      have n2_ := aK (Kd.S_below (by (with_reducible repeat (first | apply Kd.S_alloc | apply Kd.S_drewN | apply Kd.S_drew)); exact HO317.out) hb)
      have n3_ := aK (Kd.R_below (by (with_reducible repeat (first | apply Kd.R_alloc | apply Kd.R_drewN | apply Kd.R_drew)); exact HO323.out) hb)
      have n4_ := aK (Kd.S_below (by (with_reducible repeat (first | apply Kd.S_alloc | apply Kd.S_drewN | apply Kd.S_drew)); exact HO328.out) hb)
      have n5_ := aK (bB (by (with_reducible repeat (first | refine bN ?_ _ | refine bD ?_ | refine bA ?_ _)); exact BK302.out) hb)
      have n6_ := aK (bB (by (with_reducible repeat (first | refine bN ?_ _ | refine bD ?_ | refine bA ?_ _)); exact BK303.out) hb)
      have n7_ := aK (bB (by (with_reducible repeat (first | refine bN ?_ _ | refine bD ?_ | refine bA ?_ _)); exact BK318.out) hb)
      have n8_ := aK (bB (by (with_reducible repeat (first | refine bN ?_ _ | refine bD ?_ | refine bA ?_ _)); exact BK324.out) hb)
      have n9_ := aK (below_step (by repeat (first | (with_reducible first | exact HB.out | apply bL | apply bM | apply b1 | refine bS ?_ GE302.out | refine bS ?_ GE303.out | refine bS ?_ GE318.out | refine bS ?_ GE324.out) | exact HB.out)) hb)
      clear HO308
      clear HO313
      clear HO317
      clear HO323
      clear HO328
      clear BK302
      clear BK303
      clear BK318
      clear BK324
      clear HB
      have HO308 := n0_
      have HO313 := n1_
      have HO317 := n2_
      have HO323 := n3_
      have HO328 := n4_
      have BK302 := n5_
      have BK303 := n6_
      have BK318 := n7_
      have BK324 := n8_
      have HB := n9_
      clear n0_ n1_ n2_ n3_ n4_ n5_ n6_ n7_ n8_ n9_
      (try clear hb)
      (try clear hb2)
      (try clear hk)
      (try clear hi)
      refine hK.out _ _ ⟨(bC BK318.out 0).trans rfl, (bC BK302.out 0).trans rfl⟩ (fun hHeld => ?_)
      clear hK K
      refine norm_ (a' := ?_) ?_ ?_
      rotate_left
      ·show Act.put _ (some 38) _ = _
       simp only [Act.put, lA, l0', lS, i64_w, i32_w]
       rfl
      refine pure_ (i := 4) (N := some 39) (v := ?_) (a' := ?_) #[true, true, true, true, true] rfl rfl (by kernel_rfl) (fun _ _ _ h => h) (Or.inl ⟨by rfl, ?_⟩) ?_ ?_
      rotate_left
      ·intro w'
       go_simp
       with_reducible rfl
      rotate_left
      ·simp only [Act.put, lA, l0', lS, i64_w, i32_w]
       rfl
      refine done_ (by kernel_rfl) ?_
      try go_wp2
      have n0_ := aK (Kd.S_drew HO308.out)
      have n1_ := aK (Kd.R_drew HO313.out)
      have n2_ := aK (Kd.S_drew HO317.out)
      have n3_ := aK (Kd.R_drew HO323.out)
      have n4_ := aK (Kd.S_drew HO328.out)
      have n5_ := aK (bD BK302.out)
      have n6_ := aK (bD BK303.out)
      have n7_ := aK (bD BK318.out)
      have n8_ := aK (bD BK324.out)
      have n9_ := aK (b1 HB.out)
      clear HO308
      clear HO313
      clear HO317
      clear HO323
      clear HO328
      clear BK302
      clear BK303
      clear BK318
      clear BK324
      clear HB
      have HO308 := n0_
      have HO313 := n1_
      have HO317 := n2_
      have HO323 := n3_
      have HO328 := n4_
      have BK302 := n5_
      have BK303 := n6_
      have BK318 := n7_
      have BK324 := n8_
      have HB := n9_
      clear n0_ n1_ n2_ n3_ n4_ n5_ n6_ n7_ n8_ n9_
      refine start_ (n := 5) (S := fun w' => w'.cell? ⟨gb324, 0, none⟩ = some (.int .i64 t319) ∧ w'.cell? ⟨gb324, 1, none⟩ = some (.int .i64 t320) ∧ w'.cell? ⟨gb324, 2, none⟩ = some (.slice Ao127 t321.length co127) ∧ w'.cell? ⟨gb303, 0, none⟩ = some (.int .i64 a1_0) ∧ w'.cell? ⟨gb303, 1, none⟩ = some (.int .i64 a1_1) ∧ w'.cell? ⟨gb303, 2, none⟩ = some (.slice A1_2 l1_2.length c1_2)) (ds := []) #[false, false, false, false, false] (by kernel_rfl) rfl rfl ⟨(bC BK324.out 0).trans rfl, (bC BK324.out 1).trans rfl, (bC BK324.out 2).trans rfl, (bC BK303.out 0).trans rfl, (bC BK303.out 1).trans rfl, (bC BK303.out 2).trans rfl⟩ (fun hHeld => ?_)
      generalize w133.drew = w134 at HO308 HO313 HO317 HO323 HO328 BK302 BK303 BK318 BK324 HB hHeld ⊢
      refine take_ (i := 0) (N := some 40) (v := ?_) (a' := ?_) #[true, false, false, false, false] rfl rfl (by kernel_rfl) (fun _ _ _ h => h) (Or.inl ⟨by rfl, ?_⟩) hHeld ?_ ?_
      rotate_left
      ·rintro w' ⟨s0, s1, s2, s3, s4, s5⟩
       go_simp
       with_reducible rfl
      rotate_left
      ·simp only [Act.put, lA, l0', lS, i64_w, i32_w]
       rfl
      refine take_ (i := 1) (N := some 41) (v := ?_) (a' := ?_) #[true, true, false, false, false] rfl rfl (by kernel_rfl) (fun _ _ _ h => h) (Or.inl ⟨by rfl, ?_⟩) hHeld ?_ ?_
      rotate_left
      ·rintro w' ⟨s0, s1, s2, s3, s4, s5⟩
       go_simp
       with_reducible rfl
      rotate_left
      ·simp only [Act.put, lA, l0', lS, i64_w, i32_w]
       rfl
      refine one_ (i := 2) (N := some 42) #[true, true, true, false, false] rfl rfl (by kernel_rfl) (by decide) (fun K hK => ?_)
      refine goes_ Try.func24 (by kernel_rfl) rfl #[.agg #[.int .i64 a1_0, .int .i64 a1_1, .slice A1_2 l1_2.length c1_2]] (by rfl) rfl rfl (by (try simp only [mA, mC, mN]); first | done | rfl) ?_
      with_reducible refine (laws_toPlay.calls k a1_0 a1_1 _ _ l1_2 t330 t331 t332 _ ?side1 ?side2 A59.out).mono ?_
      (case side1 => repeat (first | exact (Kd.C_below HR1_2.out HB.out) | (with_reducible refine Kd.C_alloc ?_ _) | (with_reducible refine Kd.C_drewN ?_ _) | (with_reducible refine Kd.C_drew ?_)))
      (case side2 => exact HC1_2.out)
      rintro e w135 ⟨v333, rfl, ho0, hb⟩
      refine ⟨_, rfl, ?_⟩
      have n0_ := aK (Kd.S_elder' (by (with_reducible repeat (first | apply Kd.S_alloc | apply Kd.S_drewN | apply Kd.S_drew)); exact HO308.out) (Kd.R_base ho0) hb)
      have n1_ := aK (Kd.R_elder' (by (with_reducible repeat (first | apply Kd.R_alloc | apply Kd.R_drewN | apply Kd.R_drew)); exact HO313.out) (Kd.R_base ho0) hb)
      have n2_ := aK (Kd.S_elder' (by (with_reducible repeat (first | apply Kd.S_alloc | apply Kd.S_drewN | apply Kd.S_drew)); exact HO317.out) (Kd.R_base ho0) hb)
      have n3_ := aK (Kd.R_elder' (by (with_reducible repeat (first | apply Kd.R_alloc | apply Kd.R_drewN | apply Kd.R_drew)); exact HO323.out) (Kd.R_base ho0) hb)
      have n4_ := aK (Kd.S_elder' (by (with_reducible repeat (first | apply Kd.S_alloc | apply Kd.S_drewN | apply Kd.S_drew)); exact HO328.out) (Kd.R_base ho0) hb)
      have n5_ := aK (Kd.R_lower (Kd.R_new' (Kd.R_new' ho0 (Kd.R_lt (by (with_reducible repeat (first | apply Kd.R_alloc | apply Kd.R_drewN | apply Kd.R_drew)); exact HO313.out))) (Kd.R_lt (by (with_reducible repeat (first | apply Kd.R_alloc | apply Kd.R_drewN | apply Kd.R_drew)); exact HO323.out))) (below_size (by repeat (first | (with_reducible first | exact HB.out | apply bL | apply bM | apply b1 | refine bS ?_ GE302.out | refine bS ?_ GE303.out | refine bS ?_ GE318.out | refine bS ?_ GE324.out) | exact HB.out))))
      have n6_ := aK (bB (by (with_reducible repeat (first | refine bN ?_ _ | refine bD ?_ | refine bA ?_ _)); exact BK302.out) hb)
      have n7_ := aK (bB (by (with_reducible repeat (first | refine bN ?_ _ | refine bD ?_ | refine bA ?_ _)); exact BK303.out) hb)
      have n8_ := aK (bB (by (with_reducible repeat (first | refine bN ?_ _ | refine bD ?_ | refine bA ?_ _)); exact BK318.out) hb)
      have n9_ := aK (bB (by (with_reducible repeat (first | refine bN ?_ _ | refine bD ?_ | refine bA ?_ _)); exact BK324.out) hb)
      have n10_ := aK (below_step (by repeat (first | (with_reducible first | exact HB.out | apply bL | apply bM | apply b1 | refine bS ?_ GE302.out | refine bS ?_ GE303.out | refine bS ?_ GE318.out | refine bS ?_ GE324.out) | exact HB.out)) hb)
      clear HO308
      clear HO313
      clear HO317
      clear HO323
      clear HO328
      clear BK302
      clear BK303
      clear BK318
      clear BK324
      clear HB
      have HO308 := n0_
      have HO313 := n1_
      have HO317 := n2_
      have HO323 := n3_
      have HO328 := n4_
      have HO334 := n5_
      have BK302 := n6_
      have BK303 := n7_
      have BK318 := n8_
      have BK324 := n9_
      have HB := n10_
      clear n0_ n1_ n2_ n3_ n4_ n5_ n6_ n7_ n8_ n9_ n10_
      (try clear hb)
      (try clear hb2)
      (try clear hk)
      (try clear hi)
      (try clear ho0)
      obtain ⟨Ao136, co136, eo136⟩ := Kd.R_slice HO334.out
      (first | subst eo136 | (injection eo136 with f1_ f2_ f3_; have f4_ := f1_.symm; have f5_ := f3_.symm; clear f1_ f2_ f3_; subst f4_; subst f5_))
      refine hK.out _ _ ⟨(bC BK324.out 0).trans rfl, (bC BK324.out 1).trans rfl, (bC BK324.out 2).trans rfl, (bC BK303.out 0).trans rfl, (bC BK303.out 1).trans rfl, (bC BK303.out 2).trans rfl⟩ (fun hHeld => ?_)
      clear hK K
      refine norm_ (a' := ?_) ?_ ?_
      rotate_left
      ·show Act.put _ (some 42) _ = _
       simp only [Act.put, lA, l0', lS, i64_w, i32_w]
       rfl
      refine one_ (i := 3) (N := some 43) #[true, true, true, true, false] rfl rfl (by kernel_rfl) (by decide) (fun K hK => ?_)
      refine goes_ Try.func26 (by kernel_rfl) rfl #[.agg #[.int .i64 t319, .int .i64 t320, .slice Ao127 t321.length co127], .agg #[.int .i64 t330, .int .i64 t331, .slice Ao136 t332.length co136]] (by rfl) rfl rfl (by (try simp only [mA, mC, mN]); first | done | rfl) ?_
      with_reducible refine (laws_eqPlay.calls k t319 t320 _ _ t321 t330 t331 _ _ t332 false _ ?side1 ?side2 ?side3 ?side4 A60.out).mono ?_
      (case side1 => repeat (first | exact (Kd.R_reads' HO323.out).2.2 | (with_reducible refine Kd.C_alloc ?_ _) | (with_reducible refine Kd.C_drewN ?_ _) | (with_reducible refine Kd.C_drew ?_)))
      (case side2 => exact (Kd.R_reads' HO323.out).2.1)
      (case side3 => repeat (first | exact (Kd.R_reads' HO334.out).2.2 | (with_reducible refine Kd.C_alloc ?_ _) | (with_reducible refine Kd.C_drewN ?_ _) | (with_reducible refine Kd.C_drew ?_)))
      (case side4 => exact (Kd.R_reads' HO334.out).2.1)
      rintro e w137 ⟨rfl, hb⟩
      refine ⟨_, rfl, ?_⟩
      have n0_ := aK (Kd.S_below (by (with_reducible repeat (first | apply Kd.S_alloc | apply Kd.S_drewN | apply Kd.S_drew)); exact HO308.out) hb)
      have n1_ := aK (Kd.R_below (by (with_reducible repeat (first | apply Kd.R_alloc | apply Kd.R_drewN | apply Kd.R_drew)); exact HO313.out) hb)
      have n2_ := aK (Kd.S_below (by (with_reducible repeat (first | apply Kd.S_alloc | apply Kd.S_drewN | apply Kd.S_drew)); exact HO317.out) hb)
      have n3_ := aK (Kd.R_below (by (with_reducible repeat (first | apply Kd.R_alloc | apply Kd.R_drewN | apply Kd.R_drew)); exact HO323.out) hb)
      have n4_ := aK (Kd.S_below (by (with_reducible repeat (first | apply Kd.S_alloc | apply Kd.S_drewN | apply Kd.S_drew)); exact HO328.out) hb)
      have n5_ := aK (Kd.R_below (by (with_reducible repeat (first | apply Kd.R_alloc | apply Kd.R_drewN | apply Kd.R_drew)); exact HO334.out) hb)
      have n6_ := aK (bB (by (with_reducible repeat (first | refine bN ?_ _ | refine bD ?_ | refine bA ?_ _)); exact BK302.out) hb)
      have n7_ := aK (bB (by (with_reducible repeat (first | refine bN ?_ _ | refine bD ?_ | refine bA ?_ _)); exact BK303.out) hb)
      have n8_ := aK (bB (by (with_reducible repeat (first | refine bN ?_ _ | refine bD ?_ | refine bA ?_ _)); exact BK318.out) hb)
      have n9_ := aK (bB (by (with_reducible repeat (first | refine bN ?_ _ | refine bD ?_ | refine bA ?_ _)); exact BK324.out) hb)
      have n10_ := aK (below_step (by repeat (first | (with_reducible first | exact HB.out | apply bL | apply bM | apply b1 | refine bS ?_ GE302.out | refine bS ?_ GE303.out | refine bS ?_ GE318.out | refine bS ?_ GE324.out) | exact HB.out)) hb)
      clear HO308
      clear HO313
      clear HO317
      clear HO323
      clear HO328
      clear HO334
      clear BK302
      clear BK303
      clear BK318
      clear BK324
      clear HB
      have HO308 := n0_
      have HO313 := n1_
      have HO317 := n2_
      have HO323 := n3_
      have HO328 := n4_
      have HO334 := n5_
      have BK302 := n6_
      have BK303 := n7_
      have BK318 := n8_
      have BK324 := n9_
      have HB := n10_
      clear n0_ n1_ n2_ n3_ n4_ n5_ n6_ n7_ n8_ n9_ n10_
      (try clear hb)
      (try clear hb2)
      (try clear hk)
      (try clear hi)
      refine hK.out _ _ ⟨(bC BK324.out 0).trans rfl, (bC BK324.out 1).trans rfl, (bC BK324.out 2).trans rfl, (bC BK303.out 0).trans rfl, (bC BK303.out 1).trans rfl, (bC BK303.out 2).trans rfl⟩ (fun hHeld => ?_)
      clear hK K
      refine norm_ (a' := ?_) ?_ ?_
      rotate_left
      ·show Act.put _ (some 43) _ = _
       simp only [Act.put, lA, l0', lS, i64_w, i32_w]
       rfl
      refine pure_ (i := 4) (N := some 44) (v := ?_) (a' := ?_) #[true, true, true, true, true] rfl rfl (by kernel_rfl) (fun _ _ _ h => h) (Or.inl ⟨by rfl, ?_⟩) ?_ ?_
      rotate_left
      ·intro w'
       go_simp
       with_reducible rfl
      rotate_left
      ·simp only [Act.put, lA, l0', lS, i64_w, i32_w]
       rfl
      refine done_ (by kernel_rfl) ?_
      try go_wp2
      go_ret
      exact ⟨by first | rfl | (simp [errW_none, errW_some] <;> rfl) | (simp [*, errW_none, errW_some] <;> rfl), by repeat (first | (with_reducible first | exact HB.out | apply bL | apply bM | apply b1 | refine bS ?_ GE302.out | refine bS ?_ GE303.out | refine bS ?_ GE318.out | refine bS ?_ GE324.out) | exact HB.out)⟩
    ·replace c58 := Bool.eq_false_iff.mpr c58
     subst c58
     have H1 : (some false) = some r := by rw [if_neg (show ¬ (false = true) by decide)] at H; exact H
     clear H
     have H := H1
     clear H1
     obtain rfl := Option.some.inj H
     go_enter Try.func8, Try.ntmps8
     try go_wp2_with (first | ((with_reducible refine gate_dst (N := 2) rfl ?_); refine box_event ?hg (N := 2) ?hd (cs := #[.slice A0_0 l0_0.length c0_0]) (t := 41) ?hr ?_; (case hd => rfl); (case hg => rfl); (case hr => first | (go_simp; done) | (go_simp; rfl)); intro gb302 hg w138 hbox hb; have n0_ := aK (below_step (by repeat (first | (with_reducible first | exact HB.out | apply bL | apply bM | apply b1) | exact HB.out)) hb); have n1_ := aK (hbox); have n2_ := aK ((by rw [hg]; exact (below_size (by repeat (first | (with_reducible first | exact HB.out | apply bL | apply bM | apply b1) | exact HB.out))) : w.heap.size ≤ gb302)); have n3_ := aK ((by rw [hg]; exact (below_size (by repeat (first | (with_reducible first | exact HB.out | apply bL | apply bM | apply b1) | exact HB.out))) : w.heap.size ≤ gb302)); clear HB; have HB := n0_; have BK302 := n1_; have GW302 := n2_; have GE302 := n3_; clear n0_ n1_ n2_ n3_; clear hb hbox hg) | ((with_reducible refine gate_dst (N := 3) rfl ?_); refine box_event ?hg (N := 3) ?hd (cs := #[.int .i64 a1_0, .int .i64 a1_1, .slice A1_2 l1_2.length c1_2]) (t := 24) ?hr ?_; (case hd => rfl); (case hg => rfl); (case hr => first | (go_simp; done) | (go_simp; rfl)); intro gb303 hg w139 hbox hb; have n0_ := aK (bB (by (with_reducible repeat (first | refine bN ?_ _ | refine bD ?_ | refine bA ?_ _)); exact BK302.out) hb); have n1_ := aK (below_step (by repeat (first | (with_reducible first | exact HB.out | apply bL | apply bM | apply b1 | refine bS ?_ GE302.out) | exact HB.out)) hb); have n2_ := aK (hbox); have n3_ := aK ((by rw [hg]; exact (below_size (by repeat (first | (with_reducible first | exact HB.out | apply bL | apply bM | apply b1 | refine bS ?_ GE302.out) | exact HB.out))) : w.heap.size ≤ gb303)); have n4_ := aK ((by rw [hg]; exact (below_size (by repeat (first | (with_reducible first | exact HB.out | apply bL | apply bM | apply b1 | refine bS ?_ GE302.out) | exact HB.out))) : w.heap.size ≤ gb303)); have n5_ := aK ((by rw [hg]; exact Nat.ne_of_lt (blk_lt (by (with_reducible repeat (first | refine bN ?_ _ | refine bD ?_ | refine bA ?_ _)); exact BK302.out)) : gb302 ≠ gb303)); have n6_ := aK ((by rw [hg]; exact Nat.ne_of_gt (blk_lt (by (with_reducible repeat (first | refine bN ?_ _ | refine bD ?_ | refine bA ?_ _)); exact BK302.out)) : gb303 ≠ gb302)); clear BK302; clear HB; have BK302 := n0_; have HB := n1_; have BK303 := n2_; have GW303 := n3_; have GE303 := n4_; have NB302_303 := n5_; have NB303_302 := n6_; clear n0_ n1_ n2_ n3_ n4_ n5_ n6_; clear hb hbox hg; have hnb140 := NB302_303.out; have hnc140 := NB303_302.out; have hcz141_0 : w139.cell? ⟨gb302, 0, none⟩ = some (.slice A0_0 l0_0.length c0_0) := (bC BK302.out 0).trans rfl; have hfz141_0 := blk_frozen BK302.out 0) | ((with_reducible refine gate_callee (f := 40) rfl ?_); refine goesL_ (some 12) rfl rfl Try.func40 (by kernel_rfl) rfl #[.agg #[.slice A0_0 l0_0.length c0_0], .int .i64 1048576] rfl (by (try simp only [mA, mC, mN]); first | done | rfl) ?_; (with_reducible refine (laws_szDeal.calls k _ _ l0_0 1048576 t304 _ ?side1 ?side2 A3.out).mono ?_); (case side1 => repeat (first | exact (Kd.C_below HR0_0.out HB.out) | (with_reducible refine Kd.C_alloc ?_ _) | (with_reducible refine Kd.C_drewN ?_ _) | (with_reducible refine Kd.C_drew ?_))); (case side2 => exact HC0_0.out); rintro e w142 ⟨rfl, hb⟩; refine ⟨_, rfl, ?_⟩; have n0_ := aK (bB (by (with_reducible repeat (first | refine bN ?_ _ | refine bD ?_ | refine bA ?_ _)); exact BK302.out) hb); have n1_ := aK (bB (by (with_reducible repeat (first | refine bN ?_ _ | refine bD ?_ | refine bA ?_ _)); exact BK303.out) hb); have n2_ := aK (below_step (by repeat (first | (with_reducible first | exact HB.out | apply bL | apply bM | apply b1 | refine bS ?_ GE302.out | refine bS ?_ GE303.out) | exact HB.out)) hb); clear BK302; clear BK303; clear HB; have BK302 := n0_; have BK303 := n1_; have HB := n2_; clear n0_ n1_ n2_; (try clear hb); (try clear hb2); (try clear hk); (try clear hi); have hcz143_0 : w142.cell? ⟨gb303, 0, none⟩ = some (.int .i64 a1_0) := (bC BK303.out 0).trans rfl; have hcz143_1 : w142.cell? ⟨gb303, 1, none⟩ = some (.int .i64 a1_1) := (bC BK303.out 1).trans rfl; have hcz143_2 : w142.cell? ⟨gb303, 2, none⟩ = some (.slice A1_2 l1_2.length c1_2) := (bC BK303.out 2).trans rfl; have hfz143_0 := blk_frozen BK303.out 0; have hfz143_1 := blk_frozen BK303.out 1; have hfz143_2 := blk_frozen BK303.out 2) | ((with_reducible refine gate_callee (f := 22) rfl ?_); refine goesL_ (some 17) rfl rfl Try.func22 (by kernel_rfl) rfl #[.agg #[.int .i64 a1_0, .int .i64 a1_1, .slice A1_2 l1_2.length c1_2], .int .i64 t304] rfl (by (try simp only [mA, mC, mN]); first | done | rfl) ?_; (with_reducible refine (laws_szPlay.calls a1_0 a1_1 _ _ l1_2 t304 t305 _ ?side1 ?side2 A10.out).mono ?_); (case side1 => repeat (first | exact (Kd.C_below HR1_2.out HB.out) | (with_reducible refine Kd.C_alloc ?_ _) | (with_reducible refine Kd.C_drewN ?_ _) | (with_reducible refine Kd.C_drew ?_))); (case side2 => exact HC1_2.out); rintro e w144 ⟨rfl, hb⟩; refine ⟨_, rfl, ?_⟩; have n0_ := aK (bB (by (with_reducible repeat (first | refine bN ?_ _ | refine bD ?_ | refine bA ?_ _)); exact BK302.out) hb); have n1_ := aK (bB (by (with_reducible repeat (first | refine bN ?_ _ | refine bD ?_ | refine bA ?_ _)); exact BK303.out) hb); have n2_ := aK (below_step (by repeat (first | (with_reducible first | exact HB.out | apply bL | apply bM | apply b1 | refine bS ?_ GE302.out | refine bS ?_ GE303.out) | exact HB.out)) hb); clear BK302; clear BK303; clear HB; have BK302 := n0_; have BK303 := n1_; have HB := n2_; clear n0_ n1_ n2_; (try clear hb); (try clear hb2); (try clear hk); (try clear hi)))
     have n0_ := aK (bD BK302.out)
     have n1_ := aK (bD BK303.out)
     have n2_ := aK (b1 HB.out)
     clear BK302
     clear BK303
     clear HB
     have BK302 := n0_
     have BK303 := n1_
     have HB := n2_
     clear n0_ n1_ n2_
     refine start_ (n := 6) (S := fun w' => w'.cell? ⟨gb302, 0, none⟩ = some (.slice A0_0 l0_0.length c0_0) ∧ w'.cell? ⟨gb303, 0, none⟩ = some (.int .i64 a1_0) ∧ w'.cell? ⟨gb303, 1, none⟩ = some (.int .i64 a1_1) ∧ w'.cell? ⟨gb303, 2, none⟩ = some (.slice A1_2 l1_2.length c1_2)) (ds := []) #[false, false, false, false, false, false] (by kernel_rfl) rfl rfl ⟨(bC BK302.out 0).trans rfl, (bC BK303.out 0).trans rfl, (bC BK303.out 1).trans rfl, (bC BK303.out 2).trans rfl⟩ (fun hHeld => ?_)
     generalize w144.drew = w145 at BK302 BK303 HB hHeld ⊢
     refine take_ (i := 0) (N := some 20) (v := ?_) (a' := ?_) #[true, false, false, false, false, false] rfl rfl (by kernel_rfl) (fun _ _ _ h => h) (Or.inl ⟨by rfl, ?_⟩) hHeld ?_ ?_
     rotate_left
     ·rintro w' ⟨s0, s1, s2, s3⟩
      go_simp
      with_reducible rfl
     rotate_left
     ·simp only [Act.put, lA, l0', lS, i64_w, i32_w]
      rfl
     refine take_ (i := 2) (N := some 22) (v := ?_) (a' := ?_) #[true, false, true, false, false, false] rfl rfl (by kernel_rfl) (fun _ _ _ h => h) (Or.inl ⟨by rfl, ?_⟩) hHeld ?_ ?_
     rotate_left
     ·rintro w' ⟨s0, s1, s2, s3⟩
      go_simp
      with_reducible rfl
     rotate_left
     ·simp only [Act.put, lA, l0', lS, i64_w, i32_w]
      rfl
     refine one_ (i := 1) (N := some 21) #[true, true, true, false, false, false] rfl rfl (by kernel_rfl) (by decide) (fun K hK => ?_)
     refine goes_ Try.func42 (by kernel_rfl) rfl #[.agg #[.slice A0_0 l0_0.length c0_0]] (by rfl) rfl rfl (by (try simp only [mA, mC, mN]); first | done | rfl) ?_
     with_reducible refine (laws_toDeal.calls k _ _ l0_0 t306 _ ?side1 ?side2 A19.out).mono ?_
     (case side1 => repeat (first | exact (Kd.C_below HR0_0.out HB.out) | (with_reducible refine Kd.C_alloc ?_ _) | (with_reducible refine Kd.C_drewN ?_ _) | (with_reducible refine Kd.C_drew ?_)))
     (case side2 => exact HC0_0.out)
     rintro e w146 ⟨v307, rfl, ho0, hb⟩
     refine ⟨_, rfl, ?_⟩
     have n0_ := aK (Kd.S_lower ho0 (below_size (by repeat (first | (with_reducible first | exact HB.out | apply bL | apply bM | apply b1 | refine bS ?_ GE302.out | refine bS ?_ GE303.out) | exact HB.out))))
     have n1_ := aK (bB (by (with_reducible repeat (first | refine bN ?_ _ | refine bD ?_ | refine bA ?_ _)); exact BK302.out) hb)
     have n2_ := aK (bB (by (with_reducible repeat (first | refine bN ?_ _ | refine bD ?_ | refine bA ?_ _)); exact BK303.out) hb)
     have n3_ := aK (below_step (by repeat (first | (with_reducible first | exact HB.out | apply bL | apply bM | apply b1 | refine bS ?_ GE302.out | refine bS ?_ GE303.out) | exact HB.out)) hb)
     clear BK302
     clear BK303
     clear HB
     have HO308 := n0_
     have BK302 := n1_
     have BK303 := n2_
     have HB := n3_
     clear n0_ n1_ n2_ n3_
     (try clear hb)
     (try clear hb2)
     (try clear hk)
     (try clear hi)
     (try clear ho0)
     refine hK.out _ _ ⟨(bC BK302.out 0).trans rfl, (bC BK303.out 0).trans rfl, (bC BK303.out 1).trans rfl, (bC BK303.out 2).trans rfl⟩ (fun hHeld => ?_)
     clear hK K
     refine norm_ (a' := ?_) ?_ ?_
     rotate_left
     ·show Act.put _ (some 21) _ = _
      simp only [Act.put, lA, l0', lS, i64_w, i32_w]
      rfl
     refine one_ (i := 3) (N := some 23) #[true, true, true, true, false, false] rfl rfl (by kernel_rfl) (by decide) (fun K hK => ?_)
     refine goes_ Try.func24 (by kernel_rfl) rfl #[.agg #[.int .i64 a1_0, .int .i64 a1_1, .slice A1_2 l1_2.length c1_2]] (by rfl) rfl rfl (by (try simp only [mA, mC, mN]); first | done | rfl) ?_
     with_reducible refine (laws_toPlay.calls k a1_0 a1_1 _ _ l1_2 t309 t310 t311 _ ?side1 ?side2 A20.out).mono ?_
     (case side1 => repeat (first | exact (Kd.C_below HR1_2.out HB.out) | (with_reducible refine Kd.C_alloc ?_ _) | (with_reducible refine Kd.C_drewN ?_ _) | (with_reducible refine Kd.C_drew ?_)))
     (case side2 => exact HC1_2.out)
     rintro e w147 ⟨v312, rfl, ho0, hb⟩
     refine ⟨_, rfl, ?_⟩
     have n0_ := aK (Kd.S_elder' (by (with_reducible repeat (first | apply Kd.S_alloc | apply Kd.S_drewN | apply Kd.S_drew)); exact HO308.out) (Kd.R_base ho0) hb)
     have n1_ := aK (Kd.R_lower ho0 (below_size (by repeat (first | (with_reducible first | exact HB.out | apply bL | apply bM | apply b1 | refine bS ?_ GE302.out | refine bS ?_ GE303.out) | exact HB.out))))
     have n2_ := aK (bB (by (with_reducible repeat (first | refine bN ?_ _ | refine bD ?_ | refine bA ?_ _)); exact BK302.out) hb)
     have n3_ := aK (bB (by (with_reducible repeat (first | refine bN ?_ _ | refine bD ?_ | refine bA ?_ _)); exact BK303.out) hb)
     have n4_ := aK (below_step (by repeat (first | (with_reducible first | exact HB.out | apply bL | apply bM | apply b1 | refine bS ?_ GE302.out | refine bS ?_ GE303.out) | exact HB.out)) hb)
     clear HO308
     clear BK302
     clear BK303
     clear HB
     have HO308 := n0_
     have HO313 := n1_
     have BK302 := n2_
     have BK303 := n3_
     have HB := n4_
     clear n0_ n1_ n2_ n3_ n4_
     (try clear hb)
     (try clear hb2)
     (try clear hk)
     (try clear hi)
     (try clear ho0)
     obtain ⟨Ao148, co148, eo148⟩ := Kd.S_slice HO308.out
     (first | subst eo148 | (injection eo148 with f1_ f2_ f3_; have f4_ := f1_.symm; have f5_ := f3_.symm; clear f1_ f2_ f3_; subst f4_; subst f5_))
     obtain ⟨Ao149, co149, eo149⟩ := Kd.R_slice HO313.out
     (first | subst eo149 | (injection eo149 with f1_ f2_ f3_; have f4_ := f1_.symm; have f5_ := f3_.symm; clear f1_ f2_ f3_; subst f4_; subst f5_))
     refine hK.out _ _ ⟨(bC BK302.out 0).trans rfl, (bC BK303.out 0).trans rfl, (bC BK303.out 1).trans rfl, (bC BK303.out 2).trans rfl⟩ (fun hHeld => ?_)
     clear hK K
     refine norm_ (a' := ?_) ?_ ?_
     rotate_left
     ·show Act.put _ (some 23) _ = _
      simp only [Act.put, lA, l0', lS, i64_w, i32_w]
      rfl
     refine one_ (i := 4) (N := some 24) #[true, true, true, true, true, false] rfl rfl (by kernel_rfl) (by decide) (fun K hK => ?_)
     refine goes_ Try.func41 (by kernel_rfl) rfl #[.agg #[.slice Ao148 t306.length co148], .agg #[.int .i64 t309, .int .i64 t310, .slice Ao149 t311.length co149]] (by rfl) rfl rfl (by (try simp only [mA, mC, mN]); first | done | rfl) ?_
     with_reducible refine (spec_IsLoosePlay.calls k _ _ t306 t309 t310 _ _ t311 t314 _ ?side1 ?side2 ?side3 ?side4 A21.out).mono ?_
     (case side1 => repeat (first | exact (Kd.S_reads' HO308.out).2.2 | (with_reducible refine Kd.C_alloc ?_ _) | (with_reducible refine Kd.C_drewN ?_ _) | (with_reducible refine Kd.C_drew ?_)))
     (case side2 => exact (Kd.S_reads' HO308.out).2.1)
     (case side3 => repeat (first | exact (Kd.R_reads' HO313.out).2.2 | (with_reducible refine Kd.C_alloc ?_ _) | (with_reducible refine Kd.C_drewN ?_ _) | (with_reducible refine Kd.C_drew ?_)))
     (case side4 => exact (Kd.R_reads' HO313.out).2.1)
     rintro e w150 ⟨rfl, hb⟩
     refine ⟨_, rfl, ?_⟩
     have n0_ := aK (Kd.S_below (by (with_reducible repeat (first | apply Kd.S_alloc | apply Kd.S_drewN | apply Kd.S_drew)); exact HO308.out) hb)
     have n1_ := aK (Kd.R_below (by (with_reducible repeat (first | apply Kd.R_alloc | apply Kd.R_drewN | apply Kd.R_drew)); exact HO313.out) hb)
     have n2_ := aK (bB (by (with_reducible repeat (first | refine bN ?_ _ | refine bD ?_ | refine bA ?_ _)); exact BK302.out) hb)
     have n3_ := aK (bB (by (with_reducible repeat (first | refine bN ?_ _ | refine bD ?_ | refine bA ?_ _)); exact BK303.out) hb)
     have n4_ := aK (below_step (by repeat (first | (with_reducible first | exact HB.out | apply bL | apply bM | apply b1 | refine bS ?_ GE302.out | refine bS ?_ GE303.out) | exact HB.out)) hb)
     clear HO308
     clear HO313
     clear BK302
     clear BK303
     clear HB
     have HO308 := n0_
     have HO313 := n1_
     have BK302 := n2_
     have BK303 := n3_
     have HB := n4_
     clear n0_ n1_ n2_ n3_ n4_
     (try clear hb)
     (try clear hb2)
     (try clear hk)
     (try clear hi)
     refine hK.out _ _ ⟨(bC BK302.out 0).trans rfl, (bC BK303.out 0).trans rfl, (bC BK303.out 1).trans rfl, (bC BK303.out 2).trans rfl⟩ (fun hHeld => ?_)
     clear hK K
     refine norm_ (a' := ?_) ?_ ?_
     rotate_left
     ·show Act.put _ (some 24) _ = _
      simp only [Act.put, lA, l0', lS, i64_w, i32_w]
      rfl
     refine pure_ (i := 5) (N := some 6) (v := ?_) (a' := ?_) #[true, true, true, true, true, true] rfl rfl (by kernel_rfl) (fun _ _ _ h => h) (Or.inl ⟨by rfl, ?_⟩) ?_ ?_
     rotate_left
     ·intro w'
      go_simp
      with_reducible rfl
     rotate_left
     ·simp only [Act.put, lA, l0', lS, i64_w, i32_w]
      rfl
     refine done_ (by kernel_rfl) ?_
     have hcz151_0 : w150.cell? ⟨gb302, 0, none⟩ = some (.slice A0_0 l0_0.length c0_0) := (bC BK302.out 0).trans rfl
     have hfz151_0 := blk_frozen BK302.out 0
     try go_wp2_with (first | ((with_reducible refine gate_callee (f := 42) rfl ?_); refine goesL_ (some 26) rfl rfl Try.func42 (by kernel_rfl) rfl #[.agg #[.slice A0_0 l0_0.length c0_0]] rfl (by (try simp only [mA, mC, mN]); first | done | rfl) ?_; (with_reducible refine (laws_toDeal.calls k _ _ l0_0 t315 _ ?side1 ?side2 A22.out).mono ?_); (case side1 => repeat (first | exact (Kd.C_below HR0_0.out HB.out) | (with_reducible refine Kd.C_alloc ?_ _) | (with_reducible refine Kd.C_drewN ?_ _) | (with_reducible refine Kd.C_drew ?_))); (case side2 => exact HC0_0.out); rintro e w152 ⟨v316, rfl, ho0, hb⟩; refine ⟨_, rfl, ?_⟩; have n0_ := aK (Kd.S_elder' (by (with_reducible repeat (first | apply Kd.S_alloc | apply Kd.S_drewN | apply Kd.S_drew)); exact HO308.out) (Kd.S_base ho0) hb); have n1_ := aK (Kd.R_below (by (with_reducible repeat (first | apply Kd.R_alloc | apply Kd.R_drewN | apply Kd.R_drew)); exact HO313.out) hb); have n2_ := aK (Kd.S_lower (Kd.S_new' (Kd.S_new' ho0 (Kd.S_lt (by (with_reducible repeat (first | apply Kd.S_alloc | apply Kd.S_drewN | apply Kd.S_drew)); exact HO308.out))) (Kd.R_lt (by (with_reducible repeat (first | apply Kd.R_alloc | apply Kd.R_drewN | apply Kd.R_drew)); exact HO313.out))) (below_size (by repeat (first | (with_reducible first | exact HB.out | apply bL | apply bM | apply b1 | refine bS ?_ GE302.out | refine bS ?_ GE303.out) | exact HB.out)))); have n3_ := aK (bB (by (with_reducible repeat (first | refine bN ?_ _ | refine bD ?_ | refine bA ?_ _)); exact BK302.out) hb); have n4_ := aK (bB (by (with_reducible repeat (first | refine bN ?_ _ | refine bD ?_ | refine bA ?_ _)); exact BK303.out) hb); have n5_ := aK (below_step (by repeat (first | (with_reducible first | exact HB.out | apply bL | apply bM | apply b1 | refine bS ?_ GE302.out | refine bS ?_ GE303.out) | exact HB.out)) hb); clear HO308; clear HO313; clear BK302; clear BK303; clear HB; have HO308 := n0_; have HO313 := n1_; have HO317 := n2_; have BK302 := n3_; have BK303 := n4_; have HB := n5_; clear n0_ n1_ n2_ n3_ n4_ n5_; (try clear hb); (try clear hb2); (try clear hk); (try clear hi); (try clear ho0)) | ((with_reducible refine gate_dst (N := 7) rfl ?_); refine box_event ?hg (N := 7) ?hd (cs := #[.slice none 0 0]) (t := 44) ?hr ?_; (case hd => rfl); (case hg => rfl); (case hr => first | (go_simp; done) | (go_simp; rfl)); intro gb318 hg w153 hbox hb; have n0_ := aK (Kd.S_below (by (with_reducible repeat (first | apply Kd.S_alloc | apply Kd.S_drewN | apply Kd.S_drew)); exact HO308.out) hb); have n1_ := aK (Kd.R_below (by (with_reducible repeat (first | apply Kd.R_alloc | apply Kd.R_drewN | apply Kd.R_drew)); exact HO313.out) hb); have n2_ := aK (Kd.S_below (by (with_reducible repeat (first | apply Kd.S_alloc | apply Kd.S_drewN | apply Kd.S_drew)); exact HO317.out) hb); have n3_ := aK (bB (by (with_reducible repeat (first | refine bN ?_ _ | refine bD ?_ | refine bA ?_ _)); exact BK302.out) hb); have n4_ := aK (bB (by (with_reducible repeat (first | refine bN ?_ _ | refine bD ?_ | refine bA ?_ _)); exact BK303.out) hb); have n5_ := aK (below_step (by repeat (first | (with_reducible first | exact HB.out | apply bL | apply bM | apply b1 | refine bS ?_ GE302.out | refine bS ?_ GE303.out) | exact HB.out)) hb); have n6_ := aK (hbox); have n7_ := aK ((by rw [hg]; exact (below_size (by repeat (first | (with_reducible first | exact HB.out | apply bL | apply bM | apply b1 | refine bS ?_ GE302.out | refine bS ?_ GE303.out) | exact HB.out))) : w.heap.size ≤ gb318)); have n8_ := aK ((by rw [hg]; exact (below_size (by repeat (first | (with_reducible first | exact HB.out | apply bL | apply bM | apply b1 | refine bS ?_ GE302.out | refine bS ?_ GE303.out) | exact HB.out))) : w.heap.size ≤ gb318)); have n9_ := aK ((by rw [hg]; exact Nat.ne_of_lt (blk_lt (by (with_reducible repeat (first | refine bN ?_ _ | refine bD ?_ | refine bA ?_ _)); exact BK302.out)) : gb302 ≠ gb318)); have n10_ := aK ((by rw [hg]; exact Nat.ne_of_gt (blk_lt (by (with_reducible repeat (first | refine bN ?_ _ | refine bD ?_ | refine bA ?_ _)); exact BK302.out)) : gb318 ≠ gb302)); have n11_ := aK ((by rw [hg]; exact Nat.ne_of_lt (blk_lt (by (with_reducible repeat (first | refine bN ?_ _ | refine bD ?_ | refine bA ?_ _)); exact BK303.out)) : gb303 ≠ gb318)); have n12_ := aK ((by rw [hg]; exact Nat.ne_of_gt (blk_lt (by (with_reducible repeat (first | refine bN ?_ _ | refine bD ?_ | refine bA ?_ _)); exact BK303.out)) : gb318 ≠ gb303)); clear HO308; clear HO313; clear HO317; clear BK302; clear BK303; clear HB; have HO308 := n0_; have HO313 := n1_; have HO317 := n2_; have BK302 := n3_; have BK303 := n4_; have HB := n5_; have BK318 := n6_; have GW318 := n7_; have GE318 := n8_; have NB302_318 := n9_; have NB318_302 := n10_; have NB303_318 := n11_; have NB318_303 := n12_; clear n0_ n1_ n2_ n3_ n4_ n5_ n6_ n7_ n8_ n9_ n10_ n11_ n12_; clear hb hbox hg; obtain ⟨Ao154, co154, eo154⟩ := Kd.S_slice HO317.out; subst eo154; have hnb155 := NB318_302.out; have hnc155 := NB302_318.out; have hnb156 := NB318_303.out; have hnc156 := NB303_318.out; have hcz157_0 : w153.cell? ⟨gb318, 0, none⟩ = some (.slice none 0 0) := (bC BK318.out 0).trans rfl; have hfz157_0 := blk_frozen BK318.out 0; have hcz158_0 : w153.cell? ⟨gb303, 0, none⟩ = some (.int .i64 a1_0) := (bC BK303.out 0).trans rfl; have hcz158_1 : w153.cell? ⟨gb303, 1, none⟩ = some (.int .i64 a1_1) := (bC BK303.out 1).trans rfl; have hcz158_2 : w153.cell? ⟨gb303, 2, none⟩ = some (.slice A1_2 l1_2.length c1_2) := (bC BK303.out 2).trans rfl; have hfz158_0 := blk_frozen BK303.out 0; have hfz158_1 := blk_frozen BK303.out 1; have hfz158_2 := blk_frozen BK303.out 2) | ((with_reducible refine gate_callee (f := 24) rfl ?_); refine goesL_ (some 28) rfl rfl Try.func24 (by kernel_rfl) rfl #[.agg #[.int .i64 a1_0, .int .i64 a1_1, .slice A1_2 l1_2.length c1_2]] rfl (by (try simp only [mA, mC, mN]); first | done | rfl) ?_; (with_reducible refine (laws_toPlay.calls k a1_0 a1_1 _ _ l1_2 t319 t320 t321 _ ?side1 ?side2 A23.out).mono ?_); (case side1 => exact Kd.C_below HR1_2.out (by repeat (first | (with_reducible first | exact HB.out | apply bL | apply bM | apply b1 | refine bS ?_ GE302.out | refine bS ?_ GE303.out | refine bS ?_ GE318.out) | exact HB.out))); (case side2 => exact HC1_2.out); rintro e w159 ⟨v322, rfl, ho0, hb⟩; refine ⟨_, rfl, ?_⟩; have n0_ := aK (Kd.S_elder' (by (with_reducible repeat (first | apply Kd.S_alloc | apply Kd.S_drewN | apply Kd.S_drew)); exact (Kd.S_mono (Kd.S_far (p := ⟨gb318, 0, none⟩) (Kd.S_types HO308.out BK318.out (by decide)) (fun _ hk => by first | exact hk.2 | (have h_ := hk; (try simp only [and_assoc, true_and] at h_); (repeat' apply And.intro) <;> first | with_reducible exact h_.1 | with_reducible exact h_.2.1 | with_reducible exact h_.2.2.1 | with_reducible exact h_.2.2.2.1 | with_reducible exact h_.2.2.2.2.1 | with_reducible exact h_.2.2.2.2.2.1 | with_reducible exact h_.2.2.2.2.2.2.1 | with_reducible exact h_.2.2.2.2.2.2.2.1 | with_reducible exact h_.2.2.2.2.2.2.2.2.1 | with_reducible exact h_.2 | with_reducible exact h_.2.2 | with_reducible exact h_.2.2.2 | with_reducible exact h_.2.2.2.2 | with_reducible exact h_.2.2.2.2.2 | with_reducible exact h_.2.2.2.2.2.2 | with_reducible exact h_.2.2.2.2.2.2.2 | with_reducible exact h_.2.2.2.2.2.2.2.2)) (.slice Ao154 t315.length co154)) (fun _ h_ => h_.1))) (Kd.R_base ho0) hb); have n1_ := aK (Kd.R_elder' (by (with_reducible repeat (first | apply Kd.R_alloc | apply Kd.R_drewN | apply Kd.R_drew)); exact (Kd.R_mono (Kd.R_far (p := ⟨gb318, 0, none⟩) (Kd.R_types HO313.out BK318.out (by decide)) (fun _ hk => by first | exact hk.2 | (have h_ := hk; (try simp only [and_assoc, true_and] at h_); (repeat' apply And.intro) <;> first | with_reducible exact h_.1 | with_reducible exact h_.2.1 | with_reducible exact h_.2.2.1 | with_reducible exact h_.2.2.2.1 | with_reducible exact h_.2.2.2.2.1 | with_reducible exact h_.2.2.2.2.2.1 | with_reducible exact h_.2.2.2.2.2.2.1 | with_reducible exact h_.2.2.2.2.2.2.2.1 | with_reducible exact h_.2.2.2.2.2.2.2.2.1 | with_reducible exact h_.2 | with_reducible exact h_.2.2 | with_reducible exact h_.2.2.2 | with_reducible exact h_.2.2.2.2 | with_reducible exact h_.2.2.2.2.2 | with_reducible exact h_.2.2.2.2.2.2 | with_reducible exact h_.2.2.2.2.2.2.2 | with_reducible exact h_.2.2.2.2.2.2.2.2)) (.slice Ao154 t315.length co154)) (fun _ h_ => h_.1))) (Kd.R_base ho0) hb); have n2_ := aK (Kd.S_elder' (by (with_reducible repeat (first | apply Kd.S_alloc | apply Kd.S_drewN | apply Kd.S_drew)); exact (Kd.S_mono (Kd.S_far (p := ⟨gb318, 0, none⟩) (Kd.S_types HO317.out BK318.out (by decide)) (fun _ hk => by first | exact hk.2 | (have h_ := hk; (try simp only [and_assoc, true_and] at h_); (repeat' apply And.intro) <;> first | with_reducible exact h_.1 | with_reducible exact h_.2.1 | with_reducible exact h_.2.2.1 | with_reducible exact h_.2.2.2.1 | with_reducible exact h_.2.2.2.2.1 | with_reducible exact h_.2.2.2.2.2.1 | with_reducible exact h_.2.2.2.2.2.2.1 | with_reducible exact h_.2.2.2.2.2.2.2.1 | with_reducible exact h_.2.2.2.2.2.2.2.2.1 | with_reducible exact h_.2 | with_reducible exact h_.2.2 | with_reducible exact h_.2.2.2 | with_reducible exact h_.2.2.2.2 | with_reducible exact h_.2.2.2.2.2 | with_reducible exact h_.2.2.2.2.2.2 | with_reducible exact h_.2.2.2.2.2.2.2 | with_reducible exact h_.2.2.2.2.2.2.2.2)) (.slice Ao154 t315.length co154)) (fun _ h_ => h_.1))) (Kd.R_base ho0) hb); have n3_ := aK (Kd.R_lower (Kd.R_new' ho0 (Kd.R_lt (by (with_reducible repeat (first | apply Kd.R_alloc | apply Kd.R_drewN | apply Kd.R_drew)); exact (Kd.R_mono (Kd.R_far (p := ⟨gb318, 0, none⟩) (Kd.R_types HO313.out BK318.out (by decide)) (fun _ hk => by first | exact hk.2 | (have h_ := hk; (try simp only [and_assoc, true_and] at h_); (repeat' apply And.intro) <;> first | with_reducible exact h_.1 | with_reducible exact h_.2.1 | with_reducible exact h_.2.2.1 | with_reducible exact h_.2.2.2.1 | with_reducible exact h_.2.2.2.2.1 | with_reducible exact h_.2.2.2.2.2.1 | with_reducible exact h_.2.2.2.2.2.2.1 | with_reducible exact h_.2.2.2.2.2.2.2.1 | with_reducible exact h_.2.2.2.2.2.2.2.2.1 | with_reducible exact h_.2 | with_reducible exact h_.2.2 | with_reducible exact h_.2.2.2 | with_reducible exact h_.2.2.2.2 | with_reducible exact h_.2.2.2.2.2 | with_reducible exact h_.2.2.2.2.2.2 | with_reducible exact h_.2.2.2.2.2.2.2 | with_reducible exact h_.2.2.2.2.2.2.2.2)) (.slice Ao154 t315.length co154)) (fun _ h_ => h_.1))))) (below_size (by repeat (first | (with_reducible first | exact HB.out | apply bL | apply bM | apply b1 | refine bS ?_ GE302.out | refine bS ?_ GE303.out | refine bS ?_ GE318.out) | exact HB.out)))); have n4_ := aK (bB (g := gb302) (o := .cells #[.slice A0_0 l0_0.length c0_0] 41 (0, 0)) (by (with_reducible repeat (first | refine bN ?_ _ | refine bD ?_ | refine bA ?_ _)); refine blk_far ?_ NB302_318.out _; (with_reducible repeat (first | refine bN ?_ _ | refine bD ?_ | refine bA ?_ _)); exact BK302.out) hb); have n5_ := aK (bB (g := gb303) (o := .cells #[.int .i64 a1_0, .int .i64 a1_1, .slice A1_2 l1_2.length c1_2] 24 (0, 0)) (by (with_reducible repeat (first | refine bN ?_ _ | refine bD ?_ | refine bA ?_ _)); refine blk_far ?_ NB303_318.out _; (with_reducible repeat (first | refine bN ?_ _ | refine bD ?_ | refine bA ?_ _)); exact BK303.out) hb); have n6_ := aK (bB (g := gb318) (o := .cells #[.slice Ao154 t315.length co154] 44 (0, 0)) (by (with_reducible repeat (first | refine bN ?_ _ | refine bD ?_ | refine bA ?_ _)); refine blk_put (cs := #[.slice none 0 0]) ?_ 0 _ rfl; (with_reducible repeat (first | refine bN ?_ _ | refine bD ?_ | refine bA ?_ _)); exact BK318.out) hb); have n7_ := aK (below_step (by repeat (first | (with_reducible first | exact HB.out | apply bL | apply bM | apply b1 | refine bS ?_ GE302.out | refine bS ?_ GE303.out | refine bS ?_ GE318.out) | exact HB.out)) hb); clear HO308; clear HO313; clear HO317; clear BK302; clear BK303; clear BK318; clear HB; have HO308 := n0_; have HO313 := n1_; have HO317 := n2_; have HO323 := n3_; have BK302 := n4_; have BK303 := n5_; have BK318 := n6_; have HB := n7_; clear n0_ n1_ n2_ n3_ n4_ n5_ n6_ n7_; (try clear hb); (try clear hb2); (try clear hk); (try clear hi); (try clear ho0)) | ((with_reducible refine gate_dst (N := 8) rfl ?_); refine box_event ?hg (N := 8) ?hd (cs := #[.int .i64 0, .int .i64 0, .slice none 0 0]) (t := 27) ?hr ?_; (case hd => rfl); (case hg => rfl); (case hr => first | (go_simp; done) | (go_simp; rfl)); intro gb324 hg w160 hbox hb; have n0_ := aK (Kd.S_below (by (with_reducible repeat (first | apply Kd.S_alloc | apply Kd.S_drewN | apply Kd.S_drew)); exact HO308.out) hb); have n1_ := aK (Kd.R_below (by (with_reducible repeat (first | apply Kd.R_alloc | apply Kd.R_drewN | apply Kd.R_drew)); exact HO313.out) hb); have n2_ := aK (Kd.S_below (by (with_reducible repeat (first | apply Kd.S_alloc | apply Kd.S_drewN | apply Kd.S_drew)); exact HO317.out) hb); have n3_ := aK (Kd.R_below (by (with_reducible repeat (first | apply Kd.R_alloc | apply Kd.R_drewN | apply Kd.R_drew)); exact HO323.out) hb); have n4_ := aK (bB (by (with_reducible repeat (first | refine bN ?_ _ | refine bD ?_ | refine bA ?_ _)); exact BK302.out) hb); have n5_ := aK (bB (by (with_reducible repeat (first | refine bN ?_ _ | refine bD ?_ | refine bA ?_ _)); exact BK303.out) hb); have n6_ := aK (bB (by (with_reducible repeat (first | refine bN ?_ _ | refine bD ?_ | refine bA ?_ _)); exact BK318.out) hb); have n7_ := aK (below_step (by repeat (first | (with_reducible first | exact HB.out | apply bL | apply bM | apply b1 | refine bS ?_ GE302.out | refine bS ?_ GE303.out | refine bS ?_ GE318.out) | exact HB.out)) hb); have n8_ := aK (hbox); have n9_ := aK ((by rw [hg]; exact (below_size (by repeat (first | (with_reducible first | exact HB.out | apply bL | apply bM | apply b1 | refine bS ?_ GE302.out | refine bS ?_ GE303.out | refine bS ?_ GE318.out) | exact HB.out))) : w.heap.size ≤ gb324)); have n10_ := aK ((by rw [hg]; exact (below_size (by repeat (first | (with_reducible first | exact HB.out | apply bL | apply bM | apply b1 | refine bS ?_ GE302.out | refine bS ?_ GE303.out | refine bS ?_ GE318.out) | exact HB.out))) : w.heap.size ≤ gb324)); have n11_ := aK ((by rw [hg]; exact Nat.ne_of_lt (blk_lt (by (with_reducible repeat (first | refine bN ?_ _ | refine bD ?_ | refine bA ?_ _)); exact BK302.out)) : gb302 ≠ gb324)); have n12_ := aK ((by rw [hg]; exact Nat.ne_of_gt (blk_lt (by (with_reducible repeat (first | refine bN ?_ _ | refine bD ?_ | refine bA ?_ _)); exact BK302.out)) : gb324 ≠ gb302)); have n13_ := aK ((by rw [hg]; exact Nat.ne_of_lt (blk_lt (by (with_reducible repeat (first | refine bN ?_ _ | refine bD ?_ | refine bA ?_ _)); exact BK303.out)) : gb303 ≠ gb324)); have n14_ := aK ((by rw [hg]; exact Nat.ne_of_gt (blk_lt (by (with_reducible repeat (first | refine bN ?_ _ | refine bD ?_ | refine bA ?_ _)); exact BK303.out)) : gb324 ≠ gb303)); have n15_ := aK ((by rw [hg]; exact Nat.ne_of_lt (blk_lt (by (with_reducible repeat (first | refine bN ?_ _ | refine bD ?_ | refine bA ?_ _)); exact BK318.out)) : gb318 ≠ gb324)); have n16_ := aK ((by rw [hg]; exact Nat.ne_of_gt (blk_lt (by (with_reducible repeat (first | refine bN ?_ _ | refine bD ?_ | refine bA ?_ _)); exact BK318.out)) : gb324 ≠ gb318)); clear HO308; clear HO313; clear HO317; clear HO323; clear BK302; clear BK303; clear BK318; clear HB; have HO308 := n0_; have HO313 := n1_; have HO317 := n2_; have HO323 := n3_; have BK302 := n4_; have BK303 := n5_; have BK318 := n6_; have HB := n7_; have BK324 := n8_; have GW324 := n9_; have GE324 := n10_; have NB302_324 := n11_; have NB324_302 := n12_; have NB303_324 := n13_; have NB324_303 := n14_; have NB318_324 := n15_; have NB324_318 := n16_; clear n0_ n1_ n2_ n3_ n4_ n5_ n6_ n7_ n8_ n9_ n10_ n11_ n12_ n13_ n14_ n15_ n16_; clear hb hbox hg; have hnb161 := NB324_302.out; have hnc161 := NB302_324.out; have hnb162 := NB324_303.out; have hnc162 := NB303_324.out; have hnb163 := NB324_318.out; have hnc163 := NB318_324.out; have hcz164_0 : w160.cell? ⟨gb324, 0, none⟩ = some (.int .i64 0) := (bC BK324.out 0).trans rfl; have hcz164_1 : w160.cell? ⟨gb324, 1, none⟩ = some (.int .i64 0) := (bC BK324.out 1).trans rfl; have hcz164_2 : w160.cell? ⟨gb324, 2, none⟩ = some (.slice none 0 0) := (bC BK324.out 2).trans rfl; have hfz164_0 := blk_frozen BK324.out 0; have hfz164_1 := blk_frozen BK324.out 1; have hfz164_2 := blk_frozen BK324.out 2; obtain ⟨Ao165, co165, eo165⟩ := Kd.R_slice HO323.out; subst eo165; have hcz166_0 : w160.cell? ⟨gb318, 0, none⟩ = some (.slice Ao154 t315.length co154) := (bC BK318.out 0).trans rfl; have hfz166_0 := blk_frozen BK318.out 0) | ((with_reducible refine gate_callee (f := 43) rfl ?_); refine goesL_ (some 31) rfl rfl Try.func43 (by kernel_rfl) rfl #[.agg #[.slice Ao154 t315.length co154], .agg #[.int .i64 t319, .int .i64 t320, .slice Ao165 t321.length co165]] rfl (by (try simp only [mA, mC, mN]); first | done | rfl) ?_; (with_reducible refine (impl_IsLoosePlay.calls k _ _ t315 t319 t320 _ _ t321 t325 _ ?side1 ?side2 ?side3 ?side4 A24.out).mono ?_); (case side1 => refine (Kd.S_reads' (e := 22) (base := w.heap.size) (ok := fun k_ => (((True ∧ some k_ ≠ (.slice Ao148 t306.length co148 : Value).ownBlock) ∧ some k_ ≠ (.slice Ao149 t311.length co149 : Value).ownBlock) ∧ some k_ ≠ (.slice Ao165 t321.length co165 : Value).ownBlock)) (n := t315.length) (c := co154) ?_).2.2; exact (by (with_reducible repeat (first | apply Kd.S_alloc | apply Kd.S_drewN | apply Kd.S_drew)); exact (Kd.S_mono (Kd.S_far (p := ⟨gb324, 2, none⟩) (Kd.S_far (p := ⟨gb324, 1, none⟩) (Kd.S_far (p := ⟨gb324, 0, none⟩) (Kd.S_types HO317.out BK324.out (by decide)) (fun _ hk => by first | exact hk.2 | (have h_ := hk; (try simp only [and_assoc, true_and] at h_); (repeat' apply And.intro) <;> first | with_reducible exact h_.1 | with_reducible exact h_.2.1 | with_reducible exact h_.2.2.1 | with_reducible exact h_.2.2.2.1 | with_reducible exact h_.2.2.2.2.1 | with_reducible exact h_.2.2.2.2.2.1 | with_reducible exact h_.2.2.2.2.2.2.1 | with_reducible exact h_.2.2.2.2.2.2.2.1 | with_reducible exact h_.2.2.2.2.2.2.2.2.1 | with_reducible exact h_.2 | with_reducible exact h_.2.2 | with_reducible exact h_.2.2.2 | with_reducible exact h_.2.2.2.2 | with_reducible exact h_.2.2.2.2.2 | with_reducible exact h_.2.2.2.2.2.2 | with_reducible exact h_.2.2.2.2.2.2.2 | with_reducible exact h_.2.2.2.2.2.2.2.2)) (.int .i64 t319)) (fun _ hk => by first | exact hk.2 | (have h_ := hk; (try simp only [and_assoc, true_and] at h_); (repeat' apply And.intro) <;> first | with_reducible exact h_.1 | with_reducible exact h_.2.1 | with_reducible exact h_.2.2.1 | with_reducible exact h_.2.2.2.1 | with_reducible exact h_.2.2.2.2.1 | with_reducible exact h_.2.2.2.2.2.1 | with_reducible exact h_.2.2.2.2.2.2.1 | with_reducible exact h_.2.2.2.2.2.2.2.1 | with_reducible exact h_.2.2.2.2.2.2.2.2.1 | with_reducible exact h_.2 | with_reducible exact h_.2.2 | with_reducible exact h_.2.2.2 | with_reducible exact h_.2.2.2.2 | with_reducible exact h_.2.2.2.2.2 | with_reducible exact h_.2.2.2.2.2.2 | with_reducible exact h_.2.2.2.2.2.2.2 | with_reducible exact h_.2.2.2.2.2.2.2.2)) (.int .i64 t320)) (fun _ hk => by first | exact hk.2 | (have h_ := hk; (try simp only [and_assoc, true_and] at h_); (repeat' apply And.intro) <;> first | with_reducible exact h_.1 | with_reducible exact h_.2.1 | with_reducible exact h_.2.2.1 | with_reducible exact h_.2.2.2.1 | with_reducible exact h_.2.2.2.2.1 | with_reducible exact h_.2.2.2.2.2.1 | with_reducible exact h_.2.2.2.2.2.2.1 | with_reducible exact h_.2.2.2.2.2.2.2.1 | with_reducible exact h_.2.2.2.2.2.2.2.2.1 | with_reducible exact h_.2 | with_reducible exact h_.2.2 | with_reducible exact h_.2.2.2 | with_reducible exact h_.2.2.2.2 | with_reducible exact h_.2.2.2.2.2 | with_reducible exact h_.2.2.2.2.2.2 | with_reducible exact h_.2.2.2.2.2.2.2 | with_reducible exact h_.2.2.2.2.2.2.2.2)) (.slice Ao165 t321.length co165)) (fun _ h_ => h_.1)))); (case side2 => exact (Kd.S_reads' HO317.out).2.1); (case side3 => refine (Kd.R_reads' (e := 2) (base := w.heap.size) (ok := fun k_ => (True ∧ some k_ ≠ (.slice Ao149 t311.length co149 : Value).ownBlock)) (n := t321.length) (c := co165) ?_).2.2; exact (by (with_reducible repeat (first | apply Kd.R_alloc | apply Kd.R_drewN | apply Kd.R_drew)); exact (Kd.R_mono (Kd.R_far (p := ⟨gb324, 2, none⟩) (Kd.R_far (p := ⟨gb324, 1, none⟩) (Kd.R_far (p := ⟨gb324, 0, none⟩) (Kd.R_types HO323.out BK324.out (by decide)) (fun _ hk => by first | exact hk.2 | (have h_ := hk; (try simp only [and_assoc, true_and] at h_); (repeat' apply And.intro) <;> first | with_reducible exact h_.1 | with_reducible exact h_.2.1 | with_reducible exact h_.2.2.1 | with_reducible exact h_.2.2.2.1 | with_reducible exact h_.2.2.2.2.1 | with_reducible exact h_.2.2.2.2.2.1 | with_reducible exact h_.2.2.2.2.2.2.1 | with_reducible exact h_.2.2.2.2.2.2.2.1 | with_reducible exact h_.2.2.2.2.2.2.2.2.1 | with_reducible exact h_.2 | with_reducible exact h_.2.2 | with_reducible exact h_.2.2.2 | with_reducible exact h_.2.2.2.2 | with_reducible exact h_.2.2.2.2.2 | with_reducible exact h_.2.2.2.2.2.2 | with_reducible exact h_.2.2.2.2.2.2.2 | with_reducible exact h_.2.2.2.2.2.2.2.2)) (.int .i64 t319)) (fun _ hk => by first | exact hk.2 | (have h_ := hk; (try simp only [and_assoc, true_and] at h_); (repeat' apply And.intro) <;> first | with_reducible exact h_.1 | with_reducible exact h_.2.1 | with_reducible exact h_.2.2.1 | with_reducible exact h_.2.2.2.1 | with_reducible exact h_.2.2.2.2.1 | with_reducible exact h_.2.2.2.2.2.1 | with_reducible exact h_.2.2.2.2.2.2.1 | with_reducible exact h_.2.2.2.2.2.2.2.1 | with_reducible exact h_.2.2.2.2.2.2.2.2.1 | with_reducible exact h_.2 | with_reducible exact h_.2.2 | with_reducible exact h_.2.2.2 | with_reducible exact h_.2.2.2.2 | with_reducible exact h_.2.2.2.2.2 | with_reducible exact h_.2.2.2.2.2.2 | with_reducible exact h_.2.2.2.2.2.2.2 | with_reducible exact h_.2.2.2.2.2.2.2.2)) (.int .i64 t320)) (fun _ hk => by first | exact hk.2 | (have h_ := hk; (try simp only [and_assoc, true_and] at h_); (repeat' apply And.intro) <;> first | with_reducible exact h_.1 | with_reducible exact h_.2.1 | with_reducible exact h_.2.2.1 | with_reducible exact h_.2.2.2.1 | with_reducible exact h_.2.2.2.2.1 | with_reducible exact h_.2.2.2.2.2.1 | with_reducible exact h_.2.2.2.2.2.2.1 | with_reducible exact h_.2.2.2.2.2.2.2.1 | with_reducible exact h_.2.2.2.2.2.2.2.2.1 | with_reducible exact h_.2 | with_reducible exact h_.2.2 | with_reducible exact h_.2.2.2 | with_reducible exact h_.2.2.2.2 | with_reducible exact h_.2.2.2.2.2 | with_reducible exact h_.2.2.2.2.2.2 | with_reducible exact h_.2.2.2.2.2.2.2 | with_reducible exact h_.2.2.2.2.2.2.2.2)) (.slice Ao165 t321.length co165)) (fun _ h_ => h_.1)))); (case side4 => exact (Kd.R_reads' HO323.out).2.1); rintro e w167 ⟨rfl, hb⟩; refine ⟨_, rfl, ?_⟩; have n0_ := aK (Kd.S_below (by (with_reducible repeat (first | apply Kd.S_alloc | apply Kd.S_drewN | apply Kd.S_drew)); exact (Kd.S_mono (Kd.S_far (p := ⟨gb324, 2, none⟩) (Kd.S_far (p := ⟨gb324, 1, none⟩) (Kd.S_far (p := ⟨gb324, 0, none⟩) (Kd.S_types HO308.out BK324.out (by decide)) (fun _ hk => by first | exact hk.2 | (have h_ := hk; (try simp only [and_assoc, true_and] at h_); (repeat' apply And.intro) <;> first | with_reducible exact h_.1 | with_reducible exact h_.2.1 | with_reducible exact h_.2.2.1 | with_reducible exact h_.2.2.2.1 | with_reducible exact h_.2.2.2.2.1 | with_reducible exact h_.2.2.2.2.2.1 | with_reducible exact h_.2.2.2.2.2.2.1 | with_reducible exact h_.2.2.2.2.2.2.2.1 | with_reducible exact h_.2.2.2.2.2.2.2.2.1 | with_reducible exact h_.2 | with_reducible exact h_.2.2 | with_reducible exact h_.2.2.2 | with_reducible exact h_.2.2.2.2 | with_reducible exact h_.2.2.2.2.2 | with_reducible exact h_.2.2.2.2.2.2 | with_reducible exact h_.2.2.2.2.2.2.2 | with_reducible exact h_.2.2.2.2.2.2.2.2)) (.int .i64 t319)) (fun _ hk => by first | exact hk.2 | (have h_ := hk; (try simp only [and_assoc, true_and] at h_); (repeat' apply And.intro) <;> first | with_reducible exact h_.1 | with_reducible exact h_.2.1 | with_reducible exact h_.2.2.1 | with_reducible exact h_.2.2.2.1 | with_reducible exact h_.2.2.2.2.1 | with_reducible exact h_.2.2.2.2.2.1 | with_reducible exact h_.2.2.2.2.2.2.1 | with_reducible exact h_.2.2.2.2.2.2.2.1 | with_reducible exact h_.2.2.2.2.2.2.2.2.1 | with_reducible exact h_.2 | with_reducible exact h_.2.2 | with_reducible exact h_.2.2.2 | with_reducible exact h_.2.2.2.2 | with_reducible exact h_.2.2.2.2.2 | with_reducible exact h_.2.2.2.2.2.2 | with_reducible exact h_.2.2.2.2.2.2.2 | with_reducible exact h_.2.2.2.2.2.2.2.2)) (.int .i64 t320)) (fun _ hk => by first | exact hk.2 | (have h_ := hk; (try simp only [and_assoc, true_and] at h_); (repeat' apply And.intro) <;> first | with_reducible exact h_.1 | with_reducible exact h_.2.1 | with_reducible exact h_.2.2.1 | with_reducible exact h_.2.2.2.1 | with_reducible exact h_.2.2.2.2.1 | with_reducible exact h_.2.2.2.2.2.1 | with_reducible exact h_.2.2.2.2.2.2.1 | with_reducible exact h_.2.2.2.2.2.2.2.1 | with_reducible exact h_.2.2.2.2.2.2.2.2.1 | with_reducible exact h_.2 | with_reducible exact h_.2.2 | with_reducible exact h_.2.2.2 | with_reducible exact h_.2.2.2.2 | with_reducible exact h_.2.2.2.2.2 | with_reducible exact h_.2.2.2.2.2.2 | with_reducible exact h_.2.2.2.2.2.2.2 | with_reducible exact h_.2.2.2.2.2.2.2.2)) (.slice Ao165 t321.length co165)) (fun _ h_ => h_.1))) hb); have n1_ := aK (Kd.R_below (by (with_reducible repeat (first | apply Kd.R_alloc | apply Kd.R_drewN | apply Kd.R_drew)); exact (Kd.R_mono (Kd.R_far (p := ⟨gb324, 2, none⟩) (Kd.R_far (p := ⟨gb324, 1, none⟩) (Kd.R_far (p := ⟨gb324, 0, none⟩) (Kd.R_types HO313.out BK324.out (by decide)) (fun _ hk => by first | exact hk.2 | (have h_ := hk; (try simp only [and_assoc, true_and] at h_); (repeat' apply And.intro) <;> first | with_reducible exact h_.1 | with_reducible exact h_.2.1 | with_reducible exact h_.2.2.1 | with_reducible exact h_.2.2.2.1 | with_reducible exact h_.2.2.2.2.1 | with_reducible exact h_.2.2.2.2.2.1 | with_reducible exact h_.2.2.2.2.2.2.1 | with_reducible exact h_.2.2.2.2.2.2.2.1 | with_reducible exact h_.2.2.2.2.2.2.2.2.1 | with_reducible exact h_.2 | with_reducible exact h_.2.2 | with_reducible exact h_.2.2.2 | with_reducible exact h_.2.2.2.2 | with_reducible exact h_.2.2.2.2.2 | with_reducible exact h_.2.2.2.2.2.2 | with_reducible exact h_.2.2.2.2.2.2.2 | with_reducible exact h_.2.2.2.2.2.2.2.2)) (.int .i64 t319)) (fun _ hk => by first | exact hk.2 | (have h_ := hk; (try simp only [and_assoc, true_and] at h_); (repeat' apply And.intro) <;> first | with_reducible exact h_.1 | with_reducible exact h_.2.1 | with_reducible exact h_.2.2.1 | with_reducible exact h_.2.2.2.1 | with_reducible exact h_.2.2.2.2.1 | with_reducible exact h_.2.2.2.2.2.1 | with_reducible exact h_.2.2.2.2.2.2.1 | with_reducible exact h_.2.2.2.2.2.2.2.1 | with_reducible exact h_.2.2.2.2.2.2.2.2.1 | with_reducible exact h_.2 | with_reducible exact h_.2.2 | with_reducible exact h_.2.2.2 | with_reducible exact h_.2.2.2.2 | with_reducible exact h_.2.2.2.2.2 | with_reducible exact h_.2.2.2.2.2.2 | with_reducible exact h_.2.2.2.2.2.2.2 | with_reducible exact h_.2.2.2.2.2.2.2.2)) (.int .i64 t320)) (fun _ hk => by first | exact hk.2 | (have h_ := hk; (try simp only [and_assoc, true_and] at h_); (repeat' apply And.intro) <;> first | with_reducible exact h_.1 | with_reducible exact h_.2.1 | with_reducible exact h_.2.2.1 | with_reducible exact h_.2.2.2.1 | with_reducible exact h_.2.2.2.2.1 | with_reducible exact h_.2.2.2.2.2.1 | with_reducible exact h_.2.2.2.2.2.2.1 | with_reducible exact h_.2.2.2.2.2.2.2.1 | with_reducible exact h_.2.2.2.2.2.2.2.2.1 | with_reducible exact h_.2 | with_reducible exact h_.2.2 | with_reducible exact h_.2.2.2 | with_reducible exact h_.2.2.2.2 | with_reducible exact h_.2.2.2.2.2 | with_reducible exact h_.2.2.2.2.2.2 | with_reducible exact h_.2.2.2.2.2.2.2 | with_reducible exact h_.2.2.2.2.2.2.2.2)) (.slice Ao165 t321.length co165)) (fun _ h_ => h_.1))) hb); have n2_ := aK (Kd.S_below (by (with_reducible repeat (first | apply Kd.S_alloc | apply Kd.S_drewN | apply Kd.S_drew)); exact (Kd.S_mono (Kd.S_far (p := ⟨gb324, 2, none⟩) (Kd.S_far (p := ⟨gb324, 1, none⟩) (Kd.S_far (p := ⟨gb324, 0, none⟩) (Kd.S_types HO317.out BK324.out (by decide)) (fun _ hk => by first | exact hk.2 | (have h_ := hk; (try simp only [and_assoc, true_and] at h_); (repeat' apply And.intro) <;> first | with_reducible exact h_.1 | with_reducible exact h_.2.1 | with_reducible exact h_.2.2.1 | with_reducible exact h_.2.2.2.1 | with_reducible exact h_.2.2.2.2.1 | with_reducible exact h_.2.2.2.2.2.1 | with_reducible exact h_.2.2.2.2.2.2.1 | with_reducible exact h_.2.2.2.2.2.2.2.1 | with_reducible exact h_.2.2.2.2.2.2.2.2.1 | with_reducible exact h_.2 | with_reducible exact h_.2.2 | with_reducible exact h_.2.2.2 | with_reducible exact h_.2.2.2.2 | with_reducible exact h_.2.2.2.2.2 | with_reducible exact h_.2.2.2.2.2.2 | with_reducible exact h_.2.2.2.2.2.2.2 | with_reducible exact h_.2.2.2.2.2.2.2.2)) (.int .i64 t319)) (fun _ hk => by first | exact hk.2 | (have h_ := hk; (try simp only [and_assoc, true_and] at h_); (repeat' apply And.intro) <;> first | with_reducible exact h_.1 | with_reducible exact h_.2.1 | with_reducible exact h_.2.2.1 | with_reducible exact h_.2.2.2.1 | with_reducible exact h_.2.2.2.2.1 | with_reducible exact h_.2.2.2.2.2.1 | with_reducible exact h_.2.2.2.2.2.2.1 | with_reducible exact h_.2.2.2.2.2.2.2.1 | with_reducible exact h_.2.2.2.2.2.2.2.2.1 | with_reducible exact h_.2 | with_reducible exact h_.2.2 | with_reducible exact h_.2.2.2 | with_reducible exact h_.2.2.2.2 | with_reducible exact h_.2.2.2.2.2 | with_reducible exact h_.2.2.2.2.2.2 | with_reducible exact h_.2.2.2.2.2.2.2 | with_reducible exact h_.2.2.2.2.2.2.2.2)) (.int .i64 t320)) (fun _ hk => by first | exact hk.2 | (have h_ := hk; (try simp only [and_assoc, true_and] at h_); (repeat' apply And.intro) <;> first | with_reducible exact h_.1 | with_reducible exact h_.2.1 | with_reducible exact h_.2.2.1 | with_reducible exact h_.2.2.2.1 | with_reducible exact h_.2.2.2.2.1 | with_reducible exact h_.2.2.2.2.2.1 | with_reducible exact h_.2.2.2.2.2.2.1 | with_reducible exact h_.2.2.2.2.2.2.2.1 | with_reducible exact h_.2.2.2.2.2.2.2.2.1 | with_reducible exact h_.2 | with_reducible exact h_.2.2 | with_reducible exact h_.2.2.2 | with_reducible exact h_.2.2.2.2 | with_reducible exact h_.2.2.2.2.2 | with_reducible exact h_.2.2.2.2.2.2 | with_reducible exact h_.2.2.2.2.2.2.2 | with_reducible exact h_.2.2.2.2.2.2.2.2)) (.slice Ao165 t321.length co165)) (fun _ h_ => h_.1))) hb); have n3_ := aK (Kd.R_below (by (with_reducible repeat (first | apply Kd.R_alloc | apply Kd.R_drewN | apply Kd.R_drew)); exact (Kd.R_mono (Kd.R_far (p := ⟨gb324, 2, none⟩) (Kd.R_far (p := ⟨gb324, 1, none⟩) (Kd.R_far (p := ⟨gb324, 0, none⟩) (Kd.R_types HO323.out BK324.out (by decide)) (fun _ hk => by first | exact hk.2 | (have h_ := hk; (try simp only [and_assoc, true_and] at h_); (repeat' apply And.intro) <;> first | with_reducible exact h_.1 | with_reducible exact h_.2.1 | with_reducible exact h_.2.2.1 | with_reducible exact h_.2.2.2.1 | with_reducible exact h_.2.2.2.2.1 | with_reducible exact h_.2.2.2.2.2.1 | with_reducible exact h_.2.2.2.2.2.2.1 | with_reducible exact h_.2.2.2.2.2.2.2.1 | with_reducible exact h_.2.2.2.2.2.2.2.2.1 | with_reducible exact h_.2 | with_reducible exact h_.2.2 | with_reducible exact h_.2.2.2 | with_reducible exact h_.2.2.2.2 | with_reducible exact h_.2.2.2.2.2 | with_reducible exact h_.2.2.2.2.2.2 | with_reducible exact h_.2.2.2.2.2.2.2 | with_reducible exact h_.2.2.2.2.2.2.2.2)) (.int .i64 t319)) (fun _ hk => by first | exact hk.2 | (have h_ := hk; (try simp only [and_assoc, true_and] at h_); (repeat' apply And.intro) <;> first | with_reducible exact h_.1 | with_reducible exact h_.2.1 | with_reducible exact h_.2.2.1 | with_reducible exact h_.2.2.2.1 | with_reducible exact h_.2.2.2.2.1 | with_reducible exact h_.2.2.2.2.2.1 | with_reducible exact h_.2.2.2.2.2.2.1 | with_reducible exact h_.2.2.2.2.2.2.2.1 | with_reducible exact h_.2.2.2.2.2.2.2.2.1 | with_reducible exact h_.2 | with_reducible exact h_.2.2 | with_reducible exact h_.2.2.2 | with_reducible exact h_.2.2.2.2 | with_reducible exact h_.2.2.2.2.2 | with_reducible exact h_.2.2.2.2.2.2 | with_reducible exact h_.2.2.2.2.2.2.2 | with_reducible exact h_.2.2.2.2.2.2.2.2)) (.int .i64 t320)) (fun _ hk => by first | exact hk.2 | (have h_ := hk; (try simp only [and_assoc, true_and] at h_); (repeat' apply And.intro) <;> first | with_reducible exact h_.1 | with_reducible exact h_.2.1 | with_reducible exact h_.2.2.1 | with_reducible exact h_.2.2.2.1 | with_reducible exact h_.2.2.2.2.1 | with_reducible exact h_.2.2.2.2.2.1 | with_reducible exact h_.2.2.2.2.2.2.1 | with_reducible exact h_.2.2.2.2.2.2.2.1 | with_reducible exact h_.2.2.2.2.2.2.2.2.1 | with_reducible exact h_.2 | with_reducible exact h_.2.2 | with_reducible exact h_.2.2.2 | with_reducible exact h_.2.2.2.2 | with_reducible exact h_.2.2.2.2.2 | with_reducible exact h_.2.2.2.2.2.2 | with_reducible exact h_.2.2.2.2.2.2.2 | with_reducible exact h_.2.2.2.2.2.2.2.2)) (.slice Ao165 t321.length co165)) (fun _ h_ => h_.1))) hb); have n4_ := aK (bB (g := gb302) (o := .cells #[.slice A0_0 l0_0.length c0_0] 41 (0, 0)) (by (with_reducible repeat (first | refine bN ?_ _ | refine bD ?_ | refine bA ?_ _)); refine blk_far ?_ NB302_324.out _; (with_reducible repeat (first | refine bN ?_ _ | refine bD ?_ | refine bA ?_ _)); refine blk_far ?_ NB302_324.out _; (with_reducible repeat (first | refine bN ?_ _ | refine bD ?_ | refine bA ?_ _)); refine blk_far ?_ NB302_324.out _; (with_reducible repeat (first | refine bN ?_ _ | refine bD ?_ | refine bA ?_ _)); exact BK302.out) hb); have n5_ := aK (bB (g := gb303) (o := .cells #[.int .i64 a1_0, .int .i64 a1_1, .slice A1_2 l1_2.length c1_2] 24 (0, 0)) (by (with_reducible repeat (first | refine bN ?_ _ | refine bD ?_ | refine bA ?_ _)); refine blk_far ?_ NB303_324.out _; (with_reducible repeat (first | refine bN ?_ _ | refine bD ?_ | refine bA ?_ _)); refine blk_far ?_ NB303_324.out _; (with_reducible repeat (first | refine bN ?_ _ | refine bD ?_ | refine bA ?_ _)); refine blk_far ?_ NB303_324.out _; (with_reducible repeat (first | refine bN ?_ _ | refine bD ?_ | refine bA ?_ _)); exact BK303.out) hb); have n6_ := aK (bB (g := gb318) (o := .cells #[.slice Ao154 t315.length co154] 44 (0, 0)) (by (with_reducible repeat (first | refine bN ?_ _ | refine bD ?_ | refine bA ?_ _)); refine blk_far ?_ NB318_324.out _; (with_reducible repeat (first | refine bN ?_ _ | refine bD ?_ | refine bA ?_ _)); refine blk_far ?_ NB318_324.out _; (with_reducible repeat (first | refine bN ?_ _ | refine bD ?_ | refine bA ?_ _)); refine blk_far ?_ NB318_324.out _; (with_reducible repeat (first | refine bN ?_ _ | refine bD ?_ | refine bA ?_ _)); exact BK318.out) hb); have n7_ := aK (bB (g := gb324) (o := .cells #[.int .i64 t319, .int .i64 t320, .slice Ao165 t321.length co165] 27 (0, 0)) (by (with_reducible repeat (first | refine bN ?_ _ | refine bD ?_ | refine bA ?_ _)); refine blk_put (cs := #[.int .i64 t319, .int .i64 t320, .slice none 0 0]) ?_ 2 _ rfl; (with_reducible repeat (first | refine bN ?_ _ | refine bD ?_ | refine bA ?_ _)); refine blk_put (cs := #[.int .i64 t319, .int .i64 0, .slice none 0 0]) ?_ 1 _ rfl; (with_reducible repeat (first | refine bN ?_ _ | refine bD ?_ | refine bA ?_ _)); refine blk_put (cs := #[.int .i64 0, .int .i64 0, .slice none 0 0]) ?_ 0 _ rfl; (with_reducible repeat (first | refine bN ?_ _ | refine bD ?_ | refine bA ?_ _)); exact BK324.out) hb); have n8_ := aK (below_step (by repeat (first | (with_reducible first | exact HB.out | apply bL | apply bM | apply b1 | refine bS ?_ GE302.out | refine bS ?_ GE303.out | refine bS ?_ GE318.out | refine bS ?_ GE324.out) | exact HB.out)) hb); clear HO308; clear HO313; clear HO317; clear HO323; clear BK302; clear BK303; clear BK318; clear BK324; clear HB; have HO308 := n0_; have HO313 := n1_; have HO317 := n2_; have HO323 := n3_; have BK302 := n4_; have BK303 := n5_; have BK318 := n6_; have BK324 := n7_; have HB := n8_; clear n0_ n1_ n2_ n3_ n4_ n5_ n6_ n7_ n8_; (try clear hb); (try clear hb2); (try clear hk); (try clear hi)))
     have n0_ := aK (Kd.S_drew HO308.out)
     have n1_ := aK (Kd.R_drew HO313.out)
     have n2_ := aK (Kd.S_drew HO317.out)
     have n3_ := aK (Kd.R_drew HO323.out)
     have n4_ := aK (bD BK302.out)
     have n5_ := aK (bD BK303.out)
     have n6_ := aK (bD BK318.out)
     have n7_ := aK (bD BK324.out)
     have n8_ := aK (b1 HB.out)
     clear HO308
     clear HO313
     clear HO317
     clear HO323
     clear BK302
     clear BK303
     clear BK318
     clear BK324
     clear HB
     have HO308 := n0_
     have HO313 := n1_
     have HO317 := n2_
     have HO323 := n3_
     have BK302 := n4_
     have BK303 := n5_
     have BK318 := n6_
     have BK324 := n7_
     have HB := n8_
     clear n0_ n1_ n2_ n3_ n4_ n5_ n6_ n7_ n8_
     refine start_ (n := 5) (S := fun w' => w'.cell? ⟨gb318, 0, none⟩ = some (.slice Ao154 t315.length co154) ∧ w'.cell? ⟨gb302, 0, none⟩ = some (.slice A0_0 l0_0.length c0_0)) (ds := []) #[false, false, false, false, false] (by kernel_rfl) rfl rfl ⟨(bC BK318.out 0).trans rfl, (bC BK302.out 0).trans rfl⟩ (fun hHeld => ?_)
     generalize w167.drew = w168 at HO308 HO313 HO317 HO323 BK302 BK303 BK318 BK324 HB hHeld ⊢
     refine take_ (i := 0) (N := some 35) (v := ?_) (a' := ?_) #[true, false, false, false, false] rfl rfl (by kernel_rfl) (fun _ _ _ h => h) (Or.inl ⟨by rfl, ?_⟩) hHeld ?_ ?_
     rotate_left
     ·rintro w' ⟨s0, s1⟩
      go_simp
      with_reducible rfl
     rotate_left
     ·simp only [Act.put, lA, l0', lS, i64_w, i32_w]
      rfl
     refine take_ (i := 1) (N := some 36) (v := ?_) (a' := ?_) #[true, true, false, false, false] rfl rfl (by kernel_rfl) (fun _ _ _ h => h) (Or.inl ⟨by rfl, ?_⟩) hHeld ?_ ?_
     rotate_left
     ·rintro w' ⟨s0, s1⟩
      go_simp
      with_reducible rfl
     rotate_left
     ·simp only [Act.put, lA, l0', lS, i64_w, i32_w]
      rfl
     refine one_ (i := 2) (N := some 37) #[true, true, true, false, false] rfl rfl (by kernel_rfl) (by decide) (fun K hK => ?_)
     refine goes_ Try.func42 (by kernel_rfl) rfl #[.agg #[.slice A0_0 l0_0.length c0_0]] (by rfl) rfl rfl (by (try simp only [mA, mC, mN]); first | done | rfl) ?_
     with_reducible refine (laws_toDeal.calls k _ _ l0_0 t326 _ ?side1 ?side2 A56.out).mono ?_
     (case side1 => repeat (first | exact (Kd.C_below HR0_0.out HB.out) | (with_reducible refine Kd.C_alloc ?_ _) | (with_reducible refine Kd.C_drewN ?_ _) | (with_reducible refine Kd.C_drew ?_)))
     (case side2 => exact HC0_0.out)
     rintro e w169 ⟨v327, rfl, ho0, hb⟩
     refine ⟨_, rfl, ?_⟩
     have n0_ := aK (Kd.S_elder' (by (with_reducible repeat (first | apply Kd.S_alloc | apply Kd.S_drewN | apply Kd.S_drew)); exact HO308.out) (Kd.S_base ho0) hb)
     have n1_ := aK (Kd.R_below (by (with_reducible repeat (first | apply Kd.R_alloc | apply Kd.R_drewN | apply Kd.R_drew)); exact HO313.out) hb)
     have n2_ := aK (Kd.S_elder' (by (with_reducible repeat (first | apply Kd.S_alloc | apply Kd.S_drewN | apply Kd.S_drew)); exact HO317.out) (Kd.S_base ho0) hb)
     have n3_ := aK (Kd.R_below (by (with_reducible repeat (first | apply Kd.R_alloc | apply Kd.R_drewN | apply Kd.R_drew)); exact HO323.out) hb)
     have n4_ := aK (Kd.S_lower (Kd.S_new' (Kd.S_new' (Kd.S_new' (Kd.S_new' ho0 (Kd.S_lt (by (with_reducible repeat (first | apply Kd.S_alloc | apply Kd.S_drewN | apply Kd.S_drew)); exact HO308.out))) (Kd.R_lt (by (with_reducible repeat (first | apply Kd.R_alloc | apply Kd.R_drewN | apply Kd.R_drew)); exact HO313.out))) (Kd.S_lt (by (with_reducible repeat (first | apply Kd.S_alloc | apply Kd.S_drewN | apply Kd.S_drew)); exact HO317.out))) (Kd.R_lt (by (with_reducible repeat (first | apply Kd.R_alloc | apply Kd.R_drewN | apply Kd.R_drew)); exact HO323.out))) (below_size (by repeat (first | (with_reducible first | exact HB.out | apply bL | apply bM | apply b1 | refine bS ?_ GE302.out | refine bS ?_ GE303.out | refine bS ?_ GE318.out | refine bS ?_ GE324.out) | exact HB.out))))
     have n5_ := aK (bB (by (with_reducible repeat (first | refine bN ?_ _ | refine bD ?_ | refine bA ?_ _)); exact BK302.out) hb)
     have n6_ := aK (bB (by (with_reducible repeat (first | refine bN ?_ _ | refine bD ?_ | refine bA ?_ _)); exact BK303.out) hb)
     have n7_ := aK (bB (by (with_reducible repeat (first | refine bN ?_ _ | refine bD ?_ | refine bA ?_ _)); exact BK318.out) hb)
     have n8_ := aK (bB (by (with_reducible repeat (first | refine bN ?_ _ | refine bD ?_ | refine bA ?_ _)); exact BK324.out) hb)
     have n9_ := aK (below_step (by repeat (first | (with_reducible first | exact HB.out | apply bL | apply bM | apply b1 | refine bS ?_ GE302.out | refine bS ?_ GE303.out | refine bS ?_ GE318.out | refine bS ?_ GE324.out) | exact HB.out)) hb)
     clear HO308
     clear HO313
     clear HO317
     clear HO323
     clear BK302
     clear BK303
     clear BK318
     clear BK324
     clear HB
     have HO308 := n0_
     have HO313 := n1_
     have HO317 := n2_
     have HO323 := n3_
     have HO328 := n4_
     have BK302 := n5_
     have BK303 := n6_
     have BK318 := n7_
     have BK324 := n8_
     have HB := n9_
     clear n0_ n1_ n2_ n3_ n4_ n5_ n6_ n7_ n8_ n9_
     (try clear hb)
     (try clear hb2)
     (try clear hk)
     (try clear hi)
     (try clear ho0)
     obtain ⟨Ao170, co170, eo170⟩ := Kd.S_slice HO328.out
     (first | subst eo170 | (injection eo170 with f1_ f2_ f3_; have f4_ := f1_.symm; have f5_ := f3_.symm; clear f1_ f2_ f3_; subst f4_; subst f5_))
     refine hK.out _ _ ⟨(bC BK318.out 0).trans rfl, (bC BK302.out 0).trans rfl⟩ (fun hHeld => ?_)
     clear hK K
     refine norm_ (a' := ?_) ?_ ?_
     rotate_left
     ·show Act.put _ (some 37) _ = _
      simp only [Act.put, lA, l0', lS, i64_w, i32_w]
      rfl
     refine one_ (i := 3) (N := some 38) #[true, true, true, true, false] rfl rfl (by kernel_rfl) (by decide) (fun K hK => ?_)
     refine goes_ Try.func44 (by kernel_rfl) rfl #[.agg #[.slice Ao154 t315.length co154], .agg #[.slice Ao170 t326.length co170]] (by rfl) rfl rfl (by (try simp only [mA, mC, mN]); first | done | rfl) ?_
     with_reducible refine (laws_eqDeal.calls k _ _ t315 _ _ t326 false _ ?side1 ?side2 ?side3 ?side4 A57.out).mono ?_
     (case side1 => repeat (first | exact (Kd.S_reads' HO317.out).2.2 | (with_reducible refine Kd.C_alloc ?_ _) | (with_reducible refine Kd.C_drewN ?_ _) | (with_reducible refine Kd.C_drew ?_)))
     (case side2 => exact (Kd.S_reads' HO317.out).2.1)
     (case side3 => repeat (first | exact (Kd.S_reads' HO328.out).2.2 | (with_reducible refine Kd.C_alloc ?_ _) | (with_reducible refine Kd.C_drewN ?_ _) | (with_reducible refine Kd.C_drew ?_)))
     (case side4 => exact (Kd.S_reads' HO328.out).2.1)
     rintro e w171 ⟨rfl, hb⟩
     refine ⟨_, rfl, ?_⟩
     have n0_ := aK (Kd.S_below (by (with_reducible repeat (first | apply Kd.S_alloc | apply Kd.S_drewN | apply Kd.S_drew)); exact HO308.out) hb)
     have n1_ := aK (Kd.R_below (by (with_reducible repeat (first | apply Kd.R_alloc | apply Kd.R_drewN | apply Kd.R_drew)); exact HO313.out) hb)
     have n2_ := aK (Kd.S_below (by (with_reducible repeat (first | apply Kd.S_alloc | apply Kd.S_drewN | apply Kd.S_drew)); exact HO317.out) hb)
     have n3_ := aK (Kd.R_below (by (with_reducible repeat (first | apply Kd.R_alloc | apply Kd.R_drewN | apply Kd.R_drew)); exact HO323.out) hb)
     have n4_ := aK (Kd.S_below (by (with_reducible repeat (first | apply Kd.S_alloc | apply Kd.S_drewN | apply Kd.S_drew)); exact HO328.out) hb)
     have n5_ := aK (bB (by (with_reducible repeat (first | refine bN ?_ _ | refine bD ?_ | refine bA ?_ _)); exact BK302.out) hb)
     have n6_ := aK (bB (by (with_reducible repeat (first | refine bN ?_ _ | refine bD ?_ | refine bA ?_ _)); exact BK303.out) hb)
     have n7_ := aK (bB (by (with_reducible repeat (first | refine bN ?_ _ | refine bD ?_ | refine bA ?_ _)); exact BK318.out) hb)
     have n8_ := aK (bB (by (with_reducible repeat (first | refine bN ?_ _ | refine bD ?_ | refine bA ?_ _)); exact BK324.out) hb)
     have n9_ := aK (below_step (by repeat (first | (with_reducible first | exact HB.out | apply bL | apply bM | apply b1 | refine bS ?_ GE302.out | refine bS ?_ GE303.out | refine bS ?_ GE318.out | refine bS ?_ GE324.out) | exact HB.out)) hb)
     clear HO308
     clear HO313
     clear HO317
     clear HO323
     clear HO328
     clear BK302
     clear BK303
     clear BK318
     clear BK324
     clear HB
     have HO308 := n0_
     have HO313 := n1_
     have HO317 := n2_
     have HO323 := n3_
     have HO328 := n4_
     have BK302 := n5_
     have BK303 := n6_
     have BK318 := n7_
     have BK324 := n8_
     have HB := n9_
     clear n0_ n1_ n2_ n3_ n4_ n5_ n6_ n7_ n8_ n9_
     (try clear hb)
     (try clear hb2)
     (try clear hk)
     (try clear hi)
     refine hK.out _ _ ⟨(bC BK318.out 0).trans rfl, (bC BK302.out 0).trans rfl⟩ (fun hHeld => ?_)
     clear hK K
     refine norm_ (a' := ?_) ?_ ?_
     rotate_left
     ·show Act.put _ (some 38) _ = _
      simp only [Act.put, lA, l0', lS, i64_w, i32_w]
      rfl
     refine pure_ (i := 4) (N := some 39) (v := ?_) (a' := ?_) #[true, true, true, true, true] rfl rfl (by kernel_rfl) (fun _ _ _ h => h) (Or.inl ⟨by rfl, ?_⟩) ?_ ?_
     rotate_left
     ·intro w'
      go_simp
      with_reducible rfl
     rotate_left
     ·simp only [Act.put, lA, l0', lS, i64_w, i32_w]
      rfl
     refine done_ (by kernel_rfl) ?_
     try go_wp2
     go_ret
     exact ⟨by first | rfl | (simp [errW_none, errW_some] <;> rfl) | (simp [*, errW_none, errW_some] <;> rfl), by repeat (first | (with_reducible first | exact HB.out | apply bL | apply bM | apply b1 | refine bS ?_ GE302.out | refine bS ?_ GE303.out | refine bS ?_ GE318.out | refine bS ?_ GE324.out) | exact HB.out)⟩

end Go.Proofs.Ytakepkjcmgcepaa.QFnExactIsLoosePlay
