/- The functions that the law FnExactTurnOf reaches, as plain functions, and the walks that show that the machine's calls answer so. Written by a program of this session (wip/myprint.py) on the kit's print. -/
import Derived.Test.YtakepkjcmgcepaaQFnExactTurnOfx0
import Derived.Test.YtakepkjcmgcepaaQFnExactTurnOfx1
import Derived.Test.YtakepkjcmgcepaaQFnExactTurnOfx2
import Derived.Test.YtakepkjcmgcepaaQFnExactTurnOfx6
import Derived.Test.YtakepkjcmgcepaaQFnExactTurnOfx10
namespace Go.Proofs.Ytakepkjcmgcepaa.QFnExactTurnOf
open Go.RowKit Go.Proofs.YtakepkjcmgcepaaW.PrintWords Go.Proofs.YtakepkjcmgcepaaW.PrintLast Go.Proofs.YtakepkjcmgcepaaW.PrintMore
attribute [local go_sem] max2_int min2_int max_two min_two max_three min_three max_four min_four   -- for this text's walks alone
set_option linter.unusedVariables false
set_option linter.unusedSimpArgs false

/-! ### laws_FnExactTurnOf: function 10 -/
def laws_FnExactTurnOf.f (k : Nat) (l0_0 : List (List Int)) (a1_0 : Int) (a1_1 : Int) (l1_2 : List Int) : Option (Bool) := (laws_szDeal.f k l0_0 1048576).bind fun t351 => (if t351 < 0 then (some true) else ((laws_szPlay.f a1_0 a1_1 l1_2 t351).bind fun t352 => (if t352 < 0 then (some true) else ((laws_toDeal.f k l0_0).bind fun t353 => ((laws_toPlay.f k a1_0 a1_1 l1_2).bind fun bt356 => ((spec_TurnOf.f k t353 bt356.1 bt356.2.1 bt356.2.2).bind fun t361 => ((laws_toDeal.f k l0_0).bind fun t362 => ((laws_toPlay.f k a1_0 a1_1 l1_2).bind fun bt366 => ((impl_TurnOf.f k t362 bt366.1 bt366.2.1 bt366.2.2).bind fun t372 => (if t372 = t361 then ((laws_toDeal.f k l0_0).bind fun t373 => ((laws_eqDeal.f k t362 t373).bind fun t376 => (if t376 = true then ((laws_toPlay.f k a1_0 a1_1 l1_2).bind fun bt377 => ((laws_eqPlay.f k bt366.1 bt366.2.1 bt366.2.2 bt377.1 bt377.2.1 bt377.2.2).bind fun t382 => (if t382 = true then (some true) else (some false)))) else (some false)))) else (some false)))))))))))
theorem laws_FnExactTurnOf.mono : ∀ a0 a1 a2 a3 k, LeO (laws_FnExactTurnOf.f k a0 a1 a2 a3) (laws_FnExactTurnOf.f (k + 1) a0 a1 a2 a3) := by
 intro a0 a1 a2 a3 k
 unfold laws_FnExactTurnOf.f
 repeat' first
   | (with_reducible exact impl_TurnOf.mono _ _ _ _ _)
   | (with_reducible exact laws_eqDeal.mono _ _ _)
   | (with_reducible exact laws_eqPlay.mono _ _ _ _ _ _ _)
   | (with_reducible exact laws_szDeal.mono _ _ _)
   | (with_reducible exact laws_toDeal.mono _ _)
   | (with_reducible exact laws_toPlay.mono _ _ _ _)
   | (with_reducible exact spec_TurnOf.mono _ _ _ _ _)
   | (with_reducible exact LeO.refl _)
   | (with_reducible exact LeO.none _)
   | (with_reducible refine LeO.ite ?_ ?_)
   | (with_reducible refine LeO.bind ?_ (fun _=>?_))
   | exact impl_TurnOf.mono _ _ _ _ _
   | exact laws_eqDeal.mono _ _ _
   | exact laws_eqPlay.mono _ _ _ _ _ _ _
   | exact laws_szDeal.mono _ _ _
   | exact laws_toDeal.mono _ _
   | exact laws_toPlay.mono _ _ _ _
   | exact spec_TurnOf.mono _ _ _ _ _
   | exact LeO.none _
   | refine LeO.ite ?_ ?_
   | refine LeO.bind ?_ (fun _=>?_)
set_option maxHeartbeats 8000000 in
set_option maxRecDepth 100000 in
theorem laws_FnExactTurnOf.calls (k : Nat) (A0_0 : Option Addr) (c0_0 : Nat) (l0_0 : List (List Int)) (a1_0 : Int) (a1_1 : Int) (A1_2 : Option Addr) (c1_2 : Nat) (l1_2 : List Int) (r : Bool) (w : World) (hr0_0 : Kd.C (Kd.slice 2 (Kd.int .i64)) w A0_0 l0_0.length l0_0) (hc0_0 : l0_0.length ≤ c0_0) (hr1_2 : Kd.C (Kd.int .i64) w A1_2 l1_2.length l1_2) (hc1_2 : l1_2.length ≤ c1_2) (h : laws_FnExactTurnOf.f k l0_0 a1_0 a1_1 l1_2 = some r) :
  Calls Try.prog 10 #[.agg #[.slice A0_0 l0_0.length c0_0],.agg #[.int .i64 a1_0,.int .i64 a1_1,.slice A1_2 l1_2.length c1_2]] w fun e w'=>e = .returned (.bool r) ∧ Below w.heap.size w w':=by
 have hu41:=Try.underlying41
 have hu24:=Try.underlying24
 have hu44:=Try.underlying44
 have hu27:=Try.underlying27
 have HR0_0:=aK hr0_0
 have HC0_0:=aK hc0_0
 clear hr0_0 hc0_0
 have HR1_2:=aK hr1_2
 have HC1_2:=aK hc1_2
 clear hr1_2 hc1_2
 have HB:=aK (Below.refl w.heap.size w)
 have H : ((laws_szDeal.f k l0_0 1048576).bind fun t351=>(if t351 < 0 then (some true) else ((laws_szPlay.f a1_0 a1_1 l1_2 t351).bind fun t352=>(if t352 < 0 then (some true) else ((laws_toDeal.f k l0_0).bind fun t353=>((laws_toPlay.f k a1_0 a1_1 l1_2).bind fun bt356=>((spec_TurnOf.f k t353 bt356.1 bt356.2.1 bt356.2.2).bind fun t361=>((laws_toDeal.f k l0_0).bind fun t362=>((laws_toPlay.f k a1_0 a1_1 l1_2).bind fun bt366=>((impl_TurnOf.f k t362 bt366.1 bt366.2.1 bt366.2.2).bind fun t372=>(if t372 = t361 then ((laws_toDeal.f k l0_0).bind fun t373=>((laws_eqDeal.f k t362 t373).bind fun t376=>(if t376 = true then ((laws_toPlay.f k a1_0 a1_1 l1_2).bind fun bt377=>((laws_eqPlay.f k bt366.1 bt366.2.1 bt366.2.2 bt377.1 bt377.2.1 bt377.2.2).bind fun t382=>(if t382 = true then (some true) else (some false)))) else (some false)))) else (some false)))))))))))) = some r:=h
 clear h
 replace H:=Option.bind_eq_some_iff.mp H
 obtain ⟨t351,A30,H⟩:=H
 replace H : (if t351 < 0 then (some true) else ((laws_szPlay.f a1_0 a1_1 l1_2 t351).bind fun t352=>(if t352 < 0 then (some true) else ((laws_toDeal.f k l0_0).bind fun t353=>((laws_toPlay.f k a1_0 a1_1 l1_2).bind fun bt356=>((spec_TurnOf.f k t353 bt356.1 bt356.2.1 bt356.2.2).bind fun t361=>((laws_toDeal.f k l0_0).bind fun t362=>((laws_toPlay.f k a1_0 a1_1 l1_2).bind fun bt366=>((impl_TurnOf.f k t362 bt366.1 bt366.2.1 bt366.2.2).bind fun t372=>(if t372 = t361 then ((laws_toDeal.f k l0_0).bind fun t373=>((laws_eqDeal.f k t362 t373).bind fun t376=>(if t376 = true then ((laws_toPlay.f k a1_0 a1_1 l1_2).bind fun bt377=>((laws_eqPlay.f k bt366.1 bt366.2.1 bt366.2.2 bt377.1 bt377.2.1 bt377.2.2).bind fun t382=>(if t382 = true then (some true) else (some false)))) else (some false)))) else (some false))))))))))) = some r:=H
 have A3:=aK A30
 clear A30
 by_cases c4 : t351 < 0
 ·rw [if_pos c4] at H
  have c4b0 : decide (t351 < 0) = true:=decide_eq_true c4
  clear c4
  obtain rfl:=Option.some.inj H
  go_enter Try.func10,Try.ntmps10
  go_wp2_with (first|((with_reducible refine gate_dst (N:=2) rfl ?_);refine box_event ?hg (N:=2) ?hd (cs:=#[.slice A0_0 l0_0.length c0_0]) (t:=41) ?hr ?_;(case hd=>rfl);(case hg=>rfl);(case hr=>first|(go_simp;done)|(go_simp;rfl));intro gb349 hg w5 hbox hb;have n0_:=aK (below_step (by repeat (first|(with_reducible first|exact HB.out|apply bL|apply bM|apply b1)|exact HB.out)) hb);have n1_:=aK (hbox);have n2_:=aK ((by rw [hg];exact (below_size (by repeat (first|(with_reducible first|exact HB.out|apply bL|apply bM|apply b1)|exact HB.out))) : w.heap.size ≤ gb349));have n3_:=aK ((by rw [hg];exact (below_size (by repeat (first|(with_reducible first|exact HB.out|apply bL|apply bM|apply b1)|exact HB.out))) : w.heap.size ≤ gb349));clear HB;have HB:=n0_;have BK349:=n1_;have GW349:=n2_;have GE349:=n3_;clear n0_ n1_ n2_ n3_;clear hb hbox hg)|((with_reducible refine gate_dst (N:=3) rfl ?_);refine box_event ?hg (N:=3) ?hd (cs:=#[.int .i64 a1_0,.int .i64 a1_1,.slice A1_2 l1_2.length c1_2]) (t:=24) ?hr ?_;(case hd=>rfl);(case hg=>rfl);(case hr=>first|(go_simp;done)|(go_simp;rfl));intro gb350 hg w6 hbox hb;have n0_:=aK (bB (by (with_reducible repeat first|apply bN|apply bD|apply bA);exact BK349.out) hb);have n1_:=aK (below_step (by repeat (first|(with_reducible first|exact HB.out|apply bL|apply bM|apply b1|refine bS ?_ GE349.out)|exact HB.out)) hb);have n2_:=aK (hbox);have n3_:=aK ((by rw [hg];exact (below_size (by repeat (first|(with_reducible first|exact HB.out|apply bL|apply bM|apply b1|refine bS ?_ GE349.out)|exact HB.out))) : w.heap.size ≤ gb350));have n4_:=aK ((by rw [hg];exact (below_size (by repeat (first|(with_reducible first|exact HB.out|apply bL|apply bM|apply b1|refine bS ?_ GE349.out)|exact HB.out))) : w.heap.size ≤ gb350));have n5_:=aK ((by rw [hg];exact Nat.ne_of_lt (blk_lt (by (with_reducible repeat first|apply bN|apply bD|apply bA);exact BK349.out)) : gb349 ≠ gb350));have n6_:=aK ((by rw [hg];exact Nat.ne_of_gt (blk_lt (by (with_reducible repeat first|apply bN|apply bD|apply bA);exact BK349.out)) : gb350 ≠ gb349));clear BK349;clear HB;have BK349:=n0_;have HB:=n1_;have BK350:=n2_;have GW350:=n3_;have GE350:=n4_;have NB349_350:=n5_;have NB350_349:=n6_;clear n0_ n1_ n2_ n3_ n4_ n5_ n6_;clear hb hbox hg;have hnb7:=NB349_350.out;have hnc7:=NB350_349.out;have hcz8_0 : w6.cell? ⟨gb349,0,none⟩ = some (.slice A0_0 l0_0.length c0_0):=(bC BK349.out 0).trans rfl;have hfz8_0:=blk_frozen BK349.out 0)|((with_reducible refine gate_callee (f:=40) rfl ?_);refine goesL_ (some 12) rfl rfl Try.func40 (by kernel_rfl) rfl #[.agg #[.slice A0_0 l0_0.length c0_0],.int .i64 1048576] rfl (by (try simp only [mA,mC,mN]);first|done|rfl) ?_;(with_reducible refine (laws_szDeal.calls k _ _ l0_0 1048576 t351 _ ?side1 ?side2 A3.out).mono ?_);(case side1=>repeat (first|exact (Kd.C_below HR0_0.out HB.out)|(with_reducible refine Kd.C_alloc ?_ _)|(with_reducible refine Kd.C_drewN ?_ _)|(with_reducible refine Kd.C_drew ?_)));(case side2=>exact HC0_0.out);rintro e w9 ⟨rfl,hb⟩;refine ⟨_,rfl,?_⟩;have n0_:=aK (bB (by (with_reducible repeat first|apply bN|apply bD|apply bA);exact BK349.out) hb);have n1_:=aK (bB (by (with_reducible repeat first|apply bN|apply bD|apply bA);exact BK350.out) hb);have n2_:=aK (below_step (by repeat (first|(with_reducible first|exact HB.out|apply bL|apply bM|apply b1|refine bS ?_ GE349.out|refine bS ?_ GE350.out)|exact HB.out)) hb);clear BK349;clear BK350;clear HB;have BK349:=n0_;have BK350:=n1_;have HB:=n2_;clear n0_ n1_ n2_;(try clear hb);(try clear hb2);(try clear hk);(try clear hi)))
  go_ret
  exact ⟨by first|rfl|(simp [errW_none,errW_some] <;> rfl)|(simp [*,errW_none,errW_some] <;> rfl),by repeat (first|(with_reducible first|exact HB.out|apply bL|apply bM|apply b1|refine bS ?_ GE349.out|refine bS ?_ GE350.out)|exact HB.out)⟩
 ·rw [if_neg c4] at H
  have c4b0 : decide (t351 < 0) = false:=decide_eq_false c4
  clear c4
  replace H:=Option.bind_eq_some_iff.mp H
  obtain ⟨t352,A100,H⟩:=H
  replace H : (if t352 < 0 then (some true) else ((laws_toDeal.f k l0_0).bind fun t353=>((laws_toPlay.f k a1_0 a1_1 l1_2).bind fun bt356=>((spec_TurnOf.f k t353 bt356.1 bt356.2.1 bt356.2.2).bind fun t361=>((laws_toDeal.f k l0_0).bind fun t362=>((laws_toPlay.f k a1_0 a1_1 l1_2).bind fun bt366=>((impl_TurnOf.f k t362 bt366.1 bt366.2.1 bt366.2.2).bind fun t372=>(if t372 = t361 then ((laws_toDeal.f k l0_0).bind fun t373=>((laws_eqDeal.f k t362 t373).bind fun t376=>(if t376 = true then ((laws_toPlay.f k a1_0 a1_1 l1_2).bind fun bt377=>((laws_eqPlay.f k bt366.1 bt366.2.1 bt366.2.2 bt377.1 bt377.2.1 bt377.2.2).bind fun t382=>(if t382 = true then (some true) else (some false)))) else (some false)))) else (some false))))))))) = some r:=H
  have A10:=aK A100
  clear A100
  by_cases c11 : t352 < 0
  ·rw [if_pos c11] at H
   have c11b0 : decide (t352 < 0) = true:=decide_eq_true c11
   clear c11
   obtain rfl:=Option.some.inj H
   go_enter Try.func10,Try.ntmps10
   go_wp2_with (first|((with_reducible refine gate_dst (N:=2) rfl ?_);refine box_event ?hg (N:=2) ?hd (cs:=#[.slice A0_0 l0_0.length c0_0]) (t:=41) ?hr ?_;(case hd=>rfl);(case hg=>rfl);(case hr=>first|(go_simp;done)|(go_simp;rfl));intro gb349 hg w12 hbox hb;have n0_:=aK (below_step (by repeat (first|(with_reducible first|exact HB.out|apply bL|apply bM|apply b1)|exact HB.out)) hb);have n1_:=aK (hbox);have n2_:=aK ((by rw [hg];exact (below_size (by repeat (first|(with_reducible first|exact HB.out|apply bL|apply bM|apply b1)|exact HB.out))) : w.heap.size ≤ gb349));have n3_:=aK ((by rw [hg];exact (below_size (by repeat (first|(with_reducible first|exact HB.out|apply bL|apply bM|apply b1)|exact HB.out))) : w.heap.size ≤ gb349));clear HB;have HB:=n0_;have BK349:=n1_;have GW349:=n2_;have GE349:=n3_;clear n0_ n1_ n2_ n3_;clear hb hbox hg)|((with_reducible refine gate_dst (N:=3) rfl ?_);refine box_event ?hg (N:=3) ?hd (cs:=#[.int .i64 a1_0,.int .i64 a1_1,.slice A1_2 l1_2.length c1_2]) (t:=24) ?hr ?_;(case hd=>rfl);(case hg=>rfl);(case hr=>first|(go_simp;done)|(go_simp;rfl));intro gb350 hg w13 hbox hb;have n0_:=aK (bB (by (with_reducible repeat first|apply bN|apply bD|apply bA);exact BK349.out) hb);have n1_:=aK (below_step (by repeat (first|(with_reducible first|exact HB.out|apply bL|apply bM|apply b1|refine bS ?_ GE349.out)|exact HB.out)) hb);have n2_:=aK (hbox);have n3_:=aK ((by rw [hg];exact (below_size (by repeat (first|(with_reducible first|exact HB.out|apply bL|apply bM|apply b1|refine bS ?_ GE349.out)|exact HB.out))) : w.heap.size ≤ gb350));have n4_:=aK ((by rw [hg];exact (below_size (by repeat (first|(with_reducible first|exact HB.out|apply bL|apply bM|apply b1|refine bS ?_ GE349.out)|exact HB.out))) : w.heap.size ≤ gb350));have n5_:=aK ((by rw [hg];exact Nat.ne_of_lt (blk_lt (by (with_reducible repeat first|apply bN|apply bD|apply bA);exact BK349.out)) : gb349 ≠ gb350));have n6_:=aK ((by rw [hg];exact Nat.ne_of_gt (blk_lt (by (with_reducible repeat first|apply bN|apply bD|apply bA);exact BK349.out)) : gb350 ≠ gb349));clear BK349;clear HB;have BK349:=n0_;have HB:=n1_;have BK350:=n2_;have GW350:=n3_;have GE350:=n4_;have NB349_350:=n5_;have NB350_349:=n6_;clear n0_ n1_ n2_ n3_ n4_ n5_ n6_;clear hb hbox hg;have hnb14:=NB349_350.out;have hnc14:=NB350_349.out;have hcz15_0 : w13.cell? ⟨gb349,0,none⟩ = some (.slice A0_0 l0_0.length c0_0):=(bC BK349.out 0).trans rfl;have hfz15_0:=blk_frozen BK349.out 0)|((with_reducible refine gate_callee (f:=40) rfl ?_);refine goesL_ (some 12) rfl rfl Try.func40 (by kernel_rfl) rfl #[.agg #[.slice A0_0 l0_0.length c0_0],.int .i64 1048576] rfl (by (try simp only [mA,mC,mN]);first|done|rfl) ?_;(with_reducible refine (laws_szDeal.calls k _ _ l0_0 1048576 t351 _ ?side1 ?side2 A3.out).mono ?_);(case side1=>repeat (first|exact (Kd.C_below HR0_0.out HB.out)|(with_reducible refine Kd.C_alloc ?_ _)|(with_reducible refine Kd.C_drewN ?_ _)|(with_reducible refine Kd.C_drew ?_)));(case side2=>exact HC0_0.out);rintro e w16 ⟨rfl,hb⟩;refine ⟨_,rfl,?_⟩;have n0_:=aK (bB (by (with_reducible repeat first|apply bN|apply bD|apply bA);exact BK349.out) hb);have n1_:=aK (bB (by (with_reducible repeat first|apply bN|apply bD|apply bA);exact BK350.out) hb);have n2_:=aK (below_step (by repeat (first|(with_reducible first|exact HB.out|apply bL|apply bM|apply b1|refine bS ?_ GE349.out|refine bS ?_ GE350.out)|exact HB.out)) hb);clear BK349;clear BK350;clear HB;have BK349:=n0_;have BK350:=n1_;have HB:=n2_;clear n0_ n1_ n2_;(try clear hb);(try clear hb2);(try clear hk);(try clear hi);have hcz17_0 : w16.cell? ⟨gb350,0,none⟩ = some (.int .i64 a1_0):=(bC BK350.out 0).trans rfl;have hcz17_1 : w16.cell? ⟨gb350,1,none⟩ = some (.int .i64 a1_1):=(bC BK350.out 1).trans rfl;have hcz17_2 : w16.cell? ⟨gb350,2,none⟩ = some (.slice A1_2 l1_2.length c1_2):=(bC BK350.out 2).trans rfl;have hfz17_0:=blk_frozen BK350.out 0;have hfz17_1:=blk_frozen BK350.out 1;have hfz17_2:=blk_frozen BK350.out 2)|((with_reducible refine gate_callee (f:=22) rfl ?_);refine goesL_ (some 17) rfl rfl Try.func22 (by kernel_rfl) rfl #[.agg #[.int .i64 a1_0,.int .i64 a1_1,.slice A1_2 l1_2.length c1_2],.int .i64 t351] rfl (by (try simp only [mA,mC,mN]);first|done|rfl) ?_;(with_reducible refine (laws_szPlay.calls a1_0 a1_1 _ _ l1_2 t351 t352 _ ?side1 ?side2 A10.out).mono ?_);(case side1=>repeat (first|exact (Kd.C_below HR1_2.out HB.out)|(with_reducible refine Kd.C_alloc ?_ _)|(with_reducible refine Kd.C_drewN ?_ _)|(with_reducible refine Kd.C_drew ?_)));(case side2=>exact HC1_2.out);rintro e w18 ⟨rfl,hb⟩;refine ⟨_,rfl,?_⟩;have n0_:=aK (bB (by (with_reducible repeat first|apply bN|apply bD|apply bA);exact BK349.out) hb);have n1_:=aK (bB (by (with_reducible repeat first|apply bN|apply bD|apply bA);exact BK350.out) hb);have n2_:=aK (below_step (by repeat (first|(with_reducible first|exact HB.out|apply bL|apply bM|apply b1|refine bS ?_ GE349.out|refine bS ?_ GE350.out)|exact HB.out)) hb);clear BK349;clear BK350;clear HB;have BK349:=n0_;have BK350:=n1_;have HB:=n2_;clear n0_ n1_ n2_;(try clear hb);(try clear hb2);(try clear hk);(try clear hi)))
   go_ret
   exact ⟨by first|rfl|(simp [errW_none,errW_some] <;> rfl)|(simp [*,errW_none,errW_some] <;> rfl),by repeat (first|(with_reducible first|exact HB.out|apply bL|apply bM|apply b1|refine bS ?_ GE349.out|refine bS ?_ GE350.out)|exact HB.out)⟩
  ·rw [if_neg c11] at H
   have c11b0 : decide (t352 < 0) = false:=decide_eq_false c11
   clear c11
   replace H:=Option.bind_eq_some_iff.mp H
   obtain ⟨t353,A190,H⟩:=H
   replace H : ((laws_toPlay.f k a1_0 a1_1 l1_2).bind fun bt356=>((spec_TurnOf.f k t353 bt356.1 bt356.2.1 bt356.2.2).bind fun t361=>((laws_toDeal.f k l0_0).bind fun t362=>((laws_toPlay.f k a1_0 a1_1 l1_2).bind fun bt366=>((impl_TurnOf.f k t362 bt366.1 bt366.2.1 bt366.2.2).bind fun t372=>(if t372 = t361 then ((laws_toDeal.f k l0_0).bind fun t373=>((laws_eqDeal.f k t362 t373).bind fun t376=>(if t376 = true then ((laws_toPlay.f k a1_0 a1_1 l1_2).bind fun bt377=>((laws_eqPlay.f k bt366.1 bt366.2.1 bt366.2.2 bt377.1 bt377.2.1 bt377.2.2).bind fun t382=>(if t382 = true then (some true) else (some false)))) else (some false)))) else (some false))))))) = some r:=H
   have A19:=aK A190
   clear A190
   replace H:=Option.bind_eq_some_iff.mp H
   obtain ⟨⟨t356,t357,t358⟩,A200,H⟩:=H
   replace H : ((spec_TurnOf.f k t353 t356 t357 t358).bind fun t361=>((laws_toDeal.f k l0_0).bind fun t362=>((laws_toPlay.f k a1_0 a1_1 l1_2).bind fun bt366=>((impl_TurnOf.f k t362 bt366.1 bt366.2.1 bt366.2.2).bind fun t372=>(if t372 = t361 then ((laws_toDeal.f k l0_0).bind fun t373=>((laws_eqDeal.f k t362 t373).bind fun t376=>(if t376 = true then ((laws_toPlay.f k a1_0 a1_1 l1_2).bind fun bt377=>((laws_eqPlay.f k bt366.1 bt366.2.1 bt366.2.2 bt377.1 bt377.2.1 bt377.2.2).bind fun t382=>(if t382 = true then (some true) else (some false)))) else (some false)))) else (some false)))))) = some r:=H
   have A20:=aK A200
   clear A200
   replace H:=Option.bind_eq_some_iff.mp H
   obtain ⟨t361,A210,H⟩:=H
   replace H : ((laws_toDeal.f k l0_0).bind fun t362=>((laws_toPlay.f k a1_0 a1_1 l1_2).bind fun bt366=>((impl_TurnOf.f k t362 bt366.1 bt366.2.1 bt366.2.2).bind fun t372=>(if t372 = t361 then ((laws_toDeal.f k l0_0).bind fun t373=>((laws_eqDeal.f k t362 t373).bind fun t376=>(if t376 = true then ((laws_toPlay.f k a1_0 a1_1 l1_2).bind fun bt377=>((laws_eqPlay.f k bt366.1 bt366.2.1 bt366.2.2 bt377.1 bt377.2.1 bt377.2.2).bind fun t382=>(if t382 = true then (some true) else (some false)))) else (some false)))) else (some false))))) = some r:=H
   have A21:=aK A210
   clear A210
   replace H:=Option.bind_eq_some_iff.mp H
   obtain ⟨t362,A220,H⟩:=H
   replace H : ((laws_toPlay.f k a1_0 a1_1 l1_2).bind fun bt366=>((impl_TurnOf.f k t362 bt366.1 bt366.2.1 bt366.2.2).bind fun t372=>(if t372 = t361 then ((laws_toDeal.f k l0_0).bind fun t373=>((laws_eqDeal.f k t362 t373).bind fun t376=>(if t376 = true then ((laws_toPlay.f k a1_0 a1_1 l1_2).bind fun bt377=>((laws_eqPlay.f k bt366.1 bt366.2.1 bt366.2.2 bt377.1 bt377.2.1 bt377.2.2).bind fun t382=>(if t382 = true then (some true) else (some false)))) else (some false)))) else (some false)))) = some r:=H
   have A22:=aK A220
   clear A220
   replace H:=Option.bind_eq_some_iff.mp H
   obtain ⟨⟨t366,t367,t368⟩,A230,H⟩:=H
   replace H : ((impl_TurnOf.f k t362 t366 t367 t368).bind fun t372=>(if t372 = t361 then ((laws_toDeal.f k l0_0).bind fun t373=>((laws_eqDeal.f k t362 t373).bind fun t376=>(if t376 = true then ((laws_toPlay.f k a1_0 a1_1 l1_2).bind fun bt377=>((laws_eqPlay.f k t366 t367 t368 bt377.1 bt377.2.1 bt377.2.2).bind fun t382=>(if t382 = true then (some true) else (some false)))) else (some false)))) else (some false))) = some r:=H
   have A23:=aK A230
   clear A230
   replace H:=Option.bind_eq_some_iff.mp H
   obtain ⟨t372,A240,H⟩:=H
   replace H : (if t372 = t361 then ((laws_toDeal.f k l0_0).bind fun t373=>((laws_eqDeal.f k t362 t373).bind fun t376=>(if t376 = true then ((laws_toPlay.f k a1_0 a1_1 l1_2).bind fun bt377=>((laws_eqPlay.f k t366 t367 t368 bt377.1 bt377.2.1 bt377.2.2).bind fun t382=>(if t382 = true then (some true) else (some false)))) else (some false)))) else (some false)) = some r:=H
   have A24:=aK A240
   clear A240
   by_cases c25 : t372 = t361
   ·rw [if_pos c25] at H
    have c25b0 : (t372 == t361) = true:=beq_iff_eq.mpr c25
    have c25b1 : (t372 != t361) = false:=bne_eq_false_iff_eq.mpr c25
    clear c25
    replace H:=Option.bind_eq_some_iff.mp H
    obtain ⟨t373,A260,H⟩:=H
    replace H : ((laws_eqDeal.f k t362 t373).bind fun t376=>(if t376 = true then ((laws_toPlay.f k a1_0 a1_1 l1_2).bind fun bt377=>((laws_eqPlay.f k t366 t367 t368 bt377.1 bt377.2.1 bt377.2.2).bind fun t382=>(if t382 = true then (some true) else (some false)))) else (some false))) = some r:=H
    have A26:=aK A260
    clear A260
    replace H:=Option.bind_eq_some_iff.mp H
    obtain ⟨t376,A270,H⟩:=H
    replace H : (if t376 = true then ((laws_toPlay.f k a1_0 a1_1 l1_2).bind fun bt377=>((laws_eqPlay.f k t366 t367 t368 bt377.1 bt377.2.1 bt377.2.2).bind fun t382=>(if t382 = true then (some true) else (some false)))) else (some false)) = some r:=H
    have A27:=aK A270
    clear A270
    by_cases c28 : t376 = true
    ·subst c28
     have H1 : ((laws_toPlay.f k a1_0 a1_1 l1_2).bind fun bt377=>((laws_eqPlay.f k t366 t367 t368 bt377.1 bt377.2.1 bt377.2.2).bind fun t382=>(if t382 = true then (some true) else (some false)))) = some r:=by rw [if_pos rfl] at H;exact H
     clear H
     have H:=H1
     clear H1
     replace H:=Option.bind_eq_some_iff.mp H
     obtain ⟨⟨t377,t378,t379⟩,A290,H⟩:=H
     replace H : ((laws_eqPlay.f k t366 t367 t368 t377 t378 t379).bind fun t382=>(if t382 = true then (some true) else (some false))) = some r:=H
     have A29:=aK A290
     clear A290
     replace H:=Option.bind_eq_some_iff.mp H
     obtain ⟨t382,A300,H⟩:=H
     replace H : (if t382 = true then (some true) else (some false)) = some r:=H
     have A30:=aK A300
     clear A300
     by_cases c31 : t382 = true
     ·subst c31
      have H1 : (some true) = some r:=by rw [if_pos rfl] at H;exact H
      clear H
      have H:=H1
      clear H1
      obtain rfl:=Option.some.inj H
      go_enter Try.func10,Try.ntmps10
      try go_wp2_with (first|((with_reducible refine gate_dst (N:=2) rfl ?_);refine box_event ?hg (N:=2) ?hd (cs:=#[.slice A0_0 l0_0.length c0_0]) (t:=41) ?hr ?_;(case hd=>rfl);(case hg=>rfl);(case hr=>first|(go_simp;done)|(go_simp;rfl));intro gb349 hg w32 hbox hb;have n0_:=aK (below_step (by repeat (first|(with_reducible first|exact HB.out|apply bL|apply bM|apply b1)|exact HB.out)) hb);have n1_:=aK (hbox);have n2_:=aK ((by rw [hg];exact (below_size (by repeat (first|(with_reducible first|exact HB.out|apply bL|apply bM|apply b1)|exact HB.out))) : w.heap.size ≤ gb349));have n3_:=aK ((by rw [hg];exact (below_size (by repeat (first|(with_reducible first|exact HB.out|apply bL|apply bM|apply b1)|exact HB.out))) : w.heap.size ≤ gb349));clear HB;have HB:=n0_;have BK349:=n1_;have GW349:=n2_;have GE349:=n3_;clear n0_ n1_ n2_ n3_;clear hb hbox hg)|((with_reducible refine gate_dst (N:=3) rfl ?_);refine box_event ?hg (N:=3) ?hd (cs:=#[.int .i64 a1_0,.int .i64 a1_1,.slice A1_2 l1_2.length c1_2]) (t:=24) ?hr ?_;(case hd=>rfl);(case hg=>rfl);(case hr=>first|(go_simp;done)|(go_simp;rfl));intro gb350 hg w33 hbox hb;have n0_:=aK (bB (by (with_reducible repeat first|apply bN|apply bD|apply bA);exact BK349.out) hb);have n1_:=aK (below_step (by repeat (first|(with_reducible first|exact HB.out|apply bL|apply bM|apply b1|refine bS ?_ GE349.out)|exact HB.out)) hb);have n2_:=aK (hbox);have n3_:=aK ((by rw [hg];exact (below_size (by repeat (first|(with_reducible first|exact HB.out|apply bL|apply bM|apply b1|refine bS ?_ GE349.out)|exact HB.out))) : w.heap.size ≤ gb350));have n4_:=aK ((by rw [hg];exact (below_size (by repeat (first|(with_reducible first|exact HB.out|apply bL|apply bM|apply b1|refine bS ?_ GE349.out)|exact HB.out))) : w.heap.size ≤ gb350));have n5_:=aK ((by rw [hg];exact Nat.ne_of_lt (blk_lt (by (with_reducible repeat first|apply bN|apply bD|apply bA);exact BK349.out)) : gb349 ≠ gb350));have n6_:=aK ((by rw [hg];exact Nat.ne_of_gt (blk_lt (by (with_reducible repeat first|apply bN|apply bD|apply bA);exact BK349.out)) : gb350 ≠ gb349));clear BK349;clear HB;have BK349:=n0_;have HB:=n1_;have BK350:=n2_;have GW350:=n3_;have GE350:=n4_;have NB349_350:=n5_;have NB350_349:=n6_;clear n0_ n1_ n2_ n3_ n4_ n5_ n6_;clear hb hbox hg;have hnb34:=NB349_350.out;have hnc34:=NB350_349.out;have hcz35_0 : w33.cell? ⟨gb349,0,none⟩ = some (.slice A0_0 l0_0.length c0_0):=(bC BK349.out 0).trans rfl;have hfz35_0:=blk_frozen BK349.out 0)|((with_reducible refine gate_callee (f:=40) rfl ?_);refine goesL_ (some 12) rfl rfl Try.func40 (by kernel_rfl) rfl #[.agg #[.slice A0_0 l0_0.length c0_0],.int .i64 1048576] rfl (by (try simp only [mA,mC,mN]);first|done|rfl) ?_;(with_reducible refine (laws_szDeal.calls k _ _ l0_0 1048576 t351 _ ?side1 ?side2 A3.out).mono ?_);(case side1=>repeat (first|exact (Kd.C_below HR0_0.out HB.out)|(with_reducible refine Kd.C_alloc ?_ _)|(with_reducible refine Kd.C_drewN ?_ _)|(with_reducible refine Kd.C_drew ?_)));(case side2=>exact HC0_0.out);rintro e w36 ⟨rfl,hb⟩;refine ⟨_,rfl,?_⟩;have n0_:=aK (bB (by (with_reducible repeat first|apply bN|apply bD|apply bA);exact BK349.out) hb);have n1_:=aK (bB (by (with_reducible repeat first|apply bN|apply bD|apply bA);exact BK350.out) hb);have n2_:=aK (below_step (by repeat (first|(with_reducible first|exact HB.out|apply bL|apply bM|apply b1|refine bS ?_ GE349.out|refine bS ?_ GE350.out)|exact HB.out)) hb);clear BK349;clear BK350;clear HB;have BK349:=n0_;have BK350:=n1_;have HB:=n2_;clear n0_ n1_ n2_;(try clear hb);(try clear hb2);(try clear hk);(try clear hi);have hcz37_0 : w36.cell? ⟨gb350,0,none⟩ = some (.int .i64 a1_0):=(bC BK350.out 0).trans rfl;have hcz37_1 : w36.cell? ⟨gb350,1,none⟩ = some (.int .i64 a1_1):=(bC BK350.out 1).trans rfl;have hcz37_2 : w36.cell? ⟨gb350,2,none⟩ = some (.slice A1_2 l1_2.length c1_2):=(bC BK350.out 2).trans rfl;have hfz37_0:=blk_frozen BK350.out 0;have hfz37_1:=blk_frozen BK350.out 1;have hfz37_2:=blk_frozen BK350.out 2)|((with_reducible refine gate_callee (f:=22) rfl ?_);refine goesL_ (some 17) rfl rfl Try.func22 (by kernel_rfl) rfl #[.agg #[.int .i64 a1_0,.int .i64 a1_1,.slice A1_2 l1_2.length c1_2],.int .i64 t351] rfl (by (try simp only [mA,mC,mN]);first|done|rfl) ?_;(with_reducible refine (laws_szPlay.calls a1_0 a1_1 _ _ l1_2 t351 t352 _ ?side1 ?side2 A10.out).mono ?_);(case side1=>repeat (first|exact (Kd.C_below HR1_2.out HB.out)|(with_reducible refine Kd.C_alloc ?_ _)|(with_reducible refine Kd.C_drewN ?_ _)|(with_reducible refine Kd.C_drew ?_)));(case side2=>exact HC1_2.out);rintro e w38 ⟨rfl,hb⟩;refine ⟨_,rfl,?_⟩;have n0_:=aK (bB (by (with_reducible repeat first|apply bN|apply bD|apply bA);exact BK349.out) hb);have n1_:=aK (bB (by (with_reducible repeat first|apply bN|apply bD|apply bA);exact BK350.out) hb);have n2_:=aK (below_step (by repeat (first|(with_reducible first|exact HB.out|apply bL|apply bM|apply b1|refine bS ?_ GE349.out|refine bS ?_ GE350.out)|exact HB.out)) hb);clear BK349;clear BK350;clear HB;have BK349:=n0_;have BK350:=n1_;have HB:=n2_;clear n0_ n1_ n2_;(try clear hb);(try clear hb2);(try clear hk);(try clear hi)))
      have n0_:=aK (bD BK349.out)
      have n1_:=aK (bD BK350.out)
      have n2_:=aK (b1 HB.out)
      clear BK349
      clear BK350
      clear HB
      have BK349:=n0_
      have BK350:=n1_
      have HB:=n2_
      clear n0_ n1_ n2_
      refine start_ (n:=6) (S:=fun w'=>w'.cell? ⟨gb349,0,none⟩ = some (.slice A0_0 l0_0.length c0_0) ∧ w'.cell? ⟨gb350,0,none⟩ = some (.int .i64 a1_0) ∧ w'.cell? ⟨gb350,1,none⟩ = some (.int .i64 a1_1) ∧ w'.cell? ⟨gb350,2,none⟩ = some (.slice A1_2 l1_2.length c1_2)) (ds:=[]) #[false,false,false,false,false,false] (by kernel_rfl) rfl rfl ⟨(bC BK349.out 0).trans rfl,(bC BK350.out 0).trans rfl,(bC BK350.out 1).trans rfl,(bC BK350.out 2).trans rfl⟩ (fun hHeld=>?_)
      generalize w38.drew = w39 at BK349 BK350 HB hHeld ⊢
      refine take_ (i:=0) (N:=some 20) (v:=?_) (a':=?_) #[true,false,false,false,false,false] rfl rfl (by kernel_rfl) (fun _ _ _ h=>h) (Or.inl ⟨by rfl,?_⟩) hHeld ?_ ?_
      rotate_left
      ·rintro w' ⟨s0,s1,s2,s3⟩
       go_simp
       with_reducible rfl
      rotate_left
      ·simp only [Act.put,lA,l0',lS,i64_w,i32_w]
       rfl
      refine take_ (i:=2) (N:=some 22) (v:=?_) (a':=?_) #[true,false,true,false,false,false] rfl rfl (by kernel_rfl) (fun _ _ _ h=>h) (Or.inl ⟨by rfl,?_⟩) hHeld ?_ ?_
      rotate_left
      ·rintro w' ⟨s0,s1,s2,s3⟩
       go_simp
       with_reducible rfl
      rotate_left
      ·simp only [Act.put,lA,l0',lS,i64_w,i32_w]
       rfl
      refine one_ (i:=1) (N:=some 21) #[true,true,true,false,false,false] rfl rfl (by kernel_rfl) (by decide) (fun K hK=>?_)
      refine goes_ Try.func42 (by kernel_rfl) rfl #[.agg #[.slice A0_0 l0_0.length c0_0]] (by rfl) rfl rfl (by (try simp only [mA,mC,mN]);first|done|rfl) ?_
      with_reducible refine (laws_toDeal.calls k _ _ l0_0 t353 _ ?side1 ?side2 A19.out).mono ?_
      (case side1=>repeat (first|exact (Kd.C_below HR0_0.out HB.out)|(with_reducible refine Kd.C_alloc ?_ _)|(with_reducible refine Kd.C_drewN ?_ _)|(with_reducible refine Kd.C_drew ?_)))
      (case side2=>exact HC0_0.out)
      rintro e w40 ⟨v354,rfl,ho0,hb⟩
      refine ⟨_,rfl,?_⟩
      have n0_:=aK (Kd.S_lower ho0 (below_size (by repeat (first|(with_reducible first|exact HB.out|apply bL|apply bM|apply b1|refine bS ?_ GE349.out|refine bS ?_ GE350.out)|exact HB.out))))
      have n1_:=aK (bB (by (with_reducible repeat first|apply bN|apply bD|apply bA);exact BK349.out) hb)
      have n2_:=aK (bB (by (with_reducible repeat first|apply bN|apply bD|apply bA);exact BK350.out) hb)
      have n3_:=aK (below_step (by repeat (first|(with_reducible first|exact HB.out|apply bL|apply bM|apply b1|refine bS ?_ GE349.out|refine bS ?_ GE350.out)|exact HB.out)) hb)
      clear BK349
      clear BK350
      clear HB
      have HO355:=n0_
      have BK349:=n1_
      have BK350:=n2_
      have HB:=n3_
      clear n0_ n1_ n2_ n3_
      (try clear hb)
      (try clear hb2)
      (try clear hk)
      (try clear hi)
      (try clear ho0)
      refine hK.out _ _ ⟨(bC BK349.out 0).trans rfl,(bC BK350.out 0).trans rfl,(bC BK350.out 1).trans rfl,(bC BK350.out 2).trans rfl⟩ (fun hHeld=>?_)
      clear hK K
      refine norm_ (a':=?_) ?_ ?_
      rotate_left
      ·show Act.put _ (some 21) _ = _
       simp only [Act.put,lA,l0',lS,i64_w,i32_w]
       rfl
      refine one_ (i:=3) (N:=some 23) #[true,true,true,true,false,false] rfl rfl (by kernel_rfl) (by decide) (fun K hK=>?_)
      refine goes_ Try.func24 (by kernel_rfl) rfl #[.agg #[.int .i64 a1_0,.int .i64 a1_1,.slice A1_2 l1_2.length c1_2]] (by rfl) rfl rfl (by (try simp only [mA,mC,mN]);first|done|rfl) ?_
      with_reducible refine (laws_toPlay.calls k a1_0 a1_1 _ _ l1_2 t356 t357 t358 _ ?side1 ?side2 A20.out).mono ?_
      (case side1=>repeat (first|exact (Kd.C_below HR1_2.out HB.out)|(with_reducible refine Kd.C_alloc ?_ _)|(with_reducible refine Kd.C_drewN ?_ _)|(with_reducible refine Kd.C_drew ?_)))
      (case side2=>exact HC1_2.out)
      rintro e w41 ⟨v359,rfl,ho0,hb⟩
      refine ⟨_,rfl,?_⟩
      have n0_:=aK (Kd.S_elder' (by (with_reducible repeat first|apply Kd.S_alloc|apply Kd.S_drewN|apply Kd.S_drew);exact HO355.out) (Kd.R_base ho0) hb)
      have n1_:=aK (Kd.R_lower ho0 (below_size (by repeat (first|(with_reducible first|exact HB.out|apply bL|apply bM|apply b1|refine bS ?_ GE349.out|refine bS ?_ GE350.out)|exact HB.out))))
      have n2_:=aK (bB (by (with_reducible repeat first|apply bN|apply bD|apply bA);exact BK349.out) hb)
      have n3_:=aK (bB (by (with_reducible repeat first|apply bN|apply bD|apply bA);exact BK350.out) hb)
      have n4_:=aK (below_step (by repeat (first|(with_reducible first|exact HB.out|apply bL|apply bM|apply b1|refine bS ?_ GE349.out|refine bS ?_ GE350.out)|exact HB.out)) hb)
      clear HO355
      clear BK349
      clear BK350
      clear HB
      have HO355:=n0_
      have HO360:=n1_
      have BK349:=n2_
      have BK350:=n3_
      have HB:=n4_
      clear n0_ n1_ n2_ n3_ n4_
      (try clear hb)
      (try clear hb2)
      (try clear hk)
      (try clear hi)
      (try clear ho0)
      obtain ⟨Ao42,co42,eo42⟩:=Kd.S_slice HO355.out
      (first|subst eo42|(injection eo42 with f1_ f2_ f3_;have f4_:=f1_.symm;have f5_:=f3_.symm;clear f1_ f2_ f3_;subst f4_;subst f5_))
      obtain ⟨Ao43,co43,eo43⟩:=Kd.R_slice HO360.out
      (first|subst eo43|(injection eo43 with f1_ f2_ f3_;have f4_:=f1_.symm;have f5_:=f3_.symm;clear f1_ f2_ f3_;subst f4_;subst f5_))
      refine hK.out _ _ ⟨(bC BK349.out 0).trans rfl,(bC BK350.out 0).trans rfl,(bC BK350.out 1).trans rfl,(bC BK350.out 2).trans rfl⟩ (fun hHeld=>?_)
      clear hK K
      refine norm_ (a':=?_) ?_ ?_
      rotate_left
      ·show Act.put _ (some 23) _ = _
       simp only [Act.put,lA,l0',lS,i64_w,i32_w]
       rfl
      refine one_ (i:=4) (N:=some 24) #[true,true,true,true,true,false] rfl rfl (by kernel_rfl) (by decide) (fun K hK=>?_)
      refine goes_ Try.func47 (by kernel_rfl) rfl #[.agg #[.slice Ao42 t353.length co42],.agg #[.int .i64 t356,.int .i64 t357,.slice Ao43 t358.length co43]] (by rfl) rfl rfl (by (try simp only [mA,mC,mN]);first|done|rfl) ?_
      with_reducible refine (spec_TurnOf.calls k _ _ t353 t356 t357 _ _ t358 t361 _ ?side1 ?side2 ?side3 ?side4 A21.out).mono ?_
      (case side1=>repeat (first|exact (Kd.S_reads' HO355.out).2.2|(with_reducible refine Kd.C_alloc ?_ _)|(with_reducible refine Kd.C_drewN ?_ _)|(with_reducible refine Kd.C_drew ?_)))
      (case side2=>exact (Kd.S_reads' HO355.out).2.1)
      (case side3=>repeat (first|exact (Kd.R_reads' HO360.out).2.2|(with_reducible refine Kd.C_alloc ?_ _)|(with_reducible refine Kd.C_drewN ?_ _)|(with_reducible refine Kd.C_drew ?_)))
      (case side4=>exact (Kd.R_reads' HO360.out).2.1)
      rintro e w44 ⟨rfl,hb⟩
      refine ⟨_,rfl,?_⟩
      have n0_:=aK (Kd.S_below (by (with_reducible repeat first|apply Kd.S_alloc|apply Kd.S_drewN|apply Kd.S_drew);exact HO355.out) hb)
      have n1_:=aK (Kd.R_below (by (with_reducible repeat first|apply Kd.R_alloc|apply Kd.R_drewN|apply Kd.R_drew);exact HO360.out) hb)
      have n2_:=aK (bB (by (with_reducible repeat first|apply bN|apply bD|apply bA);exact BK349.out) hb)
      have n3_:=aK (bB (by (with_reducible repeat first|apply bN|apply bD|apply bA);exact BK350.out) hb)
      have n4_:=aK (below_step (by repeat (first|(with_reducible first|exact HB.out|apply bL|apply bM|apply b1|refine bS ?_ GE349.out|refine bS ?_ GE350.out)|exact HB.out)) hb)
      clear HO355
      clear HO360
      clear BK349
      clear BK350
      clear HB
      have HO355:=n0_
      have HO360:=n1_
      have BK349:=n2_
      have BK350:=n3_
      have HB:=n4_
      clear n0_ n1_ n2_ n3_ n4_
      (try clear hb)
      (try clear hb2)
      (try clear hk)
      (try clear hi)
      refine hK.out _ _ ⟨(bC BK349.out 0).trans rfl,(bC BK350.out 0).trans rfl,(bC BK350.out 1).trans rfl,(bC BK350.out 2).trans rfl⟩ (fun hHeld=>?_)
      clear hK K
      refine norm_ (a':=?_) ?_ ?_
      rotate_left
      ·show Act.put _ (some 24) _ = _
       simp only [Act.put,lA,l0',lS,i64_w,i32_w]
       rfl
      refine pure_ (i:=5) (N:=some 6) (v:=?_) (a':=?_) #[true,true,true,true,true,true] rfl rfl (by kernel_rfl) (fun _ _ _ h=>h) (Or.inl ⟨by rfl,?_⟩) ?_ ?_
      rotate_left
      ·intro w'
       go_simp
       with_reducible rfl
      rotate_left
      ·simp only [Act.put,lA,l0',lS,i64_w,i32_w]
       rfl
      refine done_ (by kernel_rfl) ?_
      have hcz45_0 : w44.cell? ⟨gb349,0,none⟩ = some (.slice A0_0 l0_0.length c0_0):=(bC BK349.out 0).trans rfl
      have hfz45_0:=blk_frozen BK349.out 0
      try go_wp2_with (first|((with_reducible refine gate_callee (f:=42) rfl ?_);refine goesL_ (some 26) rfl rfl Try.func42 (by kernel_rfl) rfl #[.agg #[.slice A0_0 l0_0.length c0_0]] rfl (by (try simp only [mA,mC,mN]);first|done|rfl) ?_;(with_reducible refine (laws_toDeal.calls k _ _ l0_0 t362 _ ?side1 ?side2 A22.out).mono ?_);(case side1=>repeat (first|exact (Kd.C_below HR0_0.out HB.out)|(with_reducible refine Kd.C_alloc ?_ _)|(with_reducible refine Kd.C_drewN ?_ _)|(with_reducible refine Kd.C_drew ?_)));(case side2=>exact HC0_0.out);rintro e w46 ⟨v363,rfl,ho0,hb⟩;refine ⟨_,rfl,?_⟩;have n0_:=aK (Kd.S_elder' (by (with_reducible repeat first|apply Kd.S_alloc|apply Kd.S_drewN|apply Kd.S_drew);exact HO355.out) (Kd.S_base ho0) hb);have n1_:=aK (Kd.R_below (by (with_reducible repeat first|apply Kd.R_alloc|apply Kd.R_drewN|apply Kd.R_drew);exact HO360.out) hb);have n2_:=aK (Kd.S_lower (Kd.S_new' (Kd.S_new' ho0 (Kd.S_lt (by (with_reducible repeat first|apply Kd.S_alloc|apply Kd.S_drewN|apply Kd.S_drew);exact HO355.out))) (Kd.R_lt (by (with_reducible repeat first|apply Kd.R_alloc|apply Kd.R_drewN|apply Kd.R_drew);exact HO360.out))) (below_size (by repeat (first|(with_reducible first|exact HB.out|apply bL|apply bM|apply b1|refine bS ?_ GE349.out|refine bS ?_ GE350.out)|exact HB.out))));have n3_:=aK (bB (by (with_reducible repeat first|apply bN|apply bD|apply bA);exact BK349.out) hb);have n4_:=aK (bB (by (with_reducible repeat first|apply bN|apply bD|apply bA);exact BK350.out) hb);have n5_:=aK (below_step (by repeat (first|(with_reducible first|exact HB.out|apply bL|apply bM|apply b1|refine bS ?_ GE349.out|refine bS ?_ GE350.out)|exact HB.out)) hb);clear HO355;clear HO360;clear BK349;clear BK350;clear HB;have HO355:=n0_;have HO360:=n1_;have HO364:=n2_;have BK349:=n3_;have BK350:=n4_;have HB:=n5_;clear n0_ n1_ n2_ n3_ n4_ n5_;(try clear hb);(try clear hb2);(try clear hk);(try clear hi);(try clear ho0))|((with_reducible refine gate_dst (N:=7) rfl ?_);refine box_event ?hg (N:=7) ?hd (cs:=#[.slice none 0 0]) (t:=44) ?hr ?_;(case hd=>rfl);(case hg=>rfl);(case hr=>first|(go_simp;done)|(go_simp;rfl));intro gb365 hg w47 hbox hb;have n0_:=aK (Kd.S_below (by (with_reducible repeat first|apply Kd.S_alloc|apply Kd.S_drewN|apply Kd.S_drew);exact HO355.out) hb);have n1_:=aK (Kd.R_below (by (with_reducible repeat first|apply Kd.R_alloc|apply Kd.R_drewN|apply Kd.R_drew);exact HO360.out) hb);have n2_:=aK (Kd.S_below (by (with_reducible repeat first|apply Kd.S_alloc|apply Kd.S_drewN|apply Kd.S_drew);exact HO364.out) hb);have n3_:=aK (bB (by (with_reducible repeat first|apply bN|apply bD|apply bA);exact BK349.out) hb);have n4_:=aK (bB (by (with_reducible repeat first|apply bN|apply bD|apply bA);exact BK350.out) hb);have n5_:=aK (below_step (by repeat (first|(with_reducible first|exact HB.out|apply bL|apply bM|apply b1|refine bS ?_ GE349.out|refine bS ?_ GE350.out)|exact HB.out)) hb);have n6_:=aK (hbox);have n7_:=aK ((by rw [hg];exact (below_size (by repeat (first|(with_reducible first|exact HB.out|apply bL|apply bM|apply b1|refine bS ?_ GE349.out|refine bS ?_ GE350.out)|exact HB.out))) : w.heap.size ≤ gb365));have n8_:=aK ((by rw [hg];exact (below_size (by repeat (first|(with_reducible first|exact HB.out|apply bL|apply bM|apply b1|refine bS ?_ GE349.out|refine bS ?_ GE350.out)|exact HB.out))) : w.heap.size ≤ gb365));have n9_:=aK ((by rw [hg];exact Nat.ne_of_lt (blk_lt (by (with_reducible repeat first|apply bN|apply bD|apply bA);exact BK349.out)) : gb349 ≠ gb365));have n10_:=aK ((by rw [hg];exact Nat.ne_of_gt (blk_lt (by (with_reducible repeat first|apply bN|apply bD|apply bA);exact BK349.out)) : gb365 ≠ gb349));have n11_:=aK ((by rw [hg];exact Nat.ne_of_lt (blk_lt (by (with_reducible repeat first|apply bN|apply bD|apply bA);exact BK350.out)) : gb350 ≠ gb365));have n12_:=aK ((by rw [hg];exact Nat.ne_of_gt (blk_lt (by (with_reducible repeat first|apply bN|apply bD|apply bA);exact BK350.out)) : gb365 ≠ gb350));clear HO355;clear HO360;clear HO364;clear BK349;clear BK350;clear HB;have HO355:=n0_;have HO360:=n1_;have HO364:=n2_;have BK349:=n3_;have BK350:=n4_;have HB:=n5_;have BK365:=n6_;have GW365:=n7_;have GE365:=n8_;have NB349_365:=n9_;have NB365_349:=n10_;have NB350_365:=n11_;have NB365_350:=n12_;clear n0_ n1_ n2_ n3_ n4_ n5_ n6_ n7_ n8_ n9_ n10_ n11_ n12_;clear hb hbox hg;obtain ⟨Ao48,co48,eo48⟩:=Kd.S_slice HO364.out;subst eo48;have hnb49:=NB365_349.out;have hnc49:=NB349_365.out;have hnb50:=NB365_350.out;have hnc50:=NB350_365.out;have hcz51_0 : w47.cell? ⟨gb365,0,none⟩ = some (.slice none 0 0):=(bC BK365.out 0).trans rfl;have hfz51_0:=blk_frozen BK365.out 0;have hcz52_0 : w47.cell? ⟨gb350,0,none⟩ = some (.int .i64 a1_0):=(bC BK350.out 0).trans rfl;have hcz52_1 : w47.cell? ⟨gb350,1,none⟩ = some (.int .i64 a1_1):=(bC BK350.out 1).trans rfl;have hcz52_2 : w47.cell? ⟨gb350,2,none⟩ = some (.slice A1_2 l1_2.length c1_2):=(bC BK350.out 2).trans rfl;have hfz52_0:=blk_frozen BK350.out 0;have hfz52_1:=blk_frozen BK350.out 1;have hfz52_2:=blk_frozen BK350.out 2)|((with_reducible refine gate_callee (f:=24) rfl ?_);refine goesL_ (some 28) rfl rfl Try.func24 (by kernel_rfl) rfl #[.agg #[.int .i64 a1_0,.int .i64 a1_1,.slice A1_2 l1_2.length c1_2]] rfl (by (try simp only [mA,mC,mN]);first|done|rfl) ?_;(with_reducible refine (laws_toPlay.calls k a1_0 a1_1 _ _ l1_2 t366 t367 t368 _ ?side1 ?side2 A23.out).mono ?_);(case side1=>exact Kd.C_below HR1_2.out (by repeat (first|(with_reducible first|exact HB.out|apply bL|apply bM|apply b1|refine bS ?_ GE349.out|refine bS ?_ GE350.out|refine bS ?_ GE365.out)|exact HB.out)));(case side2=>exact HC1_2.out);rintro e w53 ⟨v369,rfl,ho0,hb⟩;refine ⟨_,rfl,?_⟩;have n0_:=aK (Kd.S_elder' (by (with_reducible repeat first|apply Kd.S_alloc|apply Kd.S_drewN|apply Kd.S_drew);exact (Kd.S_mono (Kd.S_far (p:=⟨gb365,0,none⟩) (Kd.S_types HO355.out BK365.out (by decide)) (fun _ hk=>by first|exact hk.2|(have h_:=hk;(try simp only [and_assoc,true_and] at h_);(repeat' apply And.intro) <;> with_reducible first|exact h_.1|exact h_.2.1|exact h_.2.2.1|exact h_.2.2.2.1|exact h_.2.2.2.2.1|exact h_.2.2.2.2.2.1|exact h_.2.2.2.2.2.2.1|exact h_.2.2.2.2.2.2.2.1|exact h_.2.2.2.2.2.2.2.2.1|exact h_.2|exact h_.2.2|exact h_.2.2.2|exact h_.2.2.2.2|exact h_.2.2.2.2.2|exact h_.2.2.2.2.2.2|exact h_.2.2.2.2.2.2.2|exact h_.2.2.2.2.2.2.2.2)) (.slice Ao48 t362.length co48)) (fun _ h_=>h_.1))) (Kd.R_base ho0) hb);have n1_:=aK (Kd.R_elder' (by (with_reducible repeat first|apply Kd.R_alloc|apply Kd.R_drewN|apply Kd.R_drew);exact (Kd.R_mono (Kd.R_far (p:=⟨gb365,0,none⟩) (Kd.R_types HO360.out BK365.out (by decide)) (fun _ hk=>by first|exact hk.2|(have h_:=hk;(try simp only [and_assoc,true_and] at h_);(repeat' apply And.intro) <;> with_reducible first|exact h_.1|exact h_.2.1|exact h_.2.2.1|exact h_.2.2.2.1|exact h_.2.2.2.2.1|exact h_.2.2.2.2.2.1|exact h_.2.2.2.2.2.2.1|exact h_.2.2.2.2.2.2.2.1|exact h_.2.2.2.2.2.2.2.2.1|exact h_.2|exact h_.2.2|exact h_.2.2.2|exact h_.2.2.2.2|exact h_.2.2.2.2.2|exact h_.2.2.2.2.2.2|exact h_.2.2.2.2.2.2.2|exact h_.2.2.2.2.2.2.2.2)) (.slice Ao48 t362.length co48)) (fun _ h_=>h_.1))) (Kd.R_base ho0) hb);have n2_:=aK (Kd.S_elder' (by (with_reducible repeat first|apply Kd.S_alloc|apply Kd.S_drewN|apply Kd.S_drew);exact (Kd.S_mono (Kd.S_far (p:=⟨gb365,0,none⟩) (Kd.S_types HO364.out BK365.out (by decide)) (fun _ hk=>by first|exact hk.2|(have h_:=hk;(try simp only [and_assoc,true_and] at h_);(repeat' apply And.intro) <;> with_reducible first|exact h_.1|exact h_.2.1|exact h_.2.2.1|exact h_.2.2.2.1|exact h_.2.2.2.2.1|exact h_.2.2.2.2.2.1|exact h_.2.2.2.2.2.2.1|exact h_.2.2.2.2.2.2.2.1|exact h_.2.2.2.2.2.2.2.2.1|exact h_.2|exact h_.2.2|exact h_.2.2.2|exact h_.2.2.2.2|exact h_.2.2.2.2.2|exact h_.2.2.2.2.2.2|exact h_.2.2.2.2.2.2.2|exact h_.2.2.2.2.2.2.2.2)) (.slice Ao48 t362.length co48)) (fun _ h_=>h_.1))) (Kd.R_base ho0) hb);have n3_:=aK (Kd.R_lower (Kd.R_new' ho0 (Kd.R_lt (by (with_reducible repeat first|apply Kd.R_alloc|apply Kd.R_drewN|apply Kd.R_drew);exact (Kd.R_mono (Kd.R_far (p:=⟨gb365,0,none⟩) (Kd.R_types HO360.out BK365.out (by decide)) (fun _ hk=>by first|exact hk.2|(have h_:=hk;(try simp only [and_assoc,true_and] at h_);(repeat' apply And.intro) <;> with_reducible first|exact h_.1|exact h_.2.1|exact h_.2.2.1|exact h_.2.2.2.1|exact h_.2.2.2.2.1|exact h_.2.2.2.2.2.1|exact h_.2.2.2.2.2.2.1|exact h_.2.2.2.2.2.2.2.1|exact h_.2.2.2.2.2.2.2.2.1|exact h_.2|exact h_.2.2|exact h_.2.2.2|exact h_.2.2.2.2|exact h_.2.2.2.2.2|exact h_.2.2.2.2.2.2|exact h_.2.2.2.2.2.2.2|exact h_.2.2.2.2.2.2.2.2)) (.slice Ao48 t362.length co48)) (fun _ h_=>h_.1))))) (below_size (by repeat (first|(with_reducible first|exact HB.out|apply bL|apply bM|apply b1|refine bS ?_ GE349.out|refine bS ?_ GE350.out|refine bS ?_ GE365.out)|exact HB.out))));have n4_:=aK (bB (g:=gb349) (o:=.cells #[.slice A0_0 l0_0.length c0_0] 41 (0,0)) (by (with_reducible repeat first|apply bN|apply bD|apply bA);refine blk_far ?_ NB349_365.out _;(with_reducible repeat first|apply bN|apply bD|apply bA);exact BK349.out) hb);have n5_:=aK (bB (g:=gb350) (o:=.cells #[.int .i64 a1_0,.int .i64 a1_1,.slice A1_2 l1_2.length c1_2] 24 (0,0)) (by (with_reducible repeat first|apply bN|apply bD|apply bA);refine blk_far ?_ NB350_365.out _;(with_reducible repeat first|apply bN|apply bD|apply bA);exact BK350.out) hb);have n6_:=aK (bB (g:=gb365) (o:=.cells #[.slice Ao48 t362.length co48] 44 (0,0)) (by (with_reducible repeat first|apply bN|apply bD|apply bA);refine blk_put (cs:=#[.slice none 0 0]) ?_ 0 _ rfl;(with_reducible repeat first|apply bN|apply bD|apply bA);exact BK365.out) hb);have n7_:=aK (below_step (by repeat (first|(with_reducible first|exact HB.out|apply bL|apply bM|apply b1|refine bS ?_ GE349.out|refine bS ?_ GE350.out|refine bS ?_ GE365.out)|exact HB.out)) hb);clear HO355;clear HO360;clear HO364;clear BK349;clear BK350;clear BK365;clear HB;have HO355:=n0_;have HO360:=n1_;have HO364:=n2_;have HO370:=n3_;have BK349:=n4_;have BK350:=n5_;have BK365:=n6_;have HB:=n7_;clear n0_ n1_ n2_ n3_ n4_ n5_ n6_ n7_;(try clear hb);(try clear hb2);(try clear hk);(try clear hi);(try clear ho0))|((with_reducible refine gate_dst (N:=8) rfl ?_);refine box_event ?hg (N:=8) ?hd (cs:=#[.int .i64 0,.int .i64 0,.slice none 0 0]) (t:=27) ?hr ?_;(case hd=>rfl);(case hg=>rfl);(case hr=>first|(go_simp;done)|(go_simp;rfl));intro gb371 hg w54 hbox hb;have n0_:=aK (Kd.S_below (by (with_reducible repeat first|apply Kd.S_alloc|apply Kd.S_drewN|apply Kd.S_drew);exact HO355.out) hb);have n1_:=aK (Kd.R_below (by (with_reducible repeat first|apply Kd.R_alloc|apply Kd.R_drewN|apply Kd.R_drew);exact HO360.out) hb);have n2_:=aK (Kd.S_below (by (with_reducible repeat first|apply Kd.S_alloc|apply Kd.S_drewN|apply Kd.S_drew);exact HO364.out) hb);have n3_:=aK (Kd.R_below (by (with_reducible repeat first|apply Kd.R_alloc|apply Kd.R_drewN|apply Kd.R_drew);exact HO370.out) hb);have n4_:=aK (bB (by (with_reducible repeat first|apply bN|apply bD|apply bA);exact BK349.out) hb);have n5_:=aK (bB (by (with_reducible repeat first|apply bN|apply bD|apply bA);exact BK350.out) hb);have n6_:=aK (bB (by (with_reducible repeat first|apply bN|apply bD|apply bA);exact BK365.out) hb);have n7_:=aK (below_step (by repeat (first|(with_reducible first|exact HB.out|apply bL|apply bM|apply b1|refine bS ?_ GE349.out|refine bS ?_ GE350.out|refine bS ?_ GE365.out)|exact HB.out)) hb);have n8_:=aK (hbox);have n9_:=aK ((by rw [hg];exact (below_size (by repeat (first|(with_reducible first|exact HB.out|apply bL|apply bM|apply b1|refine bS ?_ GE349.out|refine bS ?_ GE350.out|refine bS ?_ GE365.out)|exact HB.out))) : w.heap.size ≤ gb371));have n10_:=aK ((by rw [hg];exact (below_size (by repeat (first|(with_reducible first|exact HB.out|apply bL|apply bM|apply b1|refine bS ?_ GE349.out|refine bS ?_ GE350.out|refine bS ?_ GE365.out)|exact HB.out))) : w.heap.size ≤ gb371));have n11_:=aK ((by rw [hg];exact Nat.ne_of_lt (blk_lt (by (with_reducible repeat first|apply bN|apply bD|apply bA);exact BK349.out)) : gb349 ≠ gb371));have n12_:=aK ((by rw [hg];exact Nat.ne_of_gt (blk_lt (by (with_reducible repeat first|apply bN|apply bD|apply bA);exact BK349.out)) : gb371 ≠ gb349));have n13_:=aK ((by rw [hg];exact Nat.ne_of_lt (blk_lt (by (with_reducible repeat first|apply bN|apply bD|apply bA);exact BK350.out)) : gb350 ≠ gb371));have n14_:=aK ((by rw [hg];exact Nat.ne_of_gt (blk_lt (by (with_reducible repeat first|apply bN|apply bD|apply bA);exact BK350.out)) : gb371 ≠ gb350));have n15_:=aK ((by rw [hg];exact Nat.ne_of_lt (blk_lt (by (with_reducible repeat first|apply bN|apply bD|apply bA);exact BK365.out)) : gb365 ≠ gb371));have n16_:=aK ((by rw [hg];exact Nat.ne_of_gt (blk_lt (by (with_reducible repeat first|apply bN|apply bD|apply bA);exact BK365.out)) : gb371 ≠ gb365));clear HO355;clear HO360;clear HO364;clear HO370;clear BK349;clear BK350;clear BK365;clear HB;have HO355:=n0_;have HO360:=n1_;have HO364:=n2_;have HO370:=n3_;have BK349:=n4_;have BK350:=n5_;have BK365:=n6_;have HB:=n7_;have BK371:=n8_;have GW371:=n9_;have GE371:=n10_;have NB349_371:=n11_;have NB371_349:=n12_;have NB350_371:=n13_;have NB371_350:=n14_;have NB365_371:=n15_;have NB371_365:=n16_;clear n0_ n1_ n2_ n3_ n4_ n5_ n6_ n7_ n8_ n9_ n10_ n11_ n12_ n13_ n14_ n15_ n16_;clear hb hbox hg;have hnb55:=NB371_349.out;have hnc55:=NB349_371.out;have hnb56:=NB371_350.out;have hnc56:=NB350_371.out;have hnb57:=NB371_365.out;have hnc57:=NB365_371.out;have hcz58_0 : w54.cell? ⟨gb371,0,none⟩ = some (.int .i64 0):=(bC BK371.out 0).trans rfl;have hcz58_1 : w54.cell? ⟨gb371,1,none⟩ = some (.int .i64 0):=(bC BK371.out 1).trans rfl;have hcz58_2 : w54.cell? ⟨gb371,2,none⟩ = some (.slice none 0 0):=(bC BK371.out 2).trans rfl;have hfz58_0:=blk_frozen BK371.out 0;have hfz58_1:=blk_frozen BK371.out 1;have hfz58_2:=blk_frozen BK371.out 2;obtain ⟨Ao59,co59,eo59⟩:=Kd.R_slice HO370.out;subst eo59;have hcz60_0 : w54.cell? ⟨gb365,0,none⟩ = some (.slice Ao48 t362.length co48):=(bC BK365.out 0).trans rfl;have hfz60_0:=blk_frozen BK365.out 0)|((with_reducible refine gate_callee (f:=48) rfl ?_);refine goesL_ (some 31) rfl rfl Try.func48 (by kernel_rfl) rfl #[.agg #[.slice Ao48 t362.length co48],.agg #[.int .i64 t366,.int .i64 t367,.slice Ao59 t368.length co59]] rfl (by (try simp only [mA,mC,mN]);first|done|rfl) ?_;(with_reducible refine (impl_TurnOf.calls k _ _ t362 t366 t367 _ _ t368 t372 _ ?side1 ?side2 ?side3 ?side4 A24.out).mono ?_);(case side1=>refine (Kd.S_reads' (e:=22) (base:=w.heap.size) (ok:=fun k_=>(((True ∧ some k_ ≠ (.slice Ao42 t353.length co42 : Value).ownBlock) ∧ some k_ ≠ (.slice Ao43 t358.length co43 : Value).ownBlock) ∧ some k_ ≠ (.slice Ao59 t368.length co59 : Value).ownBlock)) (n:=t362.length) (c:=co48) ?_).2.2;exact (by (with_reducible repeat first|apply Kd.S_alloc|apply Kd.S_drewN|apply Kd.S_drew);exact (Kd.S_mono (Kd.S_far (p:=⟨gb371,2,none⟩) (Kd.S_far (p:=⟨gb371,1,none⟩) (Kd.S_far (p:=⟨gb371,0,none⟩) (Kd.S_types HO364.out BK371.out (by decide)) (fun _ hk=>by first|exact hk.2|(have h_:=hk;(try simp only [and_assoc,true_and] at h_);(repeat' apply And.intro) <;> with_reducible first|exact h_.1|exact h_.2.1|exact h_.2.2.1|exact h_.2.2.2.1|exact h_.2.2.2.2.1|exact h_.2.2.2.2.2.1|exact h_.2.2.2.2.2.2.1|exact h_.2.2.2.2.2.2.2.1|exact h_.2.2.2.2.2.2.2.2.1|exact h_.2|exact h_.2.2|exact h_.2.2.2|exact h_.2.2.2.2|exact h_.2.2.2.2.2|exact h_.2.2.2.2.2.2|exact h_.2.2.2.2.2.2.2|exact h_.2.2.2.2.2.2.2.2)) (.int .i64 t366)) (fun _ hk=>by first|exact hk.2|(have h_:=hk;(try simp only [and_assoc,true_and] at h_);(repeat' apply And.intro) <;> with_reducible first|exact h_.1|exact h_.2.1|exact h_.2.2.1|exact h_.2.2.2.1|exact h_.2.2.2.2.1|exact h_.2.2.2.2.2.1|exact h_.2.2.2.2.2.2.1|exact h_.2.2.2.2.2.2.2.1|exact h_.2.2.2.2.2.2.2.2.1|exact h_.2|exact h_.2.2|exact h_.2.2.2|exact h_.2.2.2.2|exact h_.2.2.2.2.2|exact h_.2.2.2.2.2.2|exact h_.2.2.2.2.2.2.2|exact h_.2.2.2.2.2.2.2.2)) (.int .i64 t367)) (fun _ hk=>by first|exact hk.2|(have h_:=hk;(try simp only [and_assoc,true_and] at h_);(repeat' apply And.intro) <;> with_reducible first|exact h_.1|exact h_.2.1|exact h_.2.2.1|exact h_.2.2.2.1|exact h_.2.2.2.2.1|exact h_.2.2.2.2.2.1|exact h_.2.2.2.2.2.2.1|exact h_.2.2.2.2.2.2.2.1|exact h_.2.2.2.2.2.2.2.2.1|exact h_.2|exact h_.2.2|exact h_.2.2.2|exact h_.2.2.2.2|exact h_.2.2.2.2.2|exact h_.2.2.2.2.2.2|exact h_.2.2.2.2.2.2.2|exact h_.2.2.2.2.2.2.2.2)) (.slice Ao59 t368.length co59)) (fun _ h_=>h_.1))));(case side2=>exact (Kd.S_reads' HO364.out).2.1);(case side3=>refine (Kd.R_reads' (e:=2) (base:=w.heap.size) (ok:=fun k_=>(True ∧ some k_ ≠ (.slice Ao43 t358.length co43 : Value).ownBlock)) (n:=t368.length) (c:=co59) ?_).2.2;exact (by (with_reducible repeat first|apply Kd.R_alloc|apply Kd.R_drewN|apply Kd.R_drew);exact (Kd.R_mono (Kd.R_far (p:=⟨gb371,2,none⟩) (Kd.R_far (p:=⟨gb371,1,none⟩) (Kd.R_far (p:=⟨gb371,0,none⟩) (Kd.R_types HO370.out BK371.out (by decide)) (fun _ hk=>by first|exact hk.2|(have h_:=hk;(try simp only [and_assoc,true_and] at h_);(repeat' apply And.intro) <;> with_reducible first|exact h_.1|exact h_.2.1|exact h_.2.2.1|exact h_.2.2.2.1|exact h_.2.2.2.2.1|exact h_.2.2.2.2.2.1|exact h_.2.2.2.2.2.2.1|exact h_.2.2.2.2.2.2.2.1|exact h_.2.2.2.2.2.2.2.2.1|exact h_.2|exact h_.2.2|exact h_.2.2.2|exact h_.2.2.2.2|exact h_.2.2.2.2.2|exact h_.2.2.2.2.2.2|exact h_.2.2.2.2.2.2.2|exact h_.2.2.2.2.2.2.2.2)) (.int .i64 t366)) (fun _ hk=>by first|exact hk.2|(have h_:=hk;(try simp only [and_assoc,true_and] at h_);(repeat' apply And.intro) <;> with_reducible first|exact h_.1|exact h_.2.1|exact h_.2.2.1|exact h_.2.2.2.1|exact h_.2.2.2.2.1|exact h_.2.2.2.2.2.1|exact h_.2.2.2.2.2.2.1|exact h_.2.2.2.2.2.2.2.1|exact h_.2.2.2.2.2.2.2.2.1|exact h_.2|exact h_.2.2|exact h_.2.2.2|exact h_.2.2.2.2|exact h_.2.2.2.2.2|exact h_.2.2.2.2.2.2|exact h_.2.2.2.2.2.2.2|exact h_.2.2.2.2.2.2.2.2)) (.int .i64 t367)) (fun _ hk=>by first|exact hk.2|(have h_:=hk;(try simp only [and_assoc,true_and] at h_);(repeat' apply And.intro) <;> with_reducible first|exact h_.1|exact h_.2.1|exact h_.2.2.1|exact h_.2.2.2.1|exact h_.2.2.2.2.1|exact h_.2.2.2.2.2.1|exact h_.2.2.2.2.2.2.1|exact h_.2.2.2.2.2.2.2.1|exact h_.2.2.2.2.2.2.2.2.1|exact h_.2|exact h_.2.2|exact h_.2.2.2|exact h_.2.2.2.2|exact h_.2.2.2.2.2|exact h_.2.2.2.2.2.2|exact h_.2.2.2.2.2.2.2|exact h_.2.2.2.2.2.2.2.2)) (.slice Ao59 t368.length co59)) (fun _ h_=>h_.1))));(case side4=>exact (Kd.R_reads' HO370.out).2.1);rintro e w61 ⟨rfl,hb⟩;refine ⟨_,rfl,?_⟩;have n0_:=aK (Kd.S_below (by (with_reducible repeat first|apply Kd.S_alloc|apply Kd.S_drewN|apply Kd.S_drew);exact (Kd.S_mono (Kd.S_far (p:=⟨gb371,2,none⟩) (Kd.S_far (p:=⟨gb371,1,none⟩) (Kd.S_far (p:=⟨gb371,0,none⟩) (Kd.S_types HO355.out BK371.out (by decide)) (fun _ hk=>by first|exact hk.2|(have h_:=hk;(try simp only [and_assoc,true_and] at h_);(repeat' apply And.intro) <;> with_reducible first|exact h_.1|exact h_.2.1|exact h_.2.2.1|exact h_.2.2.2.1|exact h_.2.2.2.2.1|exact h_.2.2.2.2.2.1|exact h_.2.2.2.2.2.2.1|exact h_.2.2.2.2.2.2.2.1|exact h_.2.2.2.2.2.2.2.2.1|exact h_.2|exact h_.2.2|exact h_.2.2.2|exact h_.2.2.2.2|exact h_.2.2.2.2.2|exact h_.2.2.2.2.2.2|exact h_.2.2.2.2.2.2.2|exact h_.2.2.2.2.2.2.2.2)) (.int .i64 t366)) (fun _ hk=>by first|exact hk.2|(have h_:=hk;(try simp only [and_assoc,true_and] at h_);(repeat' apply And.intro) <;> with_reducible first|exact h_.1|exact h_.2.1|exact h_.2.2.1|exact h_.2.2.2.1|exact h_.2.2.2.2.1|exact h_.2.2.2.2.2.1|exact h_.2.2.2.2.2.2.1|exact h_.2.2.2.2.2.2.2.1|exact h_.2.2.2.2.2.2.2.2.1|exact h_.2|exact h_.2.2|exact h_.2.2.2|exact h_.2.2.2.2|exact h_.2.2.2.2.2|exact h_.2.2.2.2.2.2|exact h_.2.2.2.2.2.2.2|exact h_.2.2.2.2.2.2.2.2)) (.int .i64 t367)) (fun _ hk=>by first|exact hk.2|(have h_:=hk;(try simp only [and_assoc,true_and] at h_);(repeat' apply And.intro) <;> with_reducible first|exact h_.1|exact h_.2.1|exact h_.2.2.1|exact h_.2.2.2.1|exact h_.2.2.2.2.1|exact h_.2.2.2.2.2.1|exact h_.2.2.2.2.2.2.1|exact h_.2.2.2.2.2.2.2.1|exact h_.2.2.2.2.2.2.2.2.1|exact h_.2|exact h_.2.2|exact h_.2.2.2|exact h_.2.2.2.2|exact h_.2.2.2.2.2|exact h_.2.2.2.2.2.2|exact h_.2.2.2.2.2.2.2|exact h_.2.2.2.2.2.2.2.2)) (.slice Ao59 t368.length co59)) (fun _ h_=>h_.1))) hb);have n1_:=aK (Kd.R_below (by (with_reducible repeat first|apply Kd.R_alloc|apply Kd.R_drewN|apply Kd.R_drew);exact (Kd.R_mono (Kd.R_far (p:=⟨gb371,2,none⟩) (Kd.R_far (p:=⟨gb371,1,none⟩) (Kd.R_far (p:=⟨gb371,0,none⟩) (Kd.R_types HO360.out BK371.out (by decide)) (fun _ hk=>by first|exact hk.2|(have h_:=hk;(try simp only [and_assoc,true_and] at h_);(repeat' apply And.intro) <;> with_reducible first|exact h_.1|exact h_.2.1|exact h_.2.2.1|exact h_.2.2.2.1|exact h_.2.2.2.2.1|exact h_.2.2.2.2.2.1|exact h_.2.2.2.2.2.2.1|exact h_.2.2.2.2.2.2.2.1|exact h_.2.2.2.2.2.2.2.2.1|exact h_.2|exact h_.2.2|exact h_.2.2.2|exact h_.2.2.2.2|exact h_.2.2.2.2.2|exact h_.2.2.2.2.2.2|exact h_.2.2.2.2.2.2.2|exact h_.2.2.2.2.2.2.2.2)) (.int .i64 t366)) (fun _ hk=>by first|exact hk.2|(have h_:=hk;(try simp only [and_assoc,true_and] at h_);(repeat' apply And.intro) <;> with_reducible first|exact h_.1|exact h_.2.1|exact h_.2.2.1|exact h_.2.2.2.1|exact h_.2.2.2.2.1|exact h_.2.2.2.2.2.1|exact h_.2.2.2.2.2.2.1|exact h_.2.2.2.2.2.2.2.1|exact h_.2.2.2.2.2.2.2.2.1|exact h_.2|exact h_.2.2|exact h_.2.2.2|exact h_.2.2.2.2|exact h_.2.2.2.2.2|exact h_.2.2.2.2.2.2|exact h_.2.2.2.2.2.2.2|exact h_.2.2.2.2.2.2.2.2)) (.int .i64 t367)) (fun _ hk=>by first|exact hk.2|(have h_:=hk;(try simp only [and_assoc,true_and] at h_);(repeat' apply And.intro) <;> with_reducible first|exact h_.1|exact h_.2.1|exact h_.2.2.1|exact h_.2.2.2.1|exact h_.2.2.2.2.1|exact h_.2.2.2.2.2.1|exact h_.2.2.2.2.2.2.1|exact h_.2.2.2.2.2.2.2.1|exact h_.2.2.2.2.2.2.2.2.1|exact h_.2|exact h_.2.2|exact h_.2.2.2|exact h_.2.2.2.2|exact h_.2.2.2.2.2|exact h_.2.2.2.2.2.2|exact h_.2.2.2.2.2.2.2|exact h_.2.2.2.2.2.2.2.2)) (.slice Ao59 t368.length co59)) (fun _ h_=>h_.1))) hb);have n2_:=aK (Kd.S_below (by (with_reducible repeat first|apply Kd.S_alloc|apply Kd.S_drewN|apply Kd.S_drew);exact (Kd.S_mono (Kd.S_far (p:=⟨gb371,2,none⟩) (Kd.S_far (p:=⟨gb371,1,none⟩) (Kd.S_far (p:=⟨gb371,0,none⟩) (Kd.S_types HO364.out BK371.out (by decide)) (fun _ hk=>by first|exact hk.2|(have h_:=hk;(try simp only [and_assoc,true_and] at h_);(repeat' apply And.intro) <;> with_reducible first|exact h_.1|exact h_.2.1|exact h_.2.2.1|exact h_.2.2.2.1|exact h_.2.2.2.2.1|exact h_.2.2.2.2.2.1|exact h_.2.2.2.2.2.2.1|exact h_.2.2.2.2.2.2.2.1|exact h_.2.2.2.2.2.2.2.2.1|exact h_.2|exact h_.2.2|exact h_.2.2.2|exact h_.2.2.2.2|exact h_.2.2.2.2.2|exact h_.2.2.2.2.2.2|exact h_.2.2.2.2.2.2.2|exact h_.2.2.2.2.2.2.2.2)) (.int .i64 t366)) (fun _ hk=>by first|exact hk.2|(have h_:=hk;(try simp only [and_assoc,true_and] at h_);(repeat' apply And.intro) <;> with_reducible first|exact h_.1|exact h_.2.1|exact h_.2.2.1|exact h_.2.2.2.1|exact h_.2.2.2.2.1|exact h_.2.2.2.2.2.1|exact h_.2.2.2.2.2.2.1|exact h_.2.2.2.2.2.2.2.1|exact h_.2.2.2.2.2.2.2.2.1|exact h_.2|exact h_.2.2|exact h_.2.2.2|exact h_.2.2.2.2|exact h_.2.2.2.2.2|exact h_.2.2.2.2.2.2|exact h_.2.2.2.2.2.2.2|exact h_.2.2.2.2.2.2.2.2)) (.int .i64 t367)) (fun _ hk=>by first|exact hk.2|(have h_:=hk;(try simp only [and_assoc,true_and] at h_);(repeat' apply And.intro) <;> with_reducible first|exact h_.1|exact h_.2.1|exact h_.2.2.1|exact h_.2.2.2.1|exact h_.2.2.2.2.1|exact h_.2.2.2.2.2.1|exact h_.2.2.2.2.2.2.1|exact h_.2.2.2.2.2.2.2.1|exact h_.2.2.2.2.2.2.2.2.1|exact h_.2|exact h_.2.2|exact h_.2.2.2|exact h_.2.2.2.2|exact h_.2.2.2.2.2|exact h_.2.2.2.2.2.2|exact h_.2.2.2.2.2.2.2|exact h_.2.2.2.2.2.2.2.2)) (.slice Ao59 t368.length co59)) (fun _ h_=>h_.1))) hb);have n3_:=aK (Kd.R_below (by (with_reducible repeat first|apply Kd.R_alloc|apply Kd.R_drewN|apply Kd.R_drew);exact (Kd.R_mono (Kd.R_far (p:=⟨gb371,2,none⟩) (Kd.R_far (p:=⟨gb371,1,none⟩) (Kd.R_far (p:=⟨gb371,0,none⟩) (Kd.R_types HO370.out BK371.out (by decide)) (fun _ hk=>by first|exact hk.2|(have h_:=hk;(try simp only [and_assoc,true_and] at h_);(repeat' apply And.intro) <;> with_reducible first|exact h_.1|exact h_.2.1|exact h_.2.2.1|exact h_.2.2.2.1|exact h_.2.2.2.2.1|exact h_.2.2.2.2.2.1|exact h_.2.2.2.2.2.2.1|exact h_.2.2.2.2.2.2.2.1|exact h_.2.2.2.2.2.2.2.2.1|exact h_.2|exact h_.2.2|exact h_.2.2.2|exact h_.2.2.2.2|exact h_.2.2.2.2.2|exact h_.2.2.2.2.2.2|exact h_.2.2.2.2.2.2.2|exact h_.2.2.2.2.2.2.2.2)) (.int .i64 t366)) (fun _ hk=>by first|exact hk.2|(have h_:=hk;(try simp only [and_assoc,true_and] at h_);(repeat' apply And.intro) <;> with_reducible first|exact h_.1|exact h_.2.1|exact h_.2.2.1|exact h_.2.2.2.1|exact h_.2.2.2.2.1|exact h_.2.2.2.2.2.1|exact h_.2.2.2.2.2.2.1|exact h_.2.2.2.2.2.2.2.1|exact h_.2.2.2.2.2.2.2.2.1|exact h_.2|exact h_.2.2|exact h_.2.2.2|exact h_.2.2.2.2|exact h_.2.2.2.2.2|exact h_.2.2.2.2.2.2|exact h_.2.2.2.2.2.2.2|exact h_.2.2.2.2.2.2.2.2)) (.int .i64 t367)) (fun _ hk=>by first|exact hk.2|(have h_:=hk;(try simp only [and_assoc,true_and] at h_);(repeat' apply And.intro) <;> with_reducible first|exact h_.1|exact h_.2.1|exact h_.2.2.1|exact h_.2.2.2.1|exact h_.2.2.2.2.1|exact h_.2.2.2.2.2.1|exact h_.2.2.2.2.2.2.1|exact h_.2.2.2.2.2.2.2.1|exact h_.2.2.2.2.2.2.2.2.1|exact h_.2|exact h_.2.2|exact h_.2.2.2|exact h_.2.2.2.2|exact h_.2.2.2.2.2|exact h_.2.2.2.2.2.2|exact h_.2.2.2.2.2.2.2|exact h_.2.2.2.2.2.2.2.2)) (.slice Ao59 t368.length co59)) (fun _ h_=>h_.1))) hb);have n4_:=aK (bB (g:=gb349) (o:=.cells #[.slice A0_0 l0_0.length c0_0] 41 (0,0)) (by (with_reducible repeat first|apply bN|apply bD|apply bA);refine blk_far ?_ NB349_371.out _;(with_reducible repeat first|apply bN|apply bD|apply bA);refine blk_far ?_ NB349_371.out _;(with_reducible repeat first|apply bN|apply bD|apply bA);refine blk_far ?_ NB349_371.out _;(with_reducible repeat first|apply bN|apply bD|apply bA);exact BK349.out) hb);have n5_:=aK (bB (g:=gb350) (o:=.cells #[.int .i64 a1_0,.int .i64 a1_1,.slice A1_2 l1_2.length c1_2] 24 (0,0)) (by (with_reducible repeat first|apply bN|apply bD|apply bA);refine blk_far ?_ NB350_371.out _;(with_reducible repeat first|apply bN|apply bD|apply bA);refine blk_far ?_ NB350_371.out _;(with_reducible repeat first|apply bN|apply bD|apply bA);refine blk_far ?_ NB350_371.out _;(with_reducible repeat first|apply bN|apply bD|apply bA);exact BK350.out) hb);have n6_:=aK (bB (g:=gb365) (o:=.cells #[.slice Ao48 t362.length co48] 44 (0,0)) (by (with_reducible repeat first|apply bN|apply bD|apply bA);refine blk_far ?_ NB365_371.out _;(with_reducible repeat first|apply bN|apply bD|apply bA);refine blk_far ?_ NB365_371.out _;(with_reducible repeat first|apply bN|apply bD|apply bA);refine blk_far ?_ NB365_371.out _;(with_reducible repeat first|apply bN|apply bD|apply bA);exact BK365.out) hb);have n7_:=aK (bB (g:=gb371) (o:=.cells #[.int .i64 t366,.int .i64 t367,.slice Ao59 t368.length co59] 27 (0,0)) (by (with_reducible repeat first|apply bN|apply bD|apply bA);refine blk_put (cs:=#[.int .i64 t366,.int .i64 t367,.slice none 0 0]) ?_ 2 _ rfl;(with_reducible repeat first|apply bN|apply bD|apply bA);refine blk_put (cs:=#[.int .i64 t366,.int .i64 0,.slice none 0 0]) ?_ 1 _ rfl;(with_reducible repeat first|apply bN|apply bD|apply bA);refine blk_put (cs:=#[.int .i64 0,.int .i64 0,.slice none 0 0]) ?_ 0 _ rfl;(with_reducible repeat first|apply bN|apply bD|apply bA);exact BK371.out) hb);have n8_:=aK (below_step (by repeat (first|(with_reducible first|exact HB.out|apply bL|apply bM|apply b1|refine bS ?_ GE349.out|refine bS ?_ GE350.out|refine bS ?_ GE365.out|refine bS ?_ GE371.out)|exact HB.out)) hb);clear HO355;clear HO360;clear HO364;clear HO370;clear BK349;clear BK350;clear BK365;clear BK371;clear HB;have HO355:=n0_;have HO360:=n1_;have HO364:=n2_;have HO370:=n3_;have BK349:=n4_;have BK350:=n5_;have BK365:=n6_;have BK371:=n7_;have HB:=n8_;clear n0_ n1_ n2_ n3_ n4_ n5_ n6_ n7_ n8_;(try clear hb);(try clear hb2);(try clear hk);(try clear hi)))
      have n0_:=aK (Kd.S_drew HO355.out)
      have n1_:=aK (Kd.R_drew HO360.out)
      have n2_:=aK (Kd.S_drew HO364.out)
      have n3_:=aK (Kd.R_drew HO370.out)
      have n4_:=aK (bD BK349.out)
      have n5_:=aK (bD BK350.out)
      have n6_:=aK (bD BK365.out)
      have n7_:=aK (bD BK371.out)
      have n8_:=aK (b1 HB.out)
      clear HO355
      clear HO360
      clear HO364
      clear HO370
      clear BK349
      clear BK350
      clear BK365
      clear BK371
      clear HB
      have HO355:=n0_
      have HO360:=n1_
      have HO364:=n2_
      have HO370:=n3_
      have BK349:=n4_
      have BK350:=n5_
      have BK365:=n6_
      have BK371:=n7_
      have HB:=n8_
      clear n0_ n1_ n2_ n3_ n4_ n5_ n6_ n7_ n8_
      refine start_ (n:=5) (S:=fun w'=>w'.cell? ⟨gb365,0,none⟩ = some (.slice Ao48 t362.length co48) ∧ w'.cell? ⟨gb349,0,none⟩ = some (.slice A0_0 l0_0.length c0_0)) (ds:=[]) #[false,false,false,false,false] (by kernel_rfl) rfl rfl ⟨(bC BK365.out 0).trans rfl,(bC BK349.out 0).trans rfl⟩ (fun hHeld=>?_)
      generalize w61.drew = w62 at HO355 HO360 HO364 HO370 BK349 BK350 BK365 BK371 HB hHeld ⊢
      refine take_ (i:=0) (N:=some 35) (v:=?_) (a':=?_) #[true,false,false,false,false] rfl rfl (by kernel_rfl) (fun _ _ _ h=>h) (Or.inl ⟨by rfl,?_⟩) hHeld ?_ ?_
      rotate_left
      ·rintro w' ⟨s0,s1⟩
       go_simp
       with_reducible rfl
      rotate_left
      ·simp only [Act.put,lA,l0',lS,i64_w,i32_w]
       rfl
      refine take_ (i:=1) (N:=some 36) (v:=?_) (a':=?_) #[true,true,false,false,false] rfl rfl (by kernel_rfl) (fun _ _ _ h=>h) (Or.inl ⟨by rfl,?_⟩) hHeld ?_ ?_
      rotate_left
      ·rintro w' ⟨s0,s1⟩
       go_simp
       with_reducible rfl
      rotate_left
      ·simp only [Act.put,lA,l0',lS,i64_w,i32_w]
       rfl
      refine one_ (i:=2) (N:=some 37) #[true,true,true,false,false] rfl rfl (by kernel_rfl) (by decide) (fun K hK=>?_)
      refine goes_ Try.func42 (by kernel_rfl) rfl #[.agg #[.slice A0_0 l0_0.length c0_0]] (by rfl) rfl rfl (by (try simp only [mA,mC,mN]);first|done|rfl) ?_
      with_reducible refine (laws_toDeal.calls k _ _ l0_0 t373 _ ?side1 ?side2 A26.out).mono ?_
      (case side1=>repeat (first|exact (Kd.C_below HR0_0.out HB.out)|(with_reducible refine Kd.C_alloc ?_ _)|(with_reducible refine Kd.C_drewN ?_ _)|(with_reducible refine Kd.C_drew ?_)))
      (case side2=>exact HC0_0.out)
      rintro e w63 ⟨v374,rfl,ho0,hb⟩
      refine ⟨_,rfl,?_⟩
      have n0_:=aK (Kd.S_elder' (by (with_reducible repeat first|apply Kd.S_alloc|apply Kd.S_drewN|apply Kd.S_drew);exact HO355.out) (Kd.S_base ho0) hb)
      have n1_:=aK (Kd.R_below (by (with_reducible repeat first|apply Kd.R_alloc|apply Kd.R_drewN|apply Kd.R_drew);exact HO360.out) hb)
      have n2_:=aK (Kd.S_elder' (by (with_reducible repeat first|apply Kd.S_alloc|apply Kd.S_drewN|apply Kd.S_drew);exact HO364.out) (Kd.S_base ho0) hb)
      have n3_:=aK (Kd.R_below (by (with_reducible repeat first|apply Kd.R_alloc|apply Kd.R_drewN|apply Kd.R_drew);exact HO370.out) hb)
      have n4_:=aK (Kd.S_lower (Kd.S_new' (Kd.S_new' (Kd.S_new' (Kd.S_new' ho0 (Kd.S_lt (by (with_reducible repeat first|apply Kd.S_alloc|apply Kd.S_drewN|apply Kd.S_drew);exact HO355.out))) (Kd.R_lt (by (with_reducible repeat first|apply Kd.R_alloc|apply Kd.R_drewN|apply Kd.R_drew);exact HO360.out))) (Kd.S_lt (by (with_reducible repeat first|apply Kd.S_alloc|apply Kd.S_drewN|apply Kd.S_drew);exact HO364.out))) (Kd.R_lt (by (with_reducible repeat first|apply Kd.R_alloc|apply Kd.R_drewN|apply Kd.R_drew);exact HO370.out))) (below_size (by repeat (first|(with_reducible first|exact HB.out|apply bL|apply bM|apply b1|refine bS ?_ GE349.out|refine bS ?_ GE350.out|refine bS ?_ GE365.out|refine bS ?_ GE371.out)|exact HB.out))))
      have n5_:=aK (bB (by (with_reducible repeat first|apply bN|apply bD|apply bA);exact BK349.out) hb)
      have n6_:=aK (bB (by (with_reducible repeat first|apply bN|apply bD|apply bA);exact BK350.out) hb)
      have n7_:=aK (bB (by (with_reducible repeat first|apply bN|apply bD|apply bA);exact BK365.out) hb)
      have n8_:=aK (bB (by (with_reducible repeat first|apply bN|apply bD|apply bA);exact BK371.out) hb)
      have n9_:=aK (below_step (by repeat (first|(with_reducible first|exact HB.out|apply bL|apply bM|apply b1|refine bS ?_ GE349.out|refine bS ?_ GE350.out|refine bS ?_ GE365.out|refine bS ?_ GE371.out)|exact HB.out)) hb)
      clear HO355
      clear HO360
      clear HO364
      clear HO370
      clear BK349
      clear BK350
      clear BK365
      clear BK371
      clear HB
      have HO355:=n0_
      have HO360:=n1_
      have HO364:=n2_
      have HO370:=n3_
      have HO375:=n4_
      have BK349:=n5_
      have BK350:=n6_
      have BK365:=n7_
      have BK371:=n8_
      have HB:=n9_
      clear n0_ n1_ n2_ n3_ n4_ n5_ n6_ n7_ n8_ n9_
      (try clear hb)
      (try clear hb2)
      (try clear hk)
      (try clear hi)
      (try clear ho0)
      obtain ⟨Ao64,co64,eo64⟩:=Kd.S_slice HO375.out
      (first|subst eo64|(injection eo64 with f1_ f2_ f3_;have f4_:=f1_.symm;have f5_:=f3_.symm;clear f1_ f2_ f3_;subst f4_;subst f5_))
      refine hK.out _ _ ⟨(bC BK365.out 0).trans rfl,(bC BK349.out 0).trans rfl⟩ (fun hHeld=>?_)
      clear hK K
      refine norm_ (a':=?_) ?_ ?_
      rotate_left
      ·show Act.put _ (some 37) _ = _
       simp only [Act.put,lA,l0',lS,i64_w,i32_w]
       rfl
      refine one_ (i:=3) (N:=some 38) #[true,true,true,true,false] rfl rfl (by kernel_rfl) (by decide) (fun K hK=>?_)
      refine goes_ Try.func44 (by kernel_rfl) rfl #[.agg #[.slice Ao48 t362.length co48],.agg #[.slice Ao64 t373.length co64]] (by rfl) rfl rfl (by (try simp only [mA,mC,mN]);first|done|rfl) ?_
      with_reducible refine (laws_eqDeal.calls k _ _ t362 _ _ t373 true _ ?side1 ?side2 ?side3 ?side4 A27.out).mono ?_
      (case side1=>repeat (first|exact (Kd.S_reads' HO364.out).2.2|(with_reducible refine Kd.C_alloc ?_ _)|(with_reducible refine Kd.C_drewN ?_ _)|(with_reducible refine Kd.C_drew ?_)))
      (case side2=>exact (Kd.S_reads' HO364.out).2.1)
      (case side3=>repeat (first|exact (Kd.S_reads' HO375.out).2.2|(with_reducible refine Kd.C_alloc ?_ _)|(with_reducible refine Kd.C_drewN ?_ _)|(with_reducible refine Kd.C_drew ?_)))
      (case side4=>exact (Kd.S_reads' HO375.out).2.1)
      rintro e w65 ⟨rfl,hb⟩
      refine ⟨_,rfl,?_⟩
      have n0_:=aK (Kd.S_below (by (with_reducible repeat first|apply Kd.S_alloc|apply Kd.S_drewN|apply Kd.S_drew);exact HO355.out) hb)
      have n1_:=aK (Kd.R_below (by (with_reducible repeat first|apply Kd.R_alloc|apply Kd.R_drewN|apply Kd.R_drew);exact HO360.out) hb)
      have n2_:=aK (Kd.S_below (by (with_reducible repeat first|apply Kd.S_alloc|apply Kd.S_drewN|apply Kd.S_drew);exact HO364.out) hb)
      have n3_:=aK (Kd.R_below (by (with_reducible repeat first|apply Kd.R_alloc|apply Kd.R_drewN|apply Kd.R_drew);exact HO370.out) hb)
      have n4_:=aK (Kd.S_below (by (with_reducible repeat first|apply Kd.S_alloc|apply Kd.S_drewN|apply Kd.S_drew);exact HO375.out) hb)
      have n5_:=aK (bB (by (with_reducible repeat first|apply bN|apply bD|apply bA);exact BK349.out) hb)
      have n6_:=aK (bB (by (with_reducible repeat first|apply bN|apply bD|apply bA);exact BK350.out) hb)
      have n7_:=aK (bB (by (with_reducible repeat first|apply bN|apply bD|apply bA);exact BK365.out) hb)
      have n8_:=aK (bB (by (with_reducible repeat first|apply bN|apply bD|apply bA);exact BK371.out) hb)
      have n9_:=aK (below_step (by repeat (first|(with_reducible first|exact HB.out|apply bL|apply bM|apply b1|refine bS ?_ GE349.out|refine bS ?_ GE350.out|refine bS ?_ GE365.out|refine bS ?_ GE371.out)|exact HB.out)) hb)
      clear HO355
      clear HO360
      clear HO364
      clear HO370
      clear HO375
      clear BK349
      clear BK350
      clear BK365
      clear BK371
      clear HB
      have HO355:=n0_
      have HO360:=n1_
      have HO364:=n2_
      have HO370:=n3_
      have HO375:=n4_
      have BK349:=n5_
      have BK350:=n6_
      have BK365:=n7_
      have BK371:=n8_
      have HB:=n9_
      clear n0_ n1_ n2_ n3_ n4_ n5_ n6_ n7_ n8_ n9_
      (try clear hb)
      (try clear hb2)
      (try clear hk)
      (try clear hi)
      refine hK.out _ _ ⟨(bC BK365.out 0).trans rfl,(bC BK349.out 0).trans rfl⟩ (fun hHeld=>?_)
      clear hK K
      refine norm_ (a':=?_) ?_ ?_
      rotate_left
      ·show Act.put _ (some 38) _ = _
       simp only [Act.put,lA,l0',lS,i64_w,i32_w]
       rfl
      refine pure_ (i:=4) (N:=some 39) (v:=?_) (a':=?_) #[true,true,true,true,true] rfl rfl (by kernel_rfl) (fun _ _ _ h=>h) (Or.inl ⟨by rfl,?_⟩) ?_ ?_
      rotate_left
      ·intro w'
       go_simp
       with_reducible rfl
      rotate_left
      ·simp only [Act.put,lA,l0',lS,i64_w,i32_w]
       rfl
      refine done_ (by kernel_rfl) ?_
      try go_wp2
      have n0_:=aK (Kd.S_drew HO355.out)
      have n1_:=aK (Kd.R_drew HO360.out)
      have n2_:=aK (Kd.S_drew HO364.out)
      have n3_:=aK (Kd.R_drew HO370.out)
      have n4_:=aK (Kd.S_drew HO375.out)
      have n5_:=aK (bD BK349.out)
      have n6_:=aK (bD BK350.out)
      have n7_:=aK (bD BK365.out)
      have n8_:=aK (bD BK371.out)
      have n9_:=aK (b1 HB.out)
      clear HO355
      clear HO360
      clear HO364
      clear HO370
      clear HO375
      clear BK349
      clear BK350
      clear BK365
      clear BK371
      clear HB
      have HO355:=n0_
      have HO360:=n1_
      have HO364:=n2_
      have HO370:=n3_
      have HO375:=n4_
      have BK349:=n5_
      have BK350:=n6_
      have BK365:=n7_
      have BK371:=n8_
      have HB:=n9_
      clear n0_ n1_ n2_ n3_ n4_ n5_ n6_ n7_ n8_ n9_
      refine start_ (n:=5) (S:=fun w'=>w'.cell? ⟨gb371,0,none⟩ = some (.int .i64 t366) ∧ w'.cell? ⟨gb371,1,none⟩ = some (.int .i64 t367) ∧ w'.cell? ⟨gb371,2,none⟩ = some (.slice Ao59 t368.length co59) ∧ w'.cell? ⟨gb350,0,none⟩ = some (.int .i64 a1_0) ∧ w'.cell? ⟨gb350,1,none⟩ = some (.int .i64 a1_1) ∧ w'.cell? ⟨gb350,2,none⟩ = some (.slice A1_2 l1_2.length c1_2)) (ds:=[]) #[false,false,false,false,false] (by kernel_rfl) rfl rfl ⟨(bC BK371.out 0).trans rfl,(bC BK371.out 1).trans rfl,(bC BK371.out 2).trans rfl,(bC BK350.out 0).trans rfl,(bC BK350.out 1).trans rfl,(bC BK350.out 2).trans rfl⟩ (fun hHeld=>?_)
      generalize w65.drew = w66 at HO355 HO360 HO364 HO370 HO375 BK349 BK350 BK365 BK371 HB hHeld ⊢
      refine take_ (i:=0) (N:=some 40) (v:=?_) (a':=?_) #[true,false,false,false,false] rfl rfl (by kernel_rfl) (fun _ _ _ h=>h) (Or.inl ⟨by rfl,?_⟩) hHeld ?_ ?_
      rotate_left
      ·rintro w' ⟨s0,s1,s2,s3,s4,s5⟩
       go_simp
       with_reducible rfl
      rotate_left
      ·simp only [Act.put,lA,l0',lS,i64_w,i32_w]
       rfl
      refine take_ (i:=1) (N:=some 41) (v:=?_) (a':=?_) #[true,true,false,false,false] rfl rfl (by kernel_rfl) (fun _ _ _ h=>h) (Or.inl ⟨by rfl,?_⟩) hHeld ?_ ?_
      rotate_left
      ·rintro w' ⟨s0,s1,s2,s3,s4,s5⟩
       go_simp
       with_reducible rfl
      rotate_left
      ·simp only [Act.put,lA,l0',lS,i64_w,i32_w]
       rfl
      refine one_ (i:=2) (N:=some 42) #[true,true,true,false,false] rfl rfl (by kernel_rfl) (by decide) (fun K hK=>?_)
      refine goes_ Try.func24 (by kernel_rfl) rfl #[.agg #[.int .i64 a1_0,.int .i64 a1_1,.slice A1_2 l1_2.length c1_2]] (by rfl) rfl rfl (by (try simp only [mA,mC,mN]);first|done|rfl) ?_
      with_reducible refine (laws_toPlay.calls k a1_0 a1_1 _ _ l1_2 t377 t378 t379 _ ?side1 ?side2 A29.out).mono ?_
      (case side1=>repeat (first|exact (Kd.C_below HR1_2.out HB.out)|(with_reducible refine Kd.C_alloc ?_ _)|(with_reducible refine Kd.C_drewN ?_ _)|(with_reducible refine Kd.C_drew ?_)))
      (case side2=>exact HC1_2.out)
      rintro e w67 ⟨v380,rfl,ho0,hb⟩
      refine ⟨_,rfl,?_⟩
      have n0_:=aK (Kd.S_elder' (by (with_reducible repeat first|apply Kd.S_alloc|apply Kd.S_drewN|apply Kd.S_drew);exact HO355.out) (Kd.R_base ho0) hb)
      have n1_:=aK (Kd.R_elder' (by (with_reducible repeat first|apply Kd.R_alloc|apply Kd.R_drewN|apply Kd.R_drew);exact HO360.out) (Kd.R_base ho0) hb)
      have n2_:=aK (Kd.S_elder' (by (with_reducible repeat first|apply Kd.S_alloc|apply Kd.S_drewN|apply Kd.S_drew);exact HO364.out) (Kd.R_base ho0) hb)
      have n3_:=aK (Kd.R_elder' (by (with_reducible repeat first|apply Kd.R_alloc|apply Kd.R_drewN|apply Kd.R_drew);exact HO370.out) (Kd.R_base ho0) hb)
      have n4_:=aK (Kd.S_elder' (by (with_reducible repeat first|apply Kd.S_alloc|apply Kd.S_drewN|apply Kd.S_drew);exact HO375.out) (Kd.R_base ho0) hb)
      have n5_:=aK (Kd.R_lower (Kd.R_new' (Kd.R_new' ho0 (Kd.R_lt (by (with_reducible repeat first|apply Kd.R_alloc|apply Kd.R_drewN|apply Kd.R_drew);exact HO360.out))) (Kd.R_lt (by (with_reducible repeat first|apply Kd.R_alloc|apply Kd.R_drewN|apply Kd.R_drew);exact HO370.out))) (below_size (by repeat (first|(with_reducible first|exact HB.out|apply bL|apply bM|apply b1|refine bS ?_ GE349.out|refine bS ?_ GE350.out|refine bS ?_ GE365.out|refine bS ?_ GE371.out)|exact HB.out))))
      have n6_:=aK (bB (by (with_reducible repeat first|apply bN|apply bD|apply bA);exact BK349.out) hb)
      have n7_:=aK (bB (by (with_reducible repeat first|apply bN|apply bD|apply bA);exact BK350.out) hb)
      have n8_:=aK (bB (by (with_reducible repeat first|apply bN|apply bD|apply bA);exact BK365.out) hb)
      have n9_:=aK (bB (by (with_reducible repeat first|apply bN|apply bD|apply bA);exact BK371.out) hb)
      have n10_:=aK (below_step (by repeat (first|(with_reducible first|exact HB.out|apply bL|apply bM|apply b1|refine bS ?_ GE349.out|refine bS ?_ GE350.out|refine bS ?_ GE365.out|refine bS ?_ GE371.out)|exact HB.out)) hb)
      clear HO355
      clear HO360
      clear HO364
      clear HO370
      clear HO375
      clear BK349
      clear BK350
      clear BK365
      clear BK371
      clear HB
      have HO355:=n0_
      have HO360:=n1_
      have HO364:=n2_
      have HO370:=n3_
      have HO375:=n4_
      have HO381:=n5_
      have BK349:=n6_
      have BK350:=n7_
      have BK365:=n8_
      have BK371:=n9_
      have HB:=n10_
      clear n0_ n1_ n2_ n3_ n4_ n5_ n6_ n7_ n8_ n9_ n10_
      (try clear hb)
      (try clear hb2)
      (try clear hk)
      (try clear hi)
      (try clear ho0)
      obtain ⟨Ao68,co68,eo68⟩:=Kd.R_slice HO381.out
      (first|subst eo68|(injection eo68 with f1_ f2_ f3_;have f4_:=f1_.symm;have f5_:=f3_.symm;clear f1_ f2_ f3_;subst f4_;subst f5_))
      refine hK.out _ _ ⟨(bC BK371.out 0).trans rfl,(bC BK371.out 1).trans rfl,(bC BK371.out 2).trans rfl,(bC BK350.out 0).trans rfl,(bC BK350.out 1).trans rfl,(bC BK350.out 2).trans rfl⟩ (fun hHeld=>?_)
      clear hK K
      refine norm_ (a':=?_) ?_ ?_
      rotate_left
      ·show Act.put _ (some 42) _ = _
       simp only [Act.put,lA,l0',lS,i64_w,i32_w]
       rfl
      refine one_ (i:=3) (N:=some 43) #[true,true,true,true,false] rfl rfl (by kernel_rfl) (by decide) (fun K hK=>?_)
      refine goes_ Try.func26 (by kernel_rfl) rfl #[.agg #[.int .i64 t366,.int .i64 t367,.slice Ao59 t368.length co59],.agg #[.int .i64 t377,.int .i64 t378,.slice Ao68 t379.length co68]] (by rfl) rfl rfl (by (try simp only [mA,mC,mN]);first|done|rfl) ?_
      with_reducible refine (laws_eqPlay.calls k t366 t367 _ _ t368 t377 t378 _ _ t379 true _ ?side1 ?side2 ?side3 ?side4 A30.out).mono ?_
      (case side1=>repeat (first|exact (Kd.R_reads' HO370.out).2.2|(with_reducible refine Kd.C_alloc ?_ _)|(with_reducible refine Kd.C_drewN ?_ _)|(with_reducible refine Kd.C_drew ?_)))
      (case side2=>exact (Kd.R_reads' HO370.out).2.1)
      (case side3=>repeat (first|exact (Kd.R_reads' HO381.out).2.2|(with_reducible refine Kd.C_alloc ?_ _)|(with_reducible refine Kd.C_drewN ?_ _)|(with_reducible refine Kd.C_drew ?_)))
      (case side4=>exact (Kd.R_reads' HO381.out).2.1)
      rintro e w69 ⟨rfl,hb⟩
      refine ⟨_,rfl,?_⟩
      have n0_:=aK (Kd.S_below (by (with_reducible repeat first|apply Kd.S_alloc|apply Kd.S_drewN|apply Kd.S_drew);exact HO355.out) hb)
      have n1_:=aK (Kd.R_below (by (with_reducible repeat first|apply Kd.R_alloc|apply Kd.R_drewN|apply Kd.R_drew);exact HO360.out) hb)
      have n2_:=aK (Kd.S_below (by (with_reducible repeat first|apply Kd.S_alloc|apply Kd.S_drewN|apply Kd.S_drew);exact HO364.out) hb)
      have n3_:=aK (Kd.R_below (by (with_reducible repeat first|apply Kd.R_alloc|apply Kd.R_drewN|apply Kd.R_drew);exact HO370.out) hb)
      have n4_:=aK (Kd.S_below (by (with_reducible repeat first|apply Kd.S_alloc|apply Kd.S_drewN|apply Kd.S_drew);exact HO375.out) hb)
      have n5_:=aK (Kd.R_below (by (with_reducible repeat first|apply Kd.R_alloc|apply Kd.R_drewN|apply Kd.R_drew);exact HO381.out) hb)
      have n6_:=aK (bB (by (with_reducible repeat first|apply bN|apply bD|apply bA);exact BK349.out) hb)
      have n7_:=aK (bB (by (with_reducible repeat first|apply bN|apply bD|apply bA);exact BK350.out) hb)
      have n8_:=aK (bB (by (with_reducible repeat first|apply bN|apply bD|apply bA);exact BK365.out) hb)
      have n9_:=aK (bB (by (with_reducible repeat first|apply bN|apply bD|apply bA);exact BK371.out) hb)
      have n10_:=aK (below_step (by repeat (first|(with_reducible first|exact HB.out|apply bL|apply bM|apply b1|refine bS ?_ GE349.out|refine bS ?_ GE350.out|refine bS ?_ GE365.out|refine bS ?_ GE371.out)|exact HB.out)) hb)
      clear HO355
      clear HO360
      clear HO364
      clear HO370
      clear HO375
      clear HO381
      clear BK349
      clear BK350
      clear BK365
      clear BK371
      clear HB
      have HO355:=n0_
      have HO360:=n1_
      have HO364:=n2_
      have HO370:=n3_
      have HO375:=n4_
      have HO381:=n5_
      have BK349:=n6_
      have BK350:=n7_
      have BK365:=n8_
      have BK371:=n9_
      have HB:=n10_
      clear n0_ n1_ n2_ n3_ n4_ n5_ n6_ n7_ n8_ n9_ n10_
      (try clear hb)
      (try clear hb2)
      (try clear hk)
      (try clear hi)
      refine hK.out _ _ ⟨(bC BK371.out 0).trans rfl,(bC BK371.out 1).trans rfl,(bC BK371.out 2).trans rfl,(bC BK350.out 0).trans rfl,(bC BK350.out 1).trans rfl,(bC BK350.out 2).trans rfl⟩ (fun hHeld=>?_)
      clear hK K
      refine norm_ (a':=?_) ?_ ?_
      rotate_left
      ·show Act.put _ (some 43) _ = _
       simp only [Act.put,lA,l0',lS,i64_w,i32_w]
       rfl
      refine pure_ (i:=4) (N:=some 44) (v:=?_) (a':=?_) #[true,true,true,true,true] rfl rfl (by kernel_rfl) (fun _ _ _ h=>h) (Or.inl ⟨by rfl,?_⟩) ?_ ?_
      rotate_left
      ·intro w'
       go_simp
       with_reducible rfl
      rotate_left
      ·simp only [Act.put,lA,l0',lS,i64_w,i32_w]
       rfl
      refine done_ (by kernel_rfl) ?_
      try go_wp2
      go_ret
      exact ⟨by first|rfl|(simp [errW_none,errW_some] <;> rfl)|(simp [*,errW_none,errW_some] <;> rfl),by repeat (first|(with_reducible first|exact HB.out|apply bL|apply bM|apply b1|refine bS ?_ GE349.out|refine bS ?_ GE350.out|refine bS ?_ GE365.out|refine bS ?_ GE371.out)|exact HB.out)⟩
     ·replace c31:=Bool.eq_false_iff.mpr c31
      subst c31
      have H1 : (some false) = some r:=by rw [if_neg (show ¬ (false = true) by decide)] at H;exact H
      clear H
      have H:=H1
      clear H1
      obtain rfl:=Option.some.inj H
      go_enter Try.func10,Try.ntmps10
      try go_wp2_with (first|((with_reducible refine gate_dst (N:=2) rfl ?_);refine box_event ?hg (N:=2) ?hd (cs:=#[.slice A0_0 l0_0.length c0_0]) (t:=41) ?hr ?_;(case hd=>rfl);(case hg=>rfl);(case hr=>first|(go_simp;done)|(go_simp;rfl));intro gb349 hg w70 hbox hb;have n0_:=aK (below_step (by repeat (first|(with_reducible first|exact HB.out|apply bL|apply bM|apply b1)|exact HB.out)) hb);have n1_:=aK (hbox);have n2_:=aK ((by rw [hg];exact (below_size (by repeat (first|(with_reducible first|exact HB.out|apply bL|apply bM|apply b1)|exact HB.out))) : w.heap.size ≤ gb349));have n3_:=aK ((by rw [hg];exact (below_size (by repeat (first|(with_reducible first|exact HB.out|apply bL|apply bM|apply b1)|exact HB.out))) : w.heap.size ≤ gb349));clear HB;have HB:=n0_;have BK349:=n1_;have GW349:=n2_;have GE349:=n3_;clear n0_ n1_ n2_ n3_;clear hb hbox hg)|((with_reducible refine gate_dst (N:=3) rfl ?_);refine box_event ?hg (N:=3) ?hd (cs:=#[.int .i64 a1_0,.int .i64 a1_1,.slice A1_2 l1_2.length c1_2]) (t:=24) ?hr ?_;(case hd=>rfl);(case hg=>rfl);(case hr=>first|(go_simp;done)|(go_simp;rfl));intro gb350 hg w71 hbox hb;have n0_:=aK (bB (by (with_reducible repeat first|apply bN|apply bD|apply bA);exact BK349.out) hb);have n1_:=aK (below_step (by repeat (first|(with_reducible first|exact HB.out|apply bL|apply bM|apply b1|refine bS ?_ GE349.out)|exact HB.out)) hb);have n2_:=aK (hbox);have n3_:=aK ((by rw [hg];exact (below_size (by repeat (first|(with_reducible first|exact HB.out|apply bL|apply bM|apply b1|refine bS ?_ GE349.out)|exact HB.out))) : w.heap.size ≤ gb350));have n4_:=aK ((by rw [hg];exact (below_size (by repeat (first|(with_reducible first|exact HB.out|apply bL|apply bM|apply b1|refine bS ?_ GE349.out)|exact HB.out))) : w.heap.size ≤ gb350));have n5_:=aK ((by rw [hg];exact Nat.ne_of_lt (blk_lt (by (with_reducible repeat first|apply bN|apply bD|apply bA);exact BK349.out)) : gb349 ≠ gb350));have n6_:=aK ((by rw [hg];exact Nat.ne_of_gt (blk_lt (by (with_reducible repeat first|apply bN|apply bD|apply bA);exact BK349.out)) : gb350 ≠ gb349));clear BK349;clear HB;have BK349:=n0_;have HB:=n1_;have BK350:=n2_;have GW350:=n3_;have GE350:=n4_;have NB349_350:=n5_;have NB350_349:=n6_;clear n0_ n1_ n2_ n3_ n4_ n5_ n6_;clear hb hbox hg;have hnb72:=NB349_350.out;have hnc72:=NB350_349.out;have hcz73_0 : w71.cell? ⟨gb349,0,none⟩ = some (.slice A0_0 l0_0.length c0_0):=(bC BK349.out 0).trans rfl;have hfz73_0:=blk_frozen BK349.out 0)|((with_reducible refine gate_callee (f:=40) rfl ?_);refine goesL_ (some 12) rfl rfl Try.func40 (by kernel_rfl) rfl #[.agg #[.slice A0_0 l0_0.length c0_0],.int .i64 1048576] rfl (by (try simp only [mA,mC,mN]);first|done|rfl) ?_;(with_reducible refine (laws_szDeal.calls k _ _ l0_0 1048576 t351 _ ?side1 ?side2 A3.out).mono ?_);(case side1=>repeat (first|exact (Kd.C_below HR0_0.out HB.out)|(with_reducible refine Kd.C_alloc ?_ _)|(with_reducible refine Kd.C_drewN ?_ _)|(with_reducible refine Kd.C_drew ?_)));(case side2=>exact HC0_0.out);rintro e w74 ⟨rfl,hb⟩;refine ⟨_,rfl,?_⟩;have n0_:=aK (bB (by (with_reducible repeat first|apply bN|apply bD|apply bA);exact BK349.out) hb);have n1_:=aK (bB (by (with_reducible repeat first|apply bN|apply bD|apply bA);exact BK350.out) hb);have n2_:=aK (below_step (by repeat (first|(with_reducible first|exact HB.out|apply bL|apply bM|apply b1|refine bS ?_ GE349.out|refine bS ?_ GE350.out)|exact HB.out)) hb);clear BK349;clear BK350;clear HB;have BK349:=n0_;have BK350:=n1_;have HB:=n2_;clear n0_ n1_ n2_;(try clear hb);(try clear hb2);(try clear hk);(try clear hi);have hcz75_0 : w74.cell? ⟨gb350,0,none⟩ = some (.int .i64 a1_0):=(bC BK350.out 0).trans rfl;have hcz75_1 : w74.cell? ⟨gb350,1,none⟩ = some (.int .i64 a1_1):=(bC BK350.out 1).trans rfl;have hcz75_2 : w74.cell? ⟨gb350,2,none⟩ = some (.slice A1_2 l1_2.length c1_2):=(bC BK350.out 2).trans rfl;have hfz75_0:=blk_frozen BK350.out 0;have hfz75_1:=blk_frozen BK350.out 1;have hfz75_2:=blk_frozen BK350.out 2)|((with_reducible refine gate_callee (f:=22) rfl ?_);refine goesL_ (some 17) rfl rfl Try.func22 (by kernel_rfl) rfl #[.agg #[.int .i64 a1_0,.int .i64 a1_1,.slice A1_2 l1_2.length c1_2],.int .i64 t351] rfl (by (try simp only [mA,mC,mN]);first|done|rfl) ?_;(with_reducible refine (laws_szPlay.calls a1_0 a1_1 _ _ l1_2 t351 t352 _ ?side1 ?side2 A10.out).mono ?_);(case side1=>repeat (first|exact (Kd.C_below HR1_2.out HB.out)|(with_reducible refine Kd.C_alloc ?_ _)|(with_reducible refine Kd.C_drewN ?_ _)|(with_reducible refine Kd.C_drew ?_)));(case side2=>exact HC1_2.out);rintro e w76 ⟨rfl,hb⟩;refine ⟨_,rfl,?_⟩;have n0_:=aK (bB (by (with_reducible repeat first|apply bN|apply bD|apply bA);exact BK349.out) hb);have n1_:=aK (bB (by (with_reducible repeat first|apply bN|apply bD|apply bA);exact BK350.out) hb);have n2_:=aK (below_step (by repeat (first|(with_reducible first|exact HB.out|apply bL|apply bM|apply b1|refine bS ?_ GE349.out|refine bS ?_ GE350.out)|exact HB.out)) hb);clear BK349;clear BK350;clear HB;have BK349:=n0_;have BK350:=n1_;have HB:=n2_;clear n0_ n1_ n2_;(try clear hb);(try clear hb2);(try clear hk);(try clear hi)))
      have n0_:=aK (bD BK349.out)
      have n1_:=aK (bD BK350.out)
      have n2_:=aK (b1 HB.out)
      clear BK349
      clear BK350
      clear HB
      have BK349:=n0_
      have BK350:=n1_
      have HB:=n2_
      clear n0_ n1_ n2_
      refine start_ (n:=6) (S:=fun w'=>w'.cell? ⟨gb349,0,none⟩ = some (.slice A0_0 l0_0.length c0_0) ∧ w'.cell? ⟨gb350,0,none⟩ = some (.int .i64 a1_0) ∧ w'.cell? ⟨gb350,1,none⟩ = some (.int .i64 a1_1) ∧ w'.cell? ⟨gb350,2,none⟩ = some (.slice A1_2 l1_2.length c1_2)) (ds:=[]) #[false,false,false,false,false,false] (by kernel_rfl) rfl rfl ⟨(bC BK349.out 0).trans rfl,(bC BK350.out 0).trans rfl,(bC BK350.out 1).trans rfl,(bC BK350.out 2).trans rfl⟩ (fun hHeld=>?_)
      generalize w76.drew = w77 at BK349 BK350 HB hHeld ⊢
      refine take_ (i:=0) (N:=some 20) (v:=?_) (a':=?_) #[true,false,false,false,false,false] rfl rfl (by kernel_rfl) (fun _ _ _ h=>h) (Or.inl ⟨by rfl,?_⟩) hHeld ?_ ?_
      rotate_left
      ·rintro w' ⟨s0,s1,s2,s3⟩
       go_simp
       with_reducible rfl
      rotate_left
      ·simp only [Act.put,lA,l0',lS,i64_w,i32_w]
       rfl
      refine take_ (i:=2) (N:=some 22) (v:=?_) (a':=?_) #[true,false,true,false,false,false] rfl rfl (by kernel_rfl) (fun _ _ _ h=>h) (Or.inl ⟨by rfl,?_⟩) hHeld ?_ ?_
      rotate_left
      ·rintro w' ⟨s0,s1,s2,s3⟩
       go_simp
       with_reducible rfl
      rotate_left
      ·simp only [Act.put,lA,l0',lS,i64_w,i32_w]
       rfl
      refine one_ (i:=1) (N:=some 21) #[true,true,true,false,false,false] rfl rfl (by kernel_rfl) (by decide) (fun K hK=>?_)
      refine goes_ Try.func42 (by kernel_rfl) rfl #[.agg #[.slice A0_0 l0_0.length c0_0]] (by rfl) rfl rfl (by (try simp only [mA,mC,mN]);first|done|rfl) ?_
      with_reducible refine (laws_toDeal.calls k _ _ l0_0 t353 _ ?side1 ?side2 A19.out).mono ?_
      (case side1=>repeat (first|exact (Kd.C_below HR0_0.out HB.out)|(with_reducible refine Kd.C_alloc ?_ _)|(with_reducible refine Kd.C_drewN ?_ _)|(with_reducible refine Kd.C_drew ?_)))
      (case side2=>exact HC0_0.out)
      rintro e w78 ⟨v354,rfl,ho0,hb⟩
      refine ⟨_,rfl,?_⟩
      have n0_:=aK (Kd.S_lower ho0 (below_size (by repeat (first|(with_reducible first|exact HB.out|apply bL|apply bM|apply b1|refine bS ?_ GE349.out|refine bS ?_ GE350.out)|exact HB.out))))
      have n1_:=aK (bB (by (with_reducible repeat first|apply bN|apply bD|apply bA);exact BK349.out) hb)
      have n2_:=aK (bB (by (with_reducible repeat first|apply bN|apply bD|apply bA);exact BK350.out) hb)
      have n3_:=aK (below_step (by repeat (first|(with_reducible first|exact HB.out|apply bL|apply bM|apply b1|refine bS ?_ GE349.out|refine bS ?_ GE350.out)|exact HB.out)) hb)
      clear BK349
      clear BK350
      clear HB
      have HO355:=n0_
      have BK349:=n1_
      have BK350:=n2_
      have HB:=n3_
      clear n0_ n1_ n2_ n3_
      (try clear hb)
      (try clear hb2)
      (try clear hk)
      (try clear hi)
      (try clear ho0)
      refine hK.out _ _ ⟨(bC BK349.out 0).trans rfl,(bC BK350.out 0).trans rfl,(bC BK350.out 1).trans rfl,(bC BK350.out 2).trans rfl⟩ (fun hHeld=>?_)
      clear hK K
      refine norm_ (a':=?_) ?_ ?_
      rotate_left
      ·show Act.put _ (some 21) _ = _
       simp only [Act.put,lA,l0',lS,i64_w,i32_w]
       rfl
      refine one_ (i:=3) (N:=some 23) #[true,true,true,true,false,false] rfl rfl (by kernel_rfl) (by decide) (fun K hK=>?_)
      refine goes_ Try.func24 (by kernel_rfl) rfl #[.agg #[.int .i64 a1_0,.int .i64 a1_1,.slice A1_2 l1_2.length c1_2]] (by rfl) rfl rfl (by (try simp only [mA,mC,mN]);first|done|rfl) ?_
      with_reducible refine (laws_toPlay.calls k a1_0 a1_1 _ _ l1_2 t356 t357 t358 _ ?side1 ?side2 A20.out).mono ?_
      (case side1=>repeat (first|exact (Kd.C_below HR1_2.out HB.out)|(with_reducible refine Kd.C_alloc ?_ _)|(with_reducible refine Kd.C_drewN ?_ _)|(with_reducible refine Kd.C_drew ?_)))
      (case side2=>exact HC1_2.out)
      rintro e w79 ⟨v359,rfl,ho0,hb⟩
      refine ⟨_,rfl,?_⟩
      have n0_:=aK (Kd.S_elder' (by (with_reducible repeat first|apply Kd.S_alloc|apply Kd.S_drewN|apply Kd.S_drew);exact HO355.out) (Kd.R_base ho0) hb)
      have n1_:=aK (Kd.R_lower ho0 (below_size (by repeat (first|(with_reducible first|exact HB.out|apply bL|apply bM|apply b1|refine bS ?_ GE349.out|refine bS ?_ GE350.out)|exact HB.out))))
      have n2_:=aK (bB (by (with_reducible repeat first|apply bN|apply bD|apply bA);exact BK349.out) hb)
      have n3_:=aK (bB (by (with_reducible repeat first|apply bN|apply bD|apply bA);exact BK350.out) hb)
      have n4_:=aK (below_step (by repeat (first|(with_reducible first|exact HB.out|apply bL|apply bM|apply b1|refine bS ?_ GE349.out|refine bS ?_ GE350.out)|exact HB.out)) hb)
      clear HO355
      clear BK349
      clear BK350
      clear HB
      have HO355:=n0_
      have HO360:=n1_
      have BK349:=n2_
      have BK350:=n3_
      have HB:=n4_
      clear n0_ n1_ n2_ n3_ n4_
      (try clear hb)
      (try clear hb2)
      (try clear hk)
      (try clear hi)
      (try clear ho0)
      obtain ⟨Ao80,co80,eo80⟩:=Kd.S_slice HO355.out
      (first|subst eo80|(injection eo80 with f1_ f2_ f3_;have f4_:=f1_.symm;have f5_:=f3_.symm;clear f1_ f2_ f3_;subst f4_;subst f5_))
      obtain ⟨Ao81,co81,eo81⟩:=Kd.R_slice HO360.out
      (first|subst eo81|(injection eo81 with f1_ f2_ f3_;have f4_:=f1_.symm;have f5_:=f3_.symm;clear f1_ f2_ f3_;subst f4_;subst f5_))
      refine hK.out _ _ ⟨(bC BK349.out 0).trans rfl,(bC BK350.out 0).trans rfl,(bC BK350.out 1).trans rfl,(bC BK350.out 2).trans rfl⟩ (fun hHeld=>?_)
      clear hK K
      refine norm_ (a':=?_) ?_ ?_
      rotate_left
      ·show Act.put _ (some 23) _ = _
       simp only [Act.put,lA,l0',lS,i64_w,i32_w]
       rfl
      refine one_ (i:=4) (N:=some 24) #[true,true,true,true,true,false] rfl rfl (by kernel_rfl) (by decide) (fun K hK=>?_)
      refine goes_ Try.func47 (by kernel_rfl) rfl #[.agg #[.slice Ao80 t353.length co80],.agg #[.int .i64 t356,.int .i64 t357,.slice Ao81 t358.length co81]] (by rfl) rfl rfl (by (try simp only [mA,mC,mN]);first|done|rfl) ?_
      with_reducible refine (spec_TurnOf.calls k _ _ t353 t356 t357 _ _ t358 t361 _ ?side1 ?side2 ?side3 ?side4 A21.out).mono ?_
      (case side1=>repeat (first|exact (Kd.S_reads' HO355.out).2.2|(with_reducible refine Kd.C_alloc ?_ _)|(with_reducible refine Kd.C_drewN ?_ _)|(with_reducible refine Kd.C_drew ?_)))
      (case side2=>exact (Kd.S_reads' HO355.out).2.1)
      (case side3=>repeat (first|exact (Kd.R_reads' HO360.out).2.2|(with_reducible refine Kd.C_alloc ?_ _)|(with_reducible refine Kd.C_drewN ?_ _)|(with_reducible refine Kd.C_drew ?_)))
      (case side4=>exact (Kd.R_reads' HO360.out).2.1)
      rintro e w82 ⟨rfl,hb⟩
      refine ⟨_,rfl,?_⟩
      have n0_:=aK (Kd.S_below (by (with_reducible repeat first|apply Kd.S_alloc|apply Kd.S_drewN|apply Kd.S_drew);exact HO355.out) hb)
      have n1_:=aK (Kd.R_below (by (with_reducible repeat first|apply Kd.R_alloc|apply Kd.R_drewN|apply Kd.R_drew);exact HO360.out) hb)
      have n2_:=aK (bB (by (with_reducible repeat first|apply bN|apply bD|apply bA);exact BK349.out) hb)
      have n3_:=aK (bB (by (with_reducible repeat first|apply bN|apply bD|apply bA);exact BK350.out) hb)
      have n4_:=aK (below_step (by repeat (first|(with_reducible first|exact HB.out|apply bL|apply bM|apply b1|refine bS ?_ GE349.out|refine bS ?_ GE350.out)|exact HB.out)) hb)
      clear HO355
      clear HO360
      clear BK349
      clear BK350
      clear HB
      have HO355:=n0_
      have HO360:=n1_
      have BK349:=n2_
      have BK350:=n3_
      have HB:=n4_
      clear n0_ n1_ n2_ n3_ n4_
      (try clear hb)
      (try clear hb2)
      (try clear hk)
      (try clear hi)
      refine hK.out _ _ ⟨(bC BK349.out 0).trans rfl,(bC BK350.out 0).trans rfl,(bC BK350.out 1).trans rfl,(bC BK350.out 2).trans rfl⟩ (fun hHeld=>?_)
      clear hK K
      refine norm_ (a':=?_) ?_ ?_
      rotate_left
      ·show Act.put _ (some 24) _ = _
       simp only [Act.put,lA,l0',lS,i64_w,i32_w]
       rfl
      refine pure_ (i:=5) (N:=some 6) (v:=?_) (a':=?_) #[true,true,true,true,true,true] rfl rfl (by kernel_rfl) (fun _ _ _ h=>h) (Or.inl ⟨by rfl,?_⟩) ?_ ?_
      rotate_left
      ·intro w'
       go_simp
       with_reducible rfl
      rotate_left
      ·simp only [Act.put,lA,l0',lS,i64_w,i32_w]
       rfl
      refine done_ (by kernel_rfl) ?_
      have hcz83_0 : w82.cell? ⟨gb349,0,none⟩ = some (.slice A0_0 l0_0.length c0_0):=(bC BK349.out 0).trans rfl
      have hfz83_0:=blk_frozen BK349.out 0
      try go_wp2_with (first|((with_reducible refine gate_callee (f:=42) rfl ?_);refine goesL_ (some 26) rfl rfl Try.func42 (by kernel_rfl) rfl #[.agg #[.slice A0_0 l0_0.length c0_0]] rfl (by (try simp only [mA,mC,mN]);first|done|rfl) ?_;(with_reducible refine (laws_toDeal.calls k _ _ l0_0 t362 _ ?side1 ?side2 A22.out).mono ?_);(case side1=>repeat (first|exact (Kd.C_below HR0_0.out HB.out)|(with_reducible refine Kd.C_alloc ?_ _)|(with_reducible refine Kd.C_drewN ?_ _)|(with_reducible refine Kd.C_drew ?_)));(case side2=>exact HC0_0.out);rintro e w84 ⟨v363,rfl,ho0,hb⟩;refine ⟨_,rfl,?_⟩;have n0_:=aK (Kd.S_elder' (by (with_reducible repeat first|apply Kd.S_alloc|apply Kd.S_drewN|apply Kd.S_drew);exact HO355.out) (Kd.S_base ho0) hb);have n1_:=aK (Kd.R_below (by (with_reducible repeat first|apply Kd.R_alloc|apply Kd.R_drewN|apply Kd.R_drew);exact HO360.out) hb);have n2_:=aK (Kd.S_lower (Kd.S_new' (Kd.S_new' ho0 (Kd.S_lt (by (with_reducible repeat first|apply Kd.S_alloc|apply Kd.S_drewN|apply Kd.S_drew);exact HO355.out))) (Kd.R_lt (by (with_reducible repeat first|apply Kd.R_alloc|apply Kd.R_drewN|apply Kd.R_drew);exact HO360.out))) (below_size (by repeat (first|(with_reducible first|exact HB.out|apply bL|apply bM|apply b1|refine bS ?_ GE349.out|refine bS ?_ GE350.out)|exact HB.out))));have n3_:=aK (bB (by (with_reducible repeat first|apply bN|apply bD|apply bA);exact BK349.out) hb);have n4_:=aK (bB (by (with_reducible repeat first|apply bN|apply bD|apply bA);exact BK350.out) hb);have n5_:=aK (below_step (by repeat (first|(with_reducible first|exact HB.out|apply bL|apply bM|apply b1|refine bS ?_ GE349.out|refine bS ?_ GE350.out)|exact HB.out)) hb);clear HO355;clear HO360;clear BK349;clear BK350;clear HB;have HO355:=n0_;have HO360:=n1_;have HO364:=n2_;have BK349:=n3_;have BK350:=n4_;have HB:=n5_;clear n0_ n1_ n2_ n3_ n4_ n5_;(try clear hb);(try clear hb2);(try clear hk);(try clear hi);(try clear ho0))|((with_reducible refine gate_dst (N:=7) rfl ?_);refine box_event ?hg (N:=7) ?hd (cs:=#[.slice none 0 0]) (t:=44) ?hr ?_;(case hd=>rfl);(case hg=>rfl);(case hr=>first|(go_simp;done)|(go_simp;rfl));intro gb365 hg w85 hbox hb;have n0_:=aK (Kd.S_below (by (with_reducible repeat first|apply Kd.S_alloc|apply Kd.S_drewN|apply Kd.S_drew);exact HO355.out) hb);have n1_:=aK (Kd.R_below (by (with_reducible repeat first|apply Kd.R_alloc|apply Kd.R_drewN|apply Kd.R_drew);exact HO360.out) hb);have n2_:=aK (Kd.S_below (by (with_reducible repeat first|apply Kd.S_alloc|apply Kd.S_drewN|apply Kd.S_drew);exact HO364.out) hb);have n3_:=aK (bB (by (with_reducible repeat first|apply bN|apply bD|apply bA);exact BK349.out) hb);have n4_:=aK (bB (by (with_reducible repeat first|apply bN|apply bD|apply bA);exact BK350.out) hb);have n5_:=aK (below_step (by repeat (first|(with_reducible first|exact HB.out|apply bL|apply bM|apply b1|refine bS ?_ GE349.out|refine bS ?_ GE350.out)|exact HB.out)) hb);have n6_:=aK (hbox);have n7_:=aK ((by rw [hg];exact (below_size (by repeat (first|(with_reducible first|exact HB.out|apply bL|apply bM|apply b1|refine bS ?_ GE349.out|refine bS ?_ GE350.out)|exact HB.out))) : w.heap.size ≤ gb365));have n8_:=aK ((by rw [hg];exact (below_size (by repeat (first|(with_reducible first|exact HB.out|apply bL|apply bM|apply b1|refine bS ?_ GE349.out|refine bS ?_ GE350.out)|exact HB.out))) : w.heap.size ≤ gb365));have n9_:=aK ((by rw [hg];exact Nat.ne_of_lt (blk_lt (by (with_reducible repeat first|apply bN|apply bD|apply bA);exact BK349.out)) : gb349 ≠ gb365));have n10_:=aK ((by rw [hg];exact Nat.ne_of_gt (blk_lt (by (with_reducible repeat first|apply bN|apply bD|apply bA);exact BK349.out)) : gb365 ≠ gb349));have n11_:=aK ((by rw [hg];exact Nat.ne_of_lt (blk_lt (by (with_reducible repeat first|apply bN|apply bD|apply bA);exact BK350.out)) : gb350 ≠ gb365));have n12_:=aK ((by rw [hg];exact Nat.ne_of_gt (blk_lt (by (with_reducible repeat first|apply bN|apply bD|apply bA);exact BK350.out)) : gb365 ≠ gb350));clear HO355;clear HO360;clear HO364;clear BK349;clear BK350;clear HB;have HO355:=n0_;have HO360:=n1_;have HO364:=n2_;have BK349:=n3_;have BK350:=n4_;have HB:=n5_;have BK365:=n6_;have GW365:=n7_;have GE365:=n8_;have NB349_365:=n9_;have NB365_349:=n10_;have NB350_365:=n11_;have NB365_350:=n12_;clear n0_ n1_ n2_ n3_ n4_ n5_ n6_ n7_ n8_ n9_ n10_ n11_ n12_;clear hb hbox hg;obtain ⟨Ao86,co86,eo86⟩:=Kd.S_slice HO364.out;subst eo86;have hnb87:=NB365_349.out;have hnc87:=NB349_365.out;have hnb88:=NB365_350.out;have hnc88:=NB350_365.out;have hcz89_0 : w85.cell? ⟨gb365,0,none⟩ = some (.slice none 0 0):=(bC BK365.out 0).trans rfl;have hfz89_0:=blk_frozen BK365.out 0;have hcz90_0 : w85.cell? ⟨gb350,0,none⟩ = some (.int .i64 a1_0):=(bC BK350.out 0).trans rfl;have hcz90_1 : w85.cell? ⟨gb350,1,none⟩ = some (.int .i64 a1_1):=(bC BK350.out 1).trans rfl;have hcz90_2 : w85.cell? ⟨gb350,2,none⟩ = some (.slice A1_2 l1_2.length c1_2):=(bC BK350.out 2).trans rfl;have hfz90_0:=blk_frozen BK350.out 0;have hfz90_1:=blk_frozen BK350.out 1;have hfz90_2:=blk_frozen BK350.out 2)|((with_reducible refine gate_callee (f:=24) rfl ?_);refine goesL_ (some 28) rfl rfl Try.func24 (by kernel_rfl) rfl #[.agg #[.int .i64 a1_0,.int .i64 a1_1,.slice A1_2 l1_2.length c1_2]] rfl (by (try simp only [mA,mC,mN]);first|done|rfl) ?_;(with_reducible refine (laws_toPlay.calls k a1_0 a1_1 _ _ l1_2 t366 t367 t368 _ ?side1 ?side2 A23.out).mono ?_);(case side1=>exact Kd.C_below HR1_2.out (by repeat (first|(with_reducible first|exact HB.out|apply bL|apply bM|apply b1|refine bS ?_ GE349.out|refine bS ?_ GE350.out|refine bS ?_ GE365.out)|exact HB.out)));(case side2=>exact HC1_2.out);rintro e w91 ⟨v369,rfl,ho0,hb⟩;refine ⟨_,rfl,?_⟩;have n0_:=aK (Kd.S_elder' (by (with_reducible repeat first|apply Kd.S_alloc|apply Kd.S_drewN|apply Kd.S_drew);exact (Kd.S_mono (Kd.S_far (p:=⟨gb365,0,none⟩) (Kd.S_types HO355.out BK365.out (by decide)) (fun _ hk=>by first|exact hk.2|(have h_:=hk;(try simp only [and_assoc,true_and] at h_);(repeat' apply And.intro) <;> with_reducible first|exact h_.1|exact h_.2.1|exact h_.2.2.1|exact h_.2.2.2.1|exact h_.2.2.2.2.1|exact h_.2.2.2.2.2.1|exact h_.2.2.2.2.2.2.1|exact h_.2.2.2.2.2.2.2.1|exact h_.2.2.2.2.2.2.2.2.1|exact h_.2|exact h_.2.2|exact h_.2.2.2|exact h_.2.2.2.2|exact h_.2.2.2.2.2|exact h_.2.2.2.2.2.2|exact h_.2.2.2.2.2.2.2|exact h_.2.2.2.2.2.2.2.2)) (.slice Ao86 t362.length co86)) (fun _ h_=>h_.1))) (Kd.R_base ho0) hb);have n1_:=aK (Kd.R_elder' (by (with_reducible repeat first|apply Kd.R_alloc|apply Kd.R_drewN|apply Kd.R_drew);exact (Kd.R_mono (Kd.R_far (p:=⟨gb365,0,none⟩) (Kd.R_types HO360.out BK365.out (by decide)) (fun _ hk=>by first|exact hk.2|(have h_:=hk;(try simp only [and_assoc,true_and] at h_);(repeat' apply And.intro) <;> with_reducible first|exact h_.1|exact h_.2.1|exact h_.2.2.1|exact h_.2.2.2.1|exact h_.2.2.2.2.1|exact h_.2.2.2.2.2.1|exact h_.2.2.2.2.2.2.1|exact h_.2.2.2.2.2.2.2.1|exact h_.2.2.2.2.2.2.2.2.1|exact h_.2|exact h_.2.2|exact h_.2.2.2|exact h_.2.2.2.2|exact h_.2.2.2.2.2|exact h_.2.2.2.2.2.2|exact h_.2.2.2.2.2.2.2|exact h_.2.2.2.2.2.2.2.2)) (.slice Ao86 t362.length co86)) (fun _ h_=>h_.1))) (Kd.R_base ho0) hb);have n2_:=aK (Kd.S_elder' (by (with_reducible repeat first|apply Kd.S_alloc|apply Kd.S_drewN|apply Kd.S_drew);exact (Kd.S_mono (Kd.S_far (p:=⟨gb365,0,none⟩) (Kd.S_types HO364.out BK365.out (by decide)) (fun _ hk=>by first|exact hk.2|(have h_:=hk;(try simp only [and_assoc,true_and] at h_);(repeat' apply And.intro) <;> with_reducible first|exact h_.1|exact h_.2.1|exact h_.2.2.1|exact h_.2.2.2.1|exact h_.2.2.2.2.1|exact h_.2.2.2.2.2.1|exact h_.2.2.2.2.2.2.1|exact h_.2.2.2.2.2.2.2.1|exact h_.2.2.2.2.2.2.2.2.1|exact h_.2|exact h_.2.2|exact h_.2.2.2|exact h_.2.2.2.2|exact h_.2.2.2.2.2|exact h_.2.2.2.2.2.2|exact h_.2.2.2.2.2.2.2|exact h_.2.2.2.2.2.2.2.2)) (.slice Ao86 t362.length co86)) (fun _ h_=>h_.1))) (Kd.R_base ho0) hb);have n3_:=aK (Kd.R_lower (Kd.R_new' ho0 (Kd.R_lt (by (with_reducible repeat first|apply Kd.R_alloc|apply Kd.R_drewN|apply Kd.R_drew);exact (Kd.R_mono (Kd.R_far (p:=⟨gb365,0,none⟩) (Kd.R_types HO360.out BK365.out (by decide)) (fun _ hk=>by first|exact hk.2|(have h_:=hk;(try simp only [and_assoc,true_and] at h_);(repeat' apply And.intro) <;> with_reducible first|exact h_.1|exact h_.2.1|exact h_.2.2.1|exact h_.2.2.2.1|exact h_.2.2.2.2.1|exact h_.2.2.2.2.2.1|exact h_.2.2.2.2.2.2.1|exact h_.2.2.2.2.2.2.2.1|exact h_.2.2.2.2.2.2.2.2.1|exact h_.2|exact h_.2.2|exact h_.2.2.2|exact h_.2.2.2.2|exact h_.2.2.2.2.2|exact h_.2.2.2.2.2.2|exact h_.2.2.2.2.2.2.2|exact h_.2.2.2.2.2.2.2.2)) (.slice Ao86 t362.length co86)) (fun _ h_=>h_.1))))) (below_size (by repeat (first|(with_reducible first|exact HB.out|apply bL|apply bM|apply b1|refine bS ?_ GE349.out|refine bS ?_ GE350.out|refine bS ?_ GE365.out)|exact HB.out))));have n4_:=aK (bB (g:=gb349) (o:=.cells #[.slice A0_0 l0_0.length c0_0] 41 (0,0)) (by (with_reducible repeat first|apply bN|apply bD|apply bA);refine blk_far ?_ NB349_365.out _;(with_reducible repeat first|apply bN|apply bD|apply bA);exact BK349.out) hb);have n5_:=aK (bB (g:=gb350) (o:=.cells #[.int .i64 a1_0,.int .i64 a1_1,.slice A1_2 l1_2.length c1_2] 24 (0,0)) (by (with_reducible repeat first|apply bN|apply bD|apply bA);refine blk_far ?_ NB350_365.out _;(with_reducible repeat first|apply bN|apply bD|apply bA);exact BK350.out) hb);have n6_:=aK (bB (g:=gb365) (o:=.cells #[.slice Ao86 t362.length co86] 44 (0,0)) (by (with_reducible repeat first|apply bN|apply bD|apply bA);refine blk_put (cs:=#[.slice none 0 0]) ?_ 0 _ rfl;(with_reducible repeat first|apply bN|apply bD|apply bA);exact BK365.out) hb);have n7_:=aK (below_step (by repeat (first|(with_reducible first|exact HB.out|apply bL|apply bM|apply b1|refine bS ?_ GE349.out|refine bS ?_ GE350.out|refine bS ?_ GE365.out)|exact HB.out)) hb);clear HO355;clear HO360;clear HO364;clear BK349;clear BK350;clear BK365;clear HB;have HO355:=n0_;have HO360:=n1_;have HO364:=n2_;have HO370:=n3_;have BK349:=n4_;have BK350:=n5_;have BK365:=n6_;have HB:=n7_;clear n0_ n1_ n2_ n3_ n4_ n5_ n6_ n7_;(try clear hb);(try clear hb2);(try clear hk);(try clear hi);(try clear ho0))|((with_reducible refine gate_dst (N:=8) rfl ?_);refine box_event ?hg (N:=8) ?hd (cs:=#[.int .i64 0,.int .i64 0,.slice none 0 0]) (t:=27) ?hr ?_;(case hd=>rfl);(case hg=>rfl);(case hr=>first|(go_simp;done)|(go_simp;rfl));intro gb371 hg w92 hbox hb;have n0_:=aK (Kd.S_below (by (with_reducible repeat first|apply Kd.S_alloc|apply Kd.S_drewN|apply Kd.S_drew);exact HO355.out) hb);have n1_:=aK (Kd.R_below (by (with_reducible repeat first|apply Kd.R_alloc|apply Kd.R_drewN|apply Kd.R_drew);exact HO360.out) hb);have n2_:=aK (Kd.S_below (by (with_reducible repeat first|apply Kd.S_alloc|apply Kd.S_drewN|apply Kd.S_drew);exact HO364.out) hb);have n3_:=aK (Kd.R_below (by (with_reducible repeat first|apply Kd.R_alloc|apply Kd.R_drewN|apply Kd.R_drew);exact HO370.out) hb);have n4_:=aK (bB (by (with_reducible repeat first|apply bN|apply bD|apply bA);exact BK349.out) hb);have n5_:=aK (bB (by (with_reducible repeat first|apply bN|apply bD|apply bA);exact BK350.out) hb);have n6_:=aK (bB (by (with_reducible repeat first|apply bN|apply bD|apply bA);exact BK365.out) hb);have n7_:=aK (below_step (by repeat (first|(with_reducible first|exact HB.out|apply bL|apply bM|apply b1|refine bS ?_ GE349.out|refine bS ?_ GE350.out|refine bS ?_ GE365.out)|exact HB.out)) hb);have n8_:=aK (hbox);have n9_:=aK ((by rw [hg];exact (below_size (by repeat (first|(with_reducible first|exact HB.out|apply bL|apply bM|apply b1|refine bS ?_ GE349.out|refine bS ?_ GE350.out|refine bS ?_ GE365.out)|exact HB.out))) : w.heap.size ≤ gb371));have n10_:=aK ((by rw [hg];exact (below_size (by repeat (first|(with_reducible first|exact HB.out|apply bL|apply bM|apply b1|refine bS ?_ GE349.out|refine bS ?_ GE350.out|refine bS ?_ GE365.out)|exact HB.out))) : w.heap.size ≤ gb371));have n11_:=aK ((by rw [hg];exact Nat.ne_of_lt (blk_lt (by (with_reducible repeat first|apply bN|apply bD|apply bA);exact BK349.out)) : gb349 ≠ gb371));have n12_:=aK ((by rw [hg];exact Nat.ne_of_gt (blk_lt (by (with_reducible repeat first|apply bN|apply bD|apply bA);exact BK349.out)) : gb371 ≠ gb349));have n13_:=aK ((by rw [hg];exact Nat.ne_of_lt (blk_lt (by (with_reducible repeat first|apply bN|apply bD|apply bA);exact BK350.out)) : gb350 ≠ gb371));have n14_:=aK ((by rw [hg];exact Nat.ne_of_gt (blk_lt (by (with_reducible repeat first|apply bN|apply bD|apply bA);exact BK350.out)) : gb371 ≠ gb350));have n15_:=aK ((by rw [hg];exact Nat.ne_of_lt (blk_lt (by (with_reducible repeat first|apply bN|apply bD|apply bA);exact BK365.out)) : gb365 ≠ gb371));have n16_:=aK ((by rw [hg];exact Nat.ne_of_gt (blk_lt (by (with_reducible repeat first|apply bN|apply bD|apply bA);exact BK365.out)) : gb371 ≠ gb365));clear HO355;clear HO360;clear HO364;clear HO370;clear BK349;clear BK350;clear BK365;clear HB;have HO355:=n0_;have HO360:=n1_;have HO364:=n2_;have HO370:=n3_;have BK349:=n4_;have BK350:=n5_;have BK365:=n6_;have HB:=n7_;have BK371:=n8_;have GW371:=n9_;have GE371:=n10_;have NB349_371:=n11_;have NB371_349:=n12_;have NB350_371:=n13_;have NB371_350:=n14_;have NB365_371:=n15_;have NB371_365:=n16_;clear n0_ n1_ n2_ n3_ n4_ n5_ n6_ n7_ n8_ n9_ n10_ n11_ n12_ n13_ n14_ n15_ n16_;clear hb hbox hg;have hnb93:=NB371_349.out;have hnc93:=NB349_371.out;have hnb94:=NB371_350.out;have hnc94:=NB350_371.out;have hnb95:=NB371_365.out;have hnc95:=NB365_371.out;have hcz96_0 : w92.cell? ⟨gb371,0,none⟩ = some (.int .i64 0):=(bC BK371.out 0).trans rfl;have hcz96_1 : w92.cell? ⟨gb371,1,none⟩ = some (.int .i64 0):=(bC BK371.out 1).trans rfl;have hcz96_2 : w92.cell? ⟨gb371,2,none⟩ = some (.slice none 0 0):=(bC BK371.out 2).trans rfl;have hfz96_0:=blk_frozen BK371.out 0;have hfz96_1:=blk_frozen BK371.out 1;have hfz96_2:=blk_frozen BK371.out 2;obtain ⟨Ao97,co97,eo97⟩:=Kd.R_slice HO370.out;subst eo97;have hcz98_0 : w92.cell? ⟨gb365,0,none⟩ = some (.slice Ao86 t362.length co86):=(bC BK365.out 0).trans rfl;have hfz98_0:=blk_frozen BK365.out 0)|((with_reducible refine gate_callee (f:=48) rfl ?_);refine goesL_ (some 31) rfl rfl Try.func48 (by kernel_rfl) rfl #[.agg #[.slice Ao86 t362.length co86],.agg #[.int .i64 t366,.int .i64 t367,.slice Ao97 t368.length co97]] rfl (by (try simp only [mA,mC,mN]);first|done|rfl) ?_;(with_reducible refine (impl_TurnOf.calls k _ _ t362 t366 t367 _ _ t368 t372 _ ?side1 ?side2 ?side3 ?side4 A24.out).mono ?_);(case side1=>refine (Kd.S_reads' (e:=22) (base:=w.heap.size) (ok:=fun k_=>(((True ∧ some k_ ≠ (.slice Ao80 t353.length co80 : Value).ownBlock) ∧ some k_ ≠ (.slice Ao81 t358.length co81 : Value).ownBlock) ∧ some k_ ≠ (.slice Ao97 t368.length co97 : Value).ownBlock)) (n:=t362.length) (c:=co86) ?_).2.2;exact (by (with_reducible repeat first|apply Kd.S_alloc|apply Kd.S_drewN|apply Kd.S_drew);exact (Kd.S_mono (Kd.S_far (p:=⟨gb371,2,none⟩) (Kd.S_far (p:=⟨gb371,1,none⟩) (Kd.S_far (p:=⟨gb371,0,none⟩) (Kd.S_types HO364.out BK371.out (by decide)) (fun _ hk=>by first|exact hk.2|(have h_:=hk;(try simp only [and_assoc,true_and] at h_);(repeat' apply And.intro) <;> with_reducible first|exact h_.1|exact h_.2.1|exact h_.2.2.1|exact h_.2.2.2.1|exact h_.2.2.2.2.1|exact h_.2.2.2.2.2.1|exact h_.2.2.2.2.2.2.1|exact h_.2.2.2.2.2.2.2.1|exact h_.2.2.2.2.2.2.2.2.1|exact h_.2|exact h_.2.2|exact h_.2.2.2|exact h_.2.2.2.2|exact h_.2.2.2.2.2|exact h_.2.2.2.2.2.2|exact h_.2.2.2.2.2.2.2|exact h_.2.2.2.2.2.2.2.2)) (.int .i64 t366)) (fun _ hk=>by first|exact hk.2|(have h_:=hk;(try simp only [and_assoc,true_and] at h_);(repeat' apply And.intro) <;> with_reducible first|exact h_.1|exact h_.2.1|exact h_.2.2.1|exact h_.2.2.2.1|exact h_.2.2.2.2.1|exact h_.2.2.2.2.2.1|exact h_.2.2.2.2.2.2.1|exact h_.2.2.2.2.2.2.2.1|exact h_.2.2.2.2.2.2.2.2.1|exact h_.2|exact h_.2.2|exact h_.2.2.2|exact h_.2.2.2.2|exact h_.2.2.2.2.2|exact h_.2.2.2.2.2.2|exact h_.2.2.2.2.2.2.2|exact h_.2.2.2.2.2.2.2.2)) (.int .i64 t367)) (fun _ hk=>by first|exact hk.2|(have h_:=hk;(try simp only [and_assoc,true_and] at h_);(repeat' apply And.intro) <;> with_reducible first|exact h_.1|exact h_.2.1|exact h_.2.2.1|exact h_.2.2.2.1|exact h_.2.2.2.2.1|exact h_.2.2.2.2.2.1|exact h_.2.2.2.2.2.2.1|exact h_.2.2.2.2.2.2.2.1|exact h_.2.2.2.2.2.2.2.2.1|exact h_.2|exact h_.2.2|exact h_.2.2.2|exact h_.2.2.2.2|exact h_.2.2.2.2.2|exact h_.2.2.2.2.2.2|exact h_.2.2.2.2.2.2.2|exact h_.2.2.2.2.2.2.2.2)) (.slice Ao97 t368.length co97)) (fun _ h_=>h_.1))));(case side2=>exact (Kd.S_reads' HO364.out).2.1);(case side3=>refine (Kd.R_reads' (e:=2) (base:=w.heap.size) (ok:=fun k_=>(True ∧ some k_ ≠ (.slice Ao81 t358.length co81 : Value).ownBlock)) (n:=t368.length) (c:=co97) ?_).2.2;exact (by (with_reducible repeat first|apply Kd.R_alloc|apply Kd.R_drewN|apply Kd.R_drew);exact (Kd.R_mono (Kd.R_far (p:=⟨gb371,2,none⟩) (Kd.R_far (p:=⟨gb371,1,none⟩) (Kd.R_far (p:=⟨gb371,0,none⟩) (Kd.R_types HO370.out BK371.out (by decide)) (fun _ hk=>by first|exact hk.2|(have h_:=hk;(try simp only [and_assoc,true_and] at h_);(repeat' apply And.intro) <;> with_reducible first|exact h_.1|exact h_.2.1|exact h_.2.2.1|exact h_.2.2.2.1|exact h_.2.2.2.2.1|exact h_.2.2.2.2.2.1|exact h_.2.2.2.2.2.2.1|exact h_.2.2.2.2.2.2.2.1|exact h_.2.2.2.2.2.2.2.2.1|exact h_.2|exact h_.2.2|exact h_.2.2.2|exact h_.2.2.2.2|exact h_.2.2.2.2.2|exact h_.2.2.2.2.2.2|exact h_.2.2.2.2.2.2.2|exact h_.2.2.2.2.2.2.2.2)) (.int .i64 t366)) (fun _ hk=>by first|exact hk.2|(have h_:=hk;(try simp only [and_assoc,true_and] at h_);(repeat' apply And.intro) <;> with_reducible first|exact h_.1|exact h_.2.1|exact h_.2.2.1|exact h_.2.2.2.1|exact h_.2.2.2.2.1|exact h_.2.2.2.2.2.1|exact h_.2.2.2.2.2.2.1|exact h_.2.2.2.2.2.2.2.1|exact h_.2.2.2.2.2.2.2.2.1|exact h_.2|exact h_.2.2|exact h_.2.2.2|exact h_.2.2.2.2|exact h_.2.2.2.2.2|exact h_.2.2.2.2.2.2|exact h_.2.2.2.2.2.2.2|exact h_.2.2.2.2.2.2.2.2)) (.int .i64 t367)) (fun _ hk=>by first|exact hk.2|(have h_:=hk;(try simp only [and_assoc,true_and] at h_);(repeat' apply And.intro) <;> with_reducible first|exact h_.1|exact h_.2.1|exact h_.2.2.1|exact h_.2.2.2.1|exact h_.2.2.2.2.1|exact h_.2.2.2.2.2.1|exact h_.2.2.2.2.2.2.1|exact h_.2.2.2.2.2.2.2.1|exact h_.2.2.2.2.2.2.2.2.1|exact h_.2|exact h_.2.2|exact h_.2.2.2|exact h_.2.2.2.2|exact h_.2.2.2.2.2|exact h_.2.2.2.2.2.2|exact h_.2.2.2.2.2.2.2|exact h_.2.2.2.2.2.2.2.2)) (.slice Ao97 t368.length co97)) (fun _ h_=>h_.1))));(case side4=>exact (Kd.R_reads' HO370.out).2.1);rintro e w99 ⟨rfl,hb⟩;refine ⟨_,rfl,?_⟩;have n0_:=aK (Kd.S_below (by (with_reducible repeat first|apply Kd.S_alloc|apply Kd.S_drewN|apply Kd.S_drew);exact (Kd.S_mono (Kd.S_far (p:=⟨gb371,2,none⟩) (Kd.S_far (p:=⟨gb371,1,none⟩) (Kd.S_far (p:=⟨gb371,0,none⟩) (Kd.S_types HO355.out BK371.out (by decide)) (fun _ hk=>by first|exact hk.2|(have h_:=hk;(try simp only [and_assoc,true_and] at h_);(repeat' apply And.intro) <;> with_reducible first|exact h_.1|exact h_.2.1|exact h_.2.2.1|exact h_.2.2.2.1|exact h_.2.2.2.2.1|exact h_.2.2.2.2.2.1|exact h_.2.2.2.2.2.2.1|exact h_.2.2.2.2.2.2.2.1|exact h_.2.2.2.2.2.2.2.2.1|exact h_.2|exact h_.2.2|exact h_.2.2.2|exact h_.2.2.2.2|exact h_.2.2.2.2.2|exact h_.2.2.2.2.2.2|exact h_.2.2.2.2.2.2.2|exact h_.2.2.2.2.2.2.2.2)) (.int .i64 t366)) (fun _ hk=>by first|exact hk.2|(have h_:=hk;(try simp only [and_assoc,true_and] at h_);(repeat' apply And.intro) <;> with_reducible first|exact h_.1|exact h_.2.1|exact h_.2.2.1|exact h_.2.2.2.1|exact h_.2.2.2.2.1|exact h_.2.2.2.2.2.1|exact h_.2.2.2.2.2.2.1|exact h_.2.2.2.2.2.2.2.1|exact h_.2.2.2.2.2.2.2.2.1|exact h_.2|exact h_.2.2|exact h_.2.2.2|exact h_.2.2.2.2|exact h_.2.2.2.2.2|exact h_.2.2.2.2.2.2|exact h_.2.2.2.2.2.2.2|exact h_.2.2.2.2.2.2.2.2)) (.int .i64 t367)) (fun _ hk=>by first|exact hk.2|(have h_:=hk;(try simp only [and_assoc,true_and] at h_);(repeat' apply And.intro) <;> with_reducible first|exact h_.1|exact h_.2.1|exact h_.2.2.1|exact h_.2.2.2.1|exact h_.2.2.2.2.1|exact h_.2.2.2.2.2.1|exact h_.2.2.2.2.2.2.1|exact h_.2.2.2.2.2.2.2.1|exact h_.2.2.2.2.2.2.2.2.1|exact h_.2|exact h_.2.2|exact h_.2.2.2|exact h_.2.2.2.2|exact h_.2.2.2.2.2|exact h_.2.2.2.2.2.2|exact h_.2.2.2.2.2.2.2|exact h_.2.2.2.2.2.2.2.2)) (.slice Ao97 t368.length co97)) (fun _ h_=>h_.1))) hb);have n1_:=aK (Kd.R_below (by (with_reducible repeat first|apply Kd.R_alloc|apply Kd.R_drewN|apply Kd.R_drew);exact (Kd.R_mono (Kd.R_far (p:=⟨gb371,2,none⟩) (Kd.R_far (p:=⟨gb371,1,none⟩) (Kd.R_far (p:=⟨gb371,0,none⟩) (Kd.R_types HO360.out BK371.out (by decide)) (fun _ hk=>by first|exact hk.2|(have h_:=hk;(try simp only [and_assoc,true_and] at h_);(repeat' apply And.intro) <;> with_reducible first|exact h_.1|exact h_.2.1|exact h_.2.2.1|exact h_.2.2.2.1|exact h_.2.2.2.2.1|exact h_.2.2.2.2.2.1|exact h_.2.2.2.2.2.2.1|exact h_.2.2.2.2.2.2.2.1|exact h_.2.2.2.2.2.2.2.2.1|exact h_.2|exact h_.2.2|exact h_.2.2.2|exact h_.2.2.2.2|exact h_.2.2.2.2.2|exact h_.2.2.2.2.2.2|exact h_.2.2.2.2.2.2.2|exact h_.2.2.2.2.2.2.2.2)) (.int .i64 t366)) (fun _ hk=>by first|exact hk.2|(have h_:=hk;(try simp only [and_assoc,true_and] at h_);(repeat' apply And.intro) <;> with_reducible first|exact h_.1|exact h_.2.1|exact h_.2.2.1|exact h_.2.2.2.1|exact h_.2.2.2.2.1|exact h_.2.2.2.2.2.1|exact h_.2.2.2.2.2.2.1|exact h_.2.2.2.2.2.2.2.1|exact h_.2.2.2.2.2.2.2.2.1|exact h_.2|exact h_.2.2|exact h_.2.2.2|exact h_.2.2.2.2|exact h_.2.2.2.2.2|exact h_.2.2.2.2.2.2|exact h_.2.2.2.2.2.2.2|exact h_.2.2.2.2.2.2.2.2)) (.int .i64 t367)) (fun _ hk=>by first|exact hk.2|(have h_:=hk;(try simp only [and_assoc,true_and] at h_);(repeat' apply And.intro) <;> with_reducible first|exact h_.1|exact h_.2.1|exact h_.2.2.1|exact h_.2.2.2.1|exact h_.2.2.2.2.1|exact h_.2.2.2.2.2.1|exact h_.2.2.2.2.2.2.1|exact h_.2.2.2.2.2.2.2.1|exact h_.2.2.2.2.2.2.2.2.1|exact h_.2|exact h_.2.2|exact h_.2.2.2|exact h_.2.2.2.2|exact h_.2.2.2.2.2|exact h_.2.2.2.2.2.2|exact h_.2.2.2.2.2.2.2|exact h_.2.2.2.2.2.2.2.2)) (.slice Ao97 t368.length co97)) (fun _ h_=>h_.1))) hb);have n2_:=aK (Kd.S_below (by (with_reducible repeat first|apply Kd.S_alloc|apply Kd.S_drewN|apply Kd.S_drew);exact (Kd.S_mono (Kd.S_far (p:=⟨gb371,2,none⟩) (Kd.S_far (p:=⟨gb371,1,none⟩) (Kd.S_far (p:=⟨gb371,0,none⟩) (Kd.S_types HO364.out BK371.out (by decide)) (fun _ hk=>by first|exact hk.2|(have h_:=hk;(try simp only [and_assoc,true_and] at h_);(repeat' apply And.intro) <;> with_reducible first|exact h_.1|exact h_.2.1|exact h_.2.2.1|exact h_.2.2.2.1|exact h_.2.2.2.2.1|exact h_.2.2.2.2.2.1|exact h_.2.2.2.2.2.2.1|exact h_.2.2.2.2.2.2.2.1|exact h_.2.2.2.2.2.2.2.2.1|exact h_.2|exact h_.2.2|exact h_.2.2.2|exact h_.2.2.2.2|exact h_.2.2.2.2.2|exact h_.2.2.2.2.2.2|exact h_.2.2.2.2.2.2.2|exact h_.2.2.2.2.2.2.2.2)) (.int .i64 t366)) (fun _ hk=>by first|exact hk.2|(have h_:=hk;(try simp only [and_assoc,true_and] at h_);(repeat' apply And.intro) <;> with_reducible first|exact h_.1|exact h_.2.1|exact h_.2.2.1|exact h_.2.2.2.1|exact h_.2.2.2.2.1|exact h_.2.2.2.2.2.1|exact h_.2.2.2.2.2.2.1|exact h_.2.2.2.2.2.2.2.1|exact h_.2.2.2.2.2.2.2.2.1|exact h_.2|exact h_.2.2|exact h_.2.2.2|exact h_.2.2.2.2|exact h_.2.2.2.2.2|exact h_.2.2.2.2.2.2|exact h_.2.2.2.2.2.2.2|exact h_.2.2.2.2.2.2.2.2)) (.int .i64 t367)) (fun _ hk=>by first|exact hk.2|(have h_:=hk;(try simp only [and_assoc,true_and] at h_);(repeat' apply And.intro) <;> with_reducible first|exact h_.1|exact h_.2.1|exact h_.2.2.1|exact h_.2.2.2.1|exact h_.2.2.2.2.1|exact h_.2.2.2.2.2.1|exact h_.2.2.2.2.2.2.1|exact h_.2.2.2.2.2.2.2.1|exact h_.2.2.2.2.2.2.2.2.1|exact h_.2|exact h_.2.2|exact h_.2.2.2|exact h_.2.2.2.2|exact h_.2.2.2.2.2|exact h_.2.2.2.2.2.2|exact h_.2.2.2.2.2.2.2|exact h_.2.2.2.2.2.2.2.2)) (.slice Ao97 t368.length co97)) (fun _ h_=>h_.1))) hb);have n3_:=aK (Kd.R_below (by (with_reducible repeat first|apply Kd.R_alloc|apply Kd.R_drewN|apply Kd.R_drew);exact (Kd.R_mono (Kd.R_far (p:=⟨gb371,2,none⟩) (Kd.R_far (p:=⟨gb371,1,none⟩) (Kd.R_far (p:=⟨gb371,0,none⟩) (Kd.R_types HO370.out BK371.out (by decide)) (fun _ hk=>by first|exact hk.2|(have h_:=hk;(try simp only [and_assoc,true_and] at h_);(repeat' apply And.intro) <;> with_reducible first|exact h_.1|exact h_.2.1|exact h_.2.2.1|exact h_.2.2.2.1|exact h_.2.2.2.2.1|exact h_.2.2.2.2.2.1|exact h_.2.2.2.2.2.2.1|exact h_.2.2.2.2.2.2.2.1|exact h_.2.2.2.2.2.2.2.2.1|exact h_.2|exact h_.2.2|exact h_.2.2.2|exact h_.2.2.2.2|exact h_.2.2.2.2.2|exact h_.2.2.2.2.2.2|exact h_.2.2.2.2.2.2.2|exact h_.2.2.2.2.2.2.2.2)) (.int .i64 t366)) (fun _ hk=>by first|exact hk.2|(have h_:=hk;(try simp only [and_assoc,true_and] at h_);(repeat' apply And.intro) <;> with_reducible first|exact h_.1|exact h_.2.1|exact h_.2.2.1|exact h_.2.2.2.1|exact h_.2.2.2.2.1|exact h_.2.2.2.2.2.1|exact h_.2.2.2.2.2.2.1|exact h_.2.2.2.2.2.2.2.1|exact h_.2.2.2.2.2.2.2.2.1|exact h_.2|exact h_.2.2|exact h_.2.2.2|exact h_.2.2.2.2|exact h_.2.2.2.2.2|exact h_.2.2.2.2.2.2|exact h_.2.2.2.2.2.2.2|exact h_.2.2.2.2.2.2.2.2)) (.int .i64 t367)) (fun _ hk=>by first|exact hk.2|(have h_:=hk;(try simp only [and_assoc,true_and] at h_);(repeat' apply And.intro) <;> with_reducible first|exact h_.1|exact h_.2.1|exact h_.2.2.1|exact h_.2.2.2.1|exact h_.2.2.2.2.1|exact h_.2.2.2.2.2.1|exact h_.2.2.2.2.2.2.1|exact h_.2.2.2.2.2.2.2.1|exact h_.2.2.2.2.2.2.2.2.1|exact h_.2|exact h_.2.2|exact h_.2.2.2|exact h_.2.2.2.2|exact h_.2.2.2.2.2|exact h_.2.2.2.2.2.2|exact h_.2.2.2.2.2.2.2|exact h_.2.2.2.2.2.2.2.2)) (.slice Ao97 t368.length co97)) (fun _ h_=>h_.1))) hb);have n4_:=aK (bB (g:=gb349) (o:=.cells #[.slice A0_0 l0_0.length c0_0] 41 (0,0)) (by (with_reducible repeat first|apply bN|apply bD|apply bA);refine blk_far ?_ NB349_371.out _;(with_reducible repeat first|apply bN|apply bD|apply bA);refine blk_far ?_ NB349_371.out _;(with_reducible repeat first|apply bN|apply bD|apply bA);refine blk_far ?_ NB349_371.out _;(with_reducible repeat first|apply bN|apply bD|apply bA);exact BK349.out) hb);have n5_:=aK (bB (g:=gb350) (o:=.cells #[.int .i64 a1_0,.int .i64 a1_1,.slice A1_2 l1_2.length c1_2] 24 (0,0)) (by (with_reducible repeat first|apply bN|apply bD|apply bA);refine blk_far ?_ NB350_371.out _;(with_reducible repeat first|apply bN|apply bD|apply bA);refine blk_far ?_ NB350_371.out _;(with_reducible repeat first|apply bN|apply bD|apply bA);refine blk_far ?_ NB350_371.out _;(with_reducible repeat first|apply bN|apply bD|apply bA);exact BK350.out) hb);have n6_:=aK (bB (g:=gb365) (o:=.cells #[.slice Ao86 t362.length co86] 44 (0,0)) (by (with_reducible repeat first|apply bN|apply bD|apply bA);refine blk_far ?_ NB365_371.out _;(with_reducible repeat first|apply bN|apply bD|apply bA);refine blk_far ?_ NB365_371.out _;(with_reducible repeat first|apply bN|apply bD|apply bA);refine blk_far ?_ NB365_371.out _;(with_reducible repeat first|apply bN|apply bD|apply bA);exact BK365.out) hb);have n7_:=aK (bB (g:=gb371) (o:=.cells #[.int .i64 t366,.int .i64 t367,.slice Ao97 t368.length co97] 27 (0,0)) (by (with_reducible repeat first|apply bN|apply bD|apply bA);refine blk_put (cs:=#[.int .i64 t366,.int .i64 t367,.slice none 0 0]) ?_ 2 _ rfl;(with_reducible repeat first|apply bN|apply bD|apply bA);refine blk_put (cs:=#[.int .i64 t366,.int .i64 0,.slice none 0 0]) ?_ 1 _ rfl;(with_reducible repeat first|apply bN|apply bD|apply bA);refine blk_put (cs:=#[.int .i64 0,.int .i64 0,.slice none 0 0]) ?_ 0 _ rfl;(with_reducible repeat first|apply bN|apply bD|apply bA);exact BK371.out) hb);have n8_:=aK (below_step (by repeat (first|(with_reducible first|exact HB.out|apply bL|apply bM|apply b1|refine bS ?_ GE349.out|refine bS ?_ GE350.out|refine bS ?_ GE365.out|refine bS ?_ GE371.out)|exact HB.out)) hb);clear HO355;clear HO360;clear HO364;clear HO370;clear BK349;clear BK350;clear BK365;clear BK371;clear HB;have HO355:=n0_;have HO360:=n1_;have HO364:=n2_;have HO370:=n3_;have BK349:=n4_;have BK350:=n5_;have BK365:=n6_;have BK371:=n7_;have HB:=n8_;clear n0_ n1_ n2_ n3_ n4_ n5_ n6_ n7_ n8_;(try clear hb);(try clear hb2);(try clear hk);(try clear hi)))
      have n0_:=aK (Kd.S_drew HO355.out)
      have n1_:=aK (Kd.R_drew HO360.out)
      have n2_:=aK (Kd.S_drew HO364.out)
      have n3_:=aK (Kd.R_drew HO370.out)
      have n4_:=aK (bD BK349.out)
      have n5_:=aK (bD BK350.out)
      have n6_:=aK (bD BK365.out)
      have n7_:=aK (bD BK371.out)
      have n8_:=aK (b1 HB.out)
      clear HO355
      clear HO360
      clear HO364
      clear HO370
      clear BK349
      clear BK350
      clear BK365
      clear BK371
      clear HB
      have HO355:=n0_
      have HO360:=n1_
      have HO364:=n2_
      have HO370:=n3_
      have BK349:=n4_
      have BK350:=n5_
      have BK365:=n6_
      have BK371:=n7_
      have HB:=n8_
      clear n0_ n1_ n2_ n3_ n4_ n5_ n6_ n7_ n8_
      refine start_ (n:=5) (S:=fun w'=>w'.cell? ⟨gb365,0,none⟩ = some (.slice Ao86 t362.length co86) ∧ w'.cell? ⟨gb349,0,none⟩ = some (.slice A0_0 l0_0.length c0_0)) (ds:=[]) #[false,false,false,false,false] (by kernel_rfl) rfl rfl ⟨(bC BK365.out 0).trans rfl,(bC BK349.out 0).trans rfl⟩ (fun hHeld=>?_)
      generalize w99.drew = w100 at HO355 HO360 HO364 HO370 BK349 BK350 BK365 BK371 HB hHeld ⊢
      refine take_ (i:=0) (N:=some 35) (v:=?_) (a':=?_) #[true,false,false,false,false] rfl rfl (by kernel_rfl) (fun _ _ _ h=>h) (Or.inl ⟨by rfl,?_⟩) hHeld ?_ ?_
      rotate_left
      ·rintro w' ⟨s0,s1⟩
       go_simp
       with_reducible rfl
      rotate_left
      ·simp only [Act.put,lA,l0',lS,i64_w,i32_w]
       rfl
      refine take_ (i:=1) (N:=some 36) (v:=?_) (a':=?_) #[true,true,false,false,false] rfl rfl (by kernel_rfl) (fun _ _ _ h=>h) (Or.inl ⟨by rfl,?_⟩) hHeld ?_ ?_
      rotate_left
      ·rintro w' ⟨s0,s1⟩
       go_simp
       with_reducible rfl
      rotate_left
      ·simp only [Act.put,lA,l0',lS,i64_w,i32_w]
       rfl
      refine one_ (i:=2) (N:=some 37) #[true,true,true,false,false] rfl rfl (by kernel_rfl) (by decide) (fun K hK=>?_)
      refine goes_ Try.func42 (by kernel_rfl) rfl #[.agg #[.slice A0_0 l0_0.length c0_0]] (by rfl) rfl rfl (by (try simp only [mA,mC,mN]);first|done|rfl) ?_
      with_reducible refine (laws_toDeal.calls k _ _ l0_0 t373 _ ?side1 ?side2 A26.out).mono ?_
      (case side1=>repeat (first|exact (Kd.C_below HR0_0.out HB.out)|(with_reducible refine Kd.C_alloc ?_ _)|(with_reducible refine Kd.C_drewN ?_ _)|(with_reducible refine Kd.C_drew ?_)))
      (case side2=>exact HC0_0.out)
      rintro e w101 ⟨v374,rfl,ho0,hb⟩
      refine ⟨_,rfl,?_⟩
      have n0_:=aK (Kd.S_elder' (by (with_reducible repeat first|apply Kd.S_alloc|apply Kd.S_drewN|apply Kd.S_drew);exact HO355.out) (Kd.S_base ho0) hb)
      have n1_:=aK (Kd.R_below (by (with_reducible repeat first|apply Kd.R_alloc|apply Kd.R_drewN|apply Kd.R_drew);exact HO360.out) hb)
      have n2_:=aK (Kd.S_elder' (by (with_reducible repeat first|apply Kd.S_alloc|apply Kd.S_drewN|apply Kd.S_drew);exact HO364.out) (Kd.S_base ho0) hb)
      have n3_:=aK (Kd.R_below (by (with_reducible repeat first|apply Kd.R_alloc|apply Kd.R_drewN|apply Kd.R_drew);exact HO370.out) hb)
      have n4_:=aK (Kd.S_lower (Kd.S_new' (Kd.S_new' (Kd.S_new' (Kd.S_new' ho0 (Kd.S_lt (by (with_reducible repeat first|apply Kd.S_alloc|apply Kd.S_drewN|apply Kd.S_drew);exact HO355.out))) (Kd.R_lt (by (with_reducible repeat first|apply Kd.R_alloc|apply Kd.R_drewN|apply Kd.R_drew);exact HO360.out))) (Kd.S_lt (by (with_reducible repeat first|apply Kd.S_alloc|apply Kd.S_drewN|apply Kd.S_drew);exact HO364.out))) (Kd.R_lt (by (with_reducible repeat first|apply Kd.R_alloc|apply Kd.R_drewN|apply Kd.R_drew);exact HO370.out))) (below_size (by repeat (first|(with_reducible first|exact HB.out|apply bL|apply bM|apply b1|refine bS ?_ GE349.out|refine bS ?_ GE350.out|refine bS ?_ GE365.out|refine bS ?_ GE371.out)|exact HB.out))))
      have n5_:=aK (bB (by (with_reducible repeat first|apply bN|apply bD|apply bA);exact BK349.out) hb)
      have n6_:=aK (bB (by (with_reducible repeat first|apply bN|apply bD|apply bA);exact BK350.out) hb)
      have n7_:=aK (bB (by (with_reducible repeat first|apply bN|apply bD|apply bA);exact BK365.out) hb)
      have n8_:=aK (bB (by (with_reducible repeat first|apply bN|apply bD|apply bA);exact BK371.out) hb)
      have n9_:=aK (below_step (by repeat (first|(with_reducible first|exact HB.out|apply bL|apply bM|apply b1|refine bS ?_ GE349.out|refine bS ?_ GE350.out|refine bS ?_ GE365.out|refine bS ?_ GE371.out)|exact HB.out)) hb)
      clear HO355
      clear HO360
      clear HO364
      clear HO370
      clear BK349
      clear BK350
      clear BK365
      clear BK371
      clear HB
      have HO355:=n0_
      have HO360:=n1_
      have HO364:=n2_
      have HO370:=n3_
      have HO375:=n4_
      have BK349:=n5_
      have BK350:=n6_
      have BK365:=n7_
      have BK371:=n8_
      have HB:=n9_
      clear n0_ n1_ n2_ n3_ n4_ n5_ n6_ n7_ n8_ n9_
      (try clear hb)
      (try clear hb2)
      (try clear hk)
      (try clear hi)
      (try clear ho0)
      obtain ⟨Ao102,co102,eo102⟩:=Kd.S_slice HO375.out
      (first|subst eo102|(injection eo102 with f1_ f2_ f3_;have f4_:=f1_.symm;have f5_:=f3_.symm;clear f1_ f2_ f3_;subst f4_;subst f5_))
      refine hK.out _ _ ⟨(bC BK365.out 0).trans rfl,(bC BK349.out 0).trans rfl⟩ (fun hHeld=>?_)
      clear hK K
      refine norm_ (a':=?_) ?_ ?_
      rotate_left
      ·show Act.put _ (some 37) _ = _
       simp only [Act.put,lA,l0',lS,i64_w,i32_w]
       rfl
      refine one_ (i:=3) (N:=some 38) #[true,true,true,true,false] rfl rfl (by kernel_rfl) (by decide) (fun K hK=>?_)
      refine goes_ Try.func44 (by kernel_rfl) rfl #[.agg #[.slice Ao86 t362.length co86],.agg #[.slice Ao102 t373.length co102]] (by rfl) rfl rfl (by (try simp only [mA,mC,mN]);first|done|rfl) ?_
      with_reducible refine (laws_eqDeal.calls k _ _ t362 _ _ t373 true _ ?side1 ?side2 ?side3 ?side4 A27.out).mono ?_
      (case side1=>repeat (first|exact (Kd.S_reads' HO364.out).2.2|(with_reducible refine Kd.C_alloc ?_ _)|(with_reducible refine Kd.C_drewN ?_ _)|(with_reducible refine Kd.C_drew ?_)))
      (case side2=>exact (Kd.S_reads' HO364.out).2.1)
      (case side3=>repeat (first|exact (Kd.S_reads' HO375.out).2.2|(with_reducible refine Kd.C_alloc ?_ _)|(with_reducible refine Kd.C_drewN ?_ _)|(with_reducible refine Kd.C_drew ?_)))
      (case side4=>exact (Kd.S_reads' HO375.out).2.1)
      rintro e w103 ⟨rfl,hb⟩
      refine ⟨_,rfl,?_⟩
      have n0_:=aK (Kd.S_below (by (with_reducible repeat first|apply Kd.S_alloc|apply Kd.S_drewN|apply Kd.S_drew);exact HO355.out) hb)
      have n1_:=aK (Kd.R_below (by (with_reducible repeat first|apply Kd.R_alloc|apply Kd.R_drewN|apply Kd.R_drew);exact HO360.out) hb)
      have n2_:=aK (Kd.S_below (by (with_reducible repeat first|apply Kd.S_alloc|apply Kd.S_drewN|apply Kd.S_drew);exact HO364.out) hb)
      have n3_:=aK (Kd.R_below (by (with_reducible repeat first|apply Kd.R_alloc|apply Kd.R_drewN|apply Kd.R_drew);exact HO370.out) hb)
      have n4_:=aK (Kd.S_below (by (with_reducible repeat first|apply Kd.S_alloc|apply Kd.S_drewN|apply Kd.S_drew);exact HO375.out) hb)
      have n5_:=aK (bB (by (with_reducible repeat first|apply bN|apply bD|apply bA);exact BK349.out) hb)
      have n6_:=aK (bB (by (with_reducible repeat first|apply bN|apply bD|apply bA);exact BK350.out) hb)
      have n7_:=aK (bB (by (with_reducible repeat first|apply bN|apply bD|apply bA);exact BK365.out) hb)
      have n8_:=aK (bB (by (with_reducible repeat first|apply bN|apply bD|apply bA);exact BK371.out) hb)
      have n9_:=aK (below_step (by repeat (first|(with_reducible first|exact HB.out|apply bL|apply bM|apply b1|refine bS ?_ GE349.out|refine bS ?_ GE350.out|refine bS ?_ GE365.out|refine bS ?_ GE371.out)|exact HB.out)) hb)
      clear HO355
      clear HO360
      clear HO364
      clear HO370
      clear HO375
      clear BK349
      clear BK350
      clear BK365
      clear BK371
      clear HB
      have HO355:=n0_
      have HO360:=n1_
      have HO364:=n2_
      have HO370:=n3_
      have HO375:=n4_
      have BK349:=n5_
      have BK350:=n6_
      have BK365:=n7_
      have BK371:=n8_
      have HB:=n9_
      clear n0_ n1_ n2_ n3_ n4_ n5_ n6_ n7_ n8_ n9_
      (try clear hb)
      (try clear hb2)
      (try clear hk)
      (try clear hi)
      refine hK.out _ _ ⟨(bC BK365.out 0).trans rfl,(bC BK349.out 0).trans rfl⟩ (fun hHeld=>?_)
      clear hK K
      refine norm_ (a':=?_) ?_ ?_
      rotate_left
      ·show Act.put _ (some 38) _ = _
       simp only [Act.put,lA,l0',lS,i64_w,i32_w]
       rfl
      refine pure_ (i:=4) (N:=some 39) (v:=?_) (a':=?_) #[true,true,true,true,true] rfl rfl (by kernel_rfl) (fun _ _ _ h=>h) (Or.inl ⟨by rfl,?_⟩) ?_ ?_
      rotate_left
      ·intro w'
       go_simp
       with_reducible rfl
      rotate_left
      ·simp only [Act.put,lA,l0',lS,i64_w,i32_w]
       rfl
      refine done_ (by kernel_rfl) ?_
      try go_wp2
      have n0_:=aK (Kd.S_drew HO355.out)
      have n1_:=aK (Kd.R_drew HO360.out)
      have n2_:=aK (Kd.S_drew HO364.out)
      have n3_:=aK (Kd.R_drew HO370.out)
      have n4_:=aK (Kd.S_drew HO375.out)
      have n5_:=aK (bD BK349.out)
      have n6_:=aK (bD BK350.out)
      have n7_:=aK (bD BK365.out)
      have n8_:=aK (bD BK371.out)
      have n9_:=aK (b1 HB.out)
      clear HO355
      clear HO360
      clear HO364
      clear HO370
      clear HO375
      clear BK349
      clear BK350
      clear BK365
      clear BK371
      clear HB
      have HO355:=n0_
      have HO360:=n1_
      have HO364:=n2_
      have HO370:=n3_
      have HO375:=n4_
      have BK349:=n5_
      have BK350:=n6_
      have BK365:=n7_
      have BK371:=n8_
      have HB:=n9_
      clear n0_ n1_ n2_ n3_ n4_ n5_ n6_ n7_ n8_ n9_
      refine start_ (n:=5) (S:=fun w'=>w'.cell? ⟨gb371,0,none⟩ = some (.int .i64 t366) ∧ w'.cell? ⟨gb371,1,none⟩ = some (.int .i64 t367) ∧ w'.cell? ⟨gb371,2,none⟩ = some (.slice Ao97 t368.length co97) ∧ w'.cell? ⟨gb350,0,none⟩ = some (.int .i64 a1_0) ∧ w'.cell? ⟨gb350,1,none⟩ = some (.int .i64 a1_1) ∧ w'.cell? ⟨gb350,2,none⟩ = some (.slice A1_2 l1_2.length c1_2)) (ds:=[]) #[false,false,false,false,false] (by kernel_rfl) rfl rfl ⟨(bC BK371.out 0).trans rfl,(bC BK371.out 1).trans rfl,(bC BK371.out 2).trans rfl,(bC BK350.out 0).trans rfl,(bC BK350.out 1).trans rfl,(bC BK350.out 2).trans rfl⟩ (fun hHeld=>?_)
      generalize w103.drew = w104 at HO355 HO360 HO364 HO370 HO375 BK349 BK350 BK365 BK371 HB hHeld ⊢
      refine take_ (i:=0) (N:=some 40) (v:=?_) (a':=?_) #[true,false,false,false,false] rfl rfl (by kernel_rfl) (fun _ _ _ h=>h) (Or.inl ⟨by rfl,?_⟩) hHeld ?_ ?_
      rotate_left
      ·rintro w' ⟨s0,s1,s2,s3,s4,s5⟩
       go_simp
       with_reducible rfl
      rotate_left
      ·simp only [Act.put,lA,l0',lS,i64_w,i32_w]
       rfl
      refine take_ (i:=1) (N:=some 41) (v:=?_) (a':=?_) #[true,true,false,false,false] rfl rfl (by kernel_rfl) (fun _ _ _ h=>h) (Or.inl ⟨by rfl,?_⟩) hHeld ?_ ?_
      rotate_left
      ·rintro w' ⟨s0,s1,s2,s3,s4,s5⟩
       go_simp
       with_reducible rfl
      rotate_left
      ·simp only [Act.put,lA,l0',lS,i64_w,i32_w]
       rfl
      refine one_ (i:=2) (N:=some 42) #[true,true,true,false,false] rfl rfl (by kernel_rfl) (by decide) (fun K hK=>?_)
      refine goes_ Try.func24 (by kernel_rfl) rfl #[.agg #[.int .i64 a1_0,.int .i64 a1_1,.slice A1_2 l1_2.length c1_2]] (by rfl) rfl rfl (by (try simp only [mA,mC,mN]);first|done|rfl) ?_
      with_reducible refine (laws_toPlay.calls k a1_0 a1_1 _ _ l1_2 t377 t378 t379 _ ?side1 ?side2 A29.out).mono ?_
      (case side1=>repeat (first|exact (Kd.C_below HR1_2.out HB.out)|(with_reducible refine Kd.C_alloc ?_ _)|(with_reducible refine Kd.C_drewN ?_ _)|(with_reducible refine Kd.C_drew ?_)))
      (case side2=>exact HC1_2.out)
      rintro e w105 ⟨v380,rfl,ho0,hb⟩
      refine ⟨_,rfl,?_⟩
      have n0_:=aK (Kd.S_elder' (by (with_reducible repeat first|apply Kd.S_alloc|apply Kd.S_drewN|apply Kd.S_drew);exact HO355.out) (Kd.R_base ho0) hb)
      have n1_:=aK (Kd.R_elder' (by (with_reducible repeat first|apply Kd.R_alloc|apply Kd.R_drewN|apply Kd.R_drew);exact HO360.out) (Kd.R_base ho0) hb)
      have n2_:=aK (Kd.S_elder' (by (with_reducible repeat first|apply Kd.S_alloc|apply Kd.S_drewN|apply Kd.S_drew);exact HO364.out) (Kd.R_base ho0) hb)
      have n3_:=aK (Kd.R_elder' (by (with_reducible repeat first|apply Kd.R_alloc|apply Kd.R_drewN|apply Kd.R_drew);exact HO370.out) (Kd.R_base ho0) hb)
      have n4_:=aK (Kd.S_elder' (by (with_reducible repeat first|apply Kd.S_alloc|apply Kd.S_drewN|apply Kd.S_drew);exact HO375.out) (Kd.R_base ho0) hb)
      have n5_:=aK (Kd.R_lower (Kd.R_new' (Kd.R_new' ho0 (Kd.R_lt (by (with_reducible repeat first|apply Kd.R_alloc|apply Kd.R_drewN|apply Kd.R_drew);exact HO360.out))) (Kd.R_lt (by (with_reducible repeat first|apply Kd.R_alloc|apply Kd.R_drewN|apply Kd.R_drew);exact HO370.out))) (below_size (by repeat (first|(with_reducible first|exact HB.out|apply bL|apply bM|apply b1|refine bS ?_ GE349.out|refine bS ?_ GE350.out|refine bS ?_ GE365.out|refine bS ?_ GE371.out)|exact HB.out))))
      have n6_:=aK (bB (by (with_reducible repeat first|apply bN|apply bD|apply bA);exact BK349.out) hb)
      have n7_:=aK (bB (by (with_reducible repeat first|apply bN|apply bD|apply bA);exact BK350.out) hb)
      have n8_:=aK (bB (by (with_reducible repeat first|apply bN|apply bD|apply bA);exact BK365.out) hb)
      have n9_:=aK (bB (by (with_reducible repeat first|apply bN|apply bD|apply bA);exact BK371.out) hb)
      have n10_:=aK (below_step (by repeat (first|(with_reducible first|exact HB.out|apply bL|apply bM|apply b1|refine bS ?_ GE349.out|refine bS ?_ GE350.out|refine bS ?_ GE365.out|refine bS ?_ GE371.out)|exact HB.out)) hb)
      clear HO355
      clear HO360
      clear HO364
      clear HO370
      clear HO375
      clear BK349
      clear BK350
      clear BK365
      clear BK371
      clear HB
      have HO355:=n0_
      have HO360:=n1_
      have HO364:=n2_
      have HO370:=n3_
      have HO375:=n4_
      have HO381:=n5_
      have BK349:=n6_
      have BK350:=n7_
      have BK365:=n8_
      have BK371:=n9_
      have HB:=n10_
      clear n0_ n1_ n2_ n3_ n4_ n5_ n6_ n7_ n8_ n9_ n10_
      (try clear hb)
      (try clear hb2)
      (try clear hk)
      (try clear hi)
      (try clear ho0)
      obtain ⟨Ao106,co106,eo106⟩:=Kd.R_slice HO381.out
      (first|subst eo106|(injection eo106 with f1_ f2_ f3_;have f4_:=f1_.symm;have f5_:=f3_.symm;clear f1_ f2_ f3_;subst f4_;subst f5_))
      refine hK.out _ _ ⟨(bC BK371.out 0).trans rfl,(bC BK371.out 1).trans rfl,(bC BK371.out 2).trans rfl,(bC BK350.out 0).trans rfl,(bC BK350.out 1).trans rfl,(bC BK350.out 2).trans rfl⟩ (fun hHeld=>?_)
      clear hK K
      refine norm_ (a':=?_) ?_ ?_
      rotate_left
      ·show Act.put _ (some 42) _ = _
       simp only [Act.put,lA,l0',lS,i64_w,i32_w]
       rfl
      refine one_ (i:=3) (N:=some 43) #[true,true,true,true,false] rfl rfl (by kernel_rfl) (by decide) (fun K hK=>?_)
      refine goes_ Try.func26 (by kernel_rfl) rfl #[.agg #[.int .i64 t366,.int .i64 t367,.slice Ao97 t368.length co97],.agg #[.int .i64 t377,.int .i64 t378,.slice Ao106 t379.length co106]] (by rfl) rfl rfl (by (try simp only [mA,mC,mN]);first|done|rfl) ?_
      with_reducible refine (laws_eqPlay.calls k t366 t367 _ _ t368 t377 t378 _ _ t379 false _ ?side1 ?side2 ?side3 ?side4 A30.out).mono ?_
      (case side1=>repeat (first|exact (Kd.R_reads' HO370.out).2.2|(with_reducible refine Kd.C_alloc ?_ _)|(with_reducible refine Kd.C_drewN ?_ _)|(with_reducible refine Kd.C_drew ?_)))
      (case side2=>exact (Kd.R_reads' HO370.out).2.1)
      (case side3=>repeat (first|exact (Kd.R_reads' HO381.out).2.2|(with_reducible refine Kd.C_alloc ?_ _)|(with_reducible refine Kd.C_drewN ?_ _)|(with_reducible refine Kd.C_drew ?_)))
      (case side4=>exact (Kd.R_reads' HO381.out).2.1)
      rintro e w107 ⟨rfl,hb⟩
      refine ⟨_,rfl,?_⟩
      have n0_:=aK (Kd.S_below (by (with_reducible repeat first|apply Kd.S_alloc|apply Kd.S_drewN|apply Kd.S_drew);exact HO355.out) hb)
      have n1_:=aK (Kd.R_below (by (with_reducible repeat first|apply Kd.R_alloc|apply Kd.R_drewN|apply Kd.R_drew);exact HO360.out) hb)
      have n2_:=aK (Kd.S_below (by (with_reducible repeat first|apply Kd.S_alloc|apply Kd.S_drewN|apply Kd.S_drew);exact HO364.out) hb)
      have n3_:=aK (Kd.R_below (by (with_reducible repeat first|apply Kd.R_alloc|apply Kd.R_drewN|apply Kd.R_drew);exact HO370.out) hb)
      have n4_:=aK (Kd.S_below (by (with_reducible repeat first|apply Kd.S_alloc|apply Kd.S_drewN|apply Kd.S_drew);exact HO375.out) hb)
      have n5_:=aK (Kd.R_below (by (with_reducible repeat first|apply Kd.R_alloc|apply Kd.R_drewN|apply Kd.R_drew);exact HO381.out) hb)
      have n6_:=aK (bB (by (with_reducible repeat first|apply bN|apply bD|apply bA);exact BK349.out) hb)
      have n7_:=aK (bB (by (with_reducible repeat first|apply bN|apply bD|apply bA);exact BK350.out) hb)
      have n8_:=aK (bB (by (with_reducible repeat first|apply bN|apply bD|apply bA);exact BK365.out) hb)
      have n9_:=aK (bB (by (with_reducible repeat first|apply bN|apply bD|apply bA);exact BK371.out) hb)
      have n10_:=aK (below_step (by repeat (first|(with_reducible first|exact HB.out|apply bL|apply bM|apply b1|refine bS ?_ GE349.out|refine bS ?_ GE350.out|refine bS ?_ GE365.out|refine bS ?_ GE371.out)|exact HB.out)) hb)
      clear HO355
      clear HO360
      clear HO364
      clear HO370
      clear HO375
      clear HO381
      clear BK349
      clear BK350
      clear BK365
      clear BK371
      clear HB
      have HO355:=n0_
      have HO360:=n1_
      have HO364:=n2_
      have HO370:=n3_
      have HO375:=n4_
      have HO381:=n5_
      have BK349:=n6_
      have BK350:=n7_
      have BK365:=n8_
      have BK371:=n9_
      have HB:=n10_
      clear n0_ n1_ n2_ n3_ n4_ n5_ n6_ n7_ n8_ n9_ n10_
      (try clear hb)
      (try clear hb2)
      (try clear hk)
      (try clear hi)
      refine hK.out _ _ ⟨(bC BK371.out 0).trans rfl,(bC BK371.out 1).trans rfl,(bC BK371.out 2).trans rfl,(bC BK350.out 0).trans rfl,(bC BK350.out 1).trans rfl,(bC BK350.out 2).trans rfl⟩ (fun hHeld=>?_)
      clear hK K
      refine norm_ (a':=?_) ?_ ?_
      rotate_left
      ·show Act.put _ (some 43) _ = _
       simp only [Act.put,lA,l0',lS,i64_w,i32_w]
       rfl
      refine pure_ (i:=4) (N:=some 44) (v:=?_) (a':=?_) #[true,true,true,true,true] rfl rfl (by kernel_rfl) (fun _ _ _ h=>h) (Or.inl ⟨by rfl,?_⟩) ?_ ?_
      rotate_left
      ·intro w'
       go_simp
       with_reducible rfl
      rotate_left
      ·simp only [Act.put,lA,l0',lS,i64_w,i32_w]
       rfl
      refine done_ (by kernel_rfl) ?_
      try go_wp2
      go_ret
      exact ⟨by first|rfl|(simp [errW_none,errW_some] <;> rfl)|(simp [*,errW_none,errW_some] <;> rfl),by repeat (first|(with_reducible first|exact HB.out|apply bL|apply bM|apply b1|refine bS ?_ GE349.out|refine bS ?_ GE350.out|refine bS ?_ GE365.out|refine bS ?_ GE371.out)|exact HB.out)⟩
    ·replace c28:=Bool.eq_false_iff.mpr c28
     subst c28
     have H1 : (some false) = some r:=by rw [if_neg (show ¬ (false = true) by decide)] at H;exact H
     clear H
     have H:=H1
     clear H1
     obtain rfl:=Option.some.inj H
     go_enter Try.func10,Try.ntmps10
     try go_wp2_with (first|((with_reducible refine gate_dst (N:=2) rfl ?_);refine box_event ?hg (N:=2) ?hd (cs:=#[.slice A0_0 l0_0.length c0_0]) (t:=41) ?hr ?_;(case hd=>rfl);(case hg=>rfl);(case hr=>first|(go_simp;done)|(go_simp;rfl));intro gb349 hg w108 hbox hb;have n0_:=aK (below_step (by repeat (first|(with_reducible first|exact HB.out|apply bL|apply bM|apply b1)|exact HB.out)) hb);have n1_:=aK (hbox);have n2_:=aK ((by rw [hg];exact (below_size (by repeat (first|(with_reducible first|exact HB.out|apply bL|apply bM|apply b1)|exact HB.out))) : w.heap.size ≤ gb349));have n3_:=aK ((by rw [hg];exact (below_size (by repeat (first|(with_reducible first|exact HB.out|apply bL|apply bM|apply b1)|exact HB.out))) : w.heap.size ≤ gb349));clear HB;have HB:=n0_;have BK349:=n1_;have GW349:=n2_;have GE349:=n3_;clear n0_ n1_ n2_ n3_;clear hb hbox hg)|((with_reducible refine gate_dst (N:=3) rfl ?_);refine box_event ?hg (N:=3) ?hd (cs:=#[.int .i64 a1_0,.int .i64 a1_1,.slice A1_2 l1_2.length c1_2]) (t:=24) ?hr ?_;(case hd=>rfl);(case hg=>rfl);(case hr=>first|(go_simp;done)|(go_simp;rfl));intro gb350 hg w109 hbox hb;have n0_:=aK (bB (by (with_reducible repeat first|apply bN|apply bD|apply bA);exact BK349.out) hb);have n1_:=aK (below_step (by repeat (first|(with_reducible first|exact HB.out|apply bL|apply bM|apply b1|refine bS ?_ GE349.out)|exact HB.out)) hb);have n2_:=aK (hbox);have n3_:=aK ((by rw [hg];exact (below_size (by repeat (first|(with_reducible first|exact HB.out|apply bL|apply bM|apply b1|refine bS ?_ GE349.out)|exact HB.out))) : w.heap.size ≤ gb350));have n4_:=aK ((by rw [hg];exact (below_size (by repeat (first|(with_reducible first|exact HB.out|apply bL|apply bM|apply b1|refine bS ?_ GE349.out)|exact HB.out))) : w.heap.size ≤ gb350));have n5_:=aK ((by rw [hg];exact Nat.ne_of_lt (blk_lt (by (with_reducible repeat first|apply bN|apply bD|apply bA);exact BK349.out)) : gb349 ≠ gb350));have n6_:=aK ((by rw [hg];exact Nat.ne_of_gt (blk_lt (by (with_reducible repeat first|apply bN|apply bD|apply bA);exact BK349.out)) : gb350 ≠ gb349));clear BK349;clear HB;have BK349:=n0_;have HB:=n1_;have BK350:=n2_;have GW350:=n3_;have GE350:=n4_;have NB349_350:=n5_;have NB350_349:=n6_;clear n0_ n1_ n2_ n3_ n4_ n5_ n6_;clear hb hbox hg;have hnb110:=NB349_350.out;have hnc110:=NB350_349.out;have hcz111_0 : w109.cell? ⟨gb349,0,none⟩ = some (.slice A0_0 l0_0.length c0_0):=(bC BK349.out 0).trans rfl;have hfz111_0:=blk_frozen BK349.out 0)|((with_reducible refine gate_callee (f:=40) rfl ?_);refine goesL_ (some 12) rfl rfl Try.func40 (by kernel_rfl) rfl #[.agg #[.slice A0_0 l0_0.length c0_0],.int .i64 1048576] rfl (by (try simp only [mA,mC,mN]);first|done|rfl) ?_;(with_reducible refine (laws_szDeal.calls k _ _ l0_0 1048576 t351 _ ?side1 ?side2 A3.out).mono ?_);(case side1=>repeat (first|exact (Kd.C_below HR0_0.out HB.out)|(with_reducible refine Kd.C_alloc ?_ _)|(with_reducible refine Kd.C_drewN ?_ _)|(with_reducible refine Kd.C_drew ?_)));(case side2=>exact HC0_0.out);rintro e w112 ⟨rfl,hb⟩;refine ⟨_,rfl,?_⟩;have n0_:=aK (bB (by (with_reducible repeat first|apply bN|apply bD|apply bA);exact BK349.out) hb);have n1_:=aK (bB (by (with_reducible repeat first|apply bN|apply bD|apply bA);exact BK350.out) hb);have n2_:=aK (below_step (by repeat (first|(with_reducible first|exact HB.out|apply bL|apply bM|apply b1|refine bS ?_ GE349.out|refine bS ?_ GE350.out)|exact HB.out)) hb);clear BK349;clear BK350;clear HB;have BK349:=n0_;have BK350:=n1_;have HB:=n2_;clear n0_ n1_ n2_;(try clear hb);(try clear hb2);(try clear hk);(try clear hi);have hcz113_0 : w112.cell? ⟨gb350,0,none⟩ = some (.int .i64 a1_0):=(bC BK350.out 0).trans rfl;have hcz113_1 : w112.cell? ⟨gb350,1,none⟩ = some (.int .i64 a1_1):=(bC BK350.out 1).trans rfl;have hcz113_2 : w112.cell? ⟨gb350,2,none⟩ = some (.slice A1_2 l1_2.length c1_2):=(bC BK350.out 2).trans rfl;have hfz113_0:=blk_frozen BK350.out 0;have hfz113_1:=blk_frozen BK350.out 1;have hfz113_2:=blk_frozen BK350.out 2)|((with_reducible refine gate_callee (f:=22) rfl ?_);refine goesL_ (some 17) rfl rfl Try.func22 (by kernel_rfl) rfl #[.agg #[.int .i64 a1_0,.int .i64 a1_1,.slice A1_2 l1_2.length c1_2],.int .i64 t351] rfl (by (try simp only [mA,mC,mN]);first|done|rfl) ?_;(with_reducible refine (laws_szPlay.calls a1_0 a1_1 _ _ l1_2 t351 t352 _ ?side1 ?side2 A10.out).mono ?_);(case side1=>repeat (first|exact (Kd.C_below HR1_2.out HB.out)|(with_reducible refine Kd.C_alloc ?_ _)|(with_reducible refine Kd.C_drewN ?_ _)|(with_reducible refine Kd.C_drew ?_)));(case side2=>exact HC1_2.out);rintro e w114 ⟨rfl,hb⟩;refine ⟨_,rfl,?_⟩;have n0_:=aK (bB (by (with_reducible repeat first|apply bN|apply bD|apply bA);exact BK349.out) hb);have n1_:=aK (bB (by (with_reducible repeat first|apply bN|apply bD|apply bA);exact BK350.out) hb);have n2_:=aK (below_step (by repeat (first|(with_reducible first|exact HB.out|apply bL|apply bM|apply b1|refine bS ?_ GE349.out|refine bS ?_ GE350.out)|exact HB.out)) hb);clear BK349;clear BK350;clear HB;have BK349:=n0_;have BK350:=n1_;have HB:=n2_;clear n0_ n1_ n2_;(try clear hb);(try clear hb2);(try clear hk);(try clear hi)))
     have n0_:=aK (bD BK349.out)
     have n1_:=aK (bD BK350.out)
     have n2_:=aK (b1 HB.out)
     clear BK349
     clear BK350
     clear HB
     have BK349:=n0_
     have BK350:=n1_
     have HB:=n2_
     clear n0_ n1_ n2_
     refine start_ (n:=6) (S:=fun w'=>w'.cell? ⟨gb349,0,none⟩ = some (.slice A0_0 l0_0.length c0_0) ∧ w'.cell? ⟨gb350,0,none⟩ = some (.int .i64 a1_0) ∧ w'.cell? ⟨gb350,1,none⟩ = some (.int .i64 a1_1) ∧ w'.cell? ⟨gb350,2,none⟩ = some (.slice A1_2 l1_2.length c1_2)) (ds:=[]) #[false,false,false,false,false,false] (by kernel_rfl) rfl rfl ⟨(bC BK349.out 0).trans rfl,(bC BK350.out 0).trans rfl,(bC BK350.out 1).trans rfl,(bC BK350.out 2).trans rfl⟩ (fun hHeld=>?_)
     generalize w114.drew = w115 at BK349 BK350 HB hHeld ⊢
     refine take_ (i:=0) (N:=some 20) (v:=?_) (a':=?_) #[true,false,false,false,false,false] rfl rfl (by kernel_rfl) (fun _ _ _ h=>h) (Or.inl ⟨by rfl,?_⟩) hHeld ?_ ?_
     rotate_left
     ·rintro w' ⟨s0,s1,s2,s3⟩
      go_simp
      with_reducible rfl
     rotate_left
     ·simp only [Act.put,lA,l0',lS,i64_w,i32_w]
      rfl
     refine take_ (i:=2) (N:=some 22) (v:=?_) (a':=?_) #[true,false,true,false,false,false] rfl rfl (by kernel_rfl) (fun _ _ _ h=>h) (Or.inl ⟨by rfl,?_⟩) hHeld ?_ ?_
     rotate_left
     ·rintro w' ⟨s0,s1,s2,s3⟩
      go_simp
      with_reducible rfl
     rotate_left
     ·simp only [Act.put,lA,l0',lS,i64_w,i32_w]
      rfl
     refine one_ (i:=1) (N:=some 21) #[true,true,true,false,false,false] rfl rfl (by kernel_rfl) (by decide) (fun K hK=>?_)
     refine goes_ Try.func42 (by kernel_rfl) rfl #[.agg #[.slice A0_0 l0_0.length c0_0]] (by rfl) rfl rfl (by (try simp only [mA,mC,mN]);first|done|rfl) ?_
     with_reducible refine (laws_toDeal.calls k _ _ l0_0 t353 _ ?side1 ?side2 A19.out).mono ?_
     (case side1=>repeat (first|exact (Kd.C_below HR0_0.out HB.out)|(with_reducible refine Kd.C_alloc ?_ _)|(with_reducible refine Kd.C_drewN ?_ _)|(with_reducible refine Kd.C_drew ?_)))
     (case side2=>exact HC0_0.out)
     rintro e w116 ⟨v354,rfl,ho0,hb⟩
     refine ⟨_,rfl,?_⟩
     have n0_:=aK (Kd.S_lower ho0 (below_size (by repeat (first|(with_reducible first|exact HB.out|apply bL|apply bM|apply b1|refine bS ?_ GE349.out|refine bS ?_ GE350.out)|exact HB.out))))
     have n1_:=aK (bB (by (with_reducible repeat first|apply bN|apply bD|apply bA);exact BK349.out) hb)
     have n2_:=aK (bB (by (with_reducible repeat first|apply bN|apply bD|apply bA);exact BK350.out) hb)
     have n3_:=aK (below_step (by repeat (first|(with_reducible first|exact HB.out|apply bL|apply bM|apply b1|refine bS ?_ GE349.out|refine bS ?_ GE350.out)|exact HB.out)) hb)
     clear BK349
     clear BK350
     clear HB
     have HO355:=n0_
     have BK349:=n1_
     have BK350:=n2_
     have HB:=n3_
     clear n0_ n1_ n2_ n3_
     (try clear hb)
     (try clear hb2)
     (try clear hk)
     (try clear hi)
     (try clear ho0)
     refine hK.out _ _ ⟨(bC BK349.out 0).trans rfl,(bC BK350.out 0).trans rfl,(bC BK350.out 1).trans rfl,(bC BK350.out 2).trans rfl⟩ (fun hHeld=>?_)
     clear hK K
     refine norm_ (a':=?_) ?_ ?_
     rotate_left
     ·show Act.put _ (some 21) _ = _
      simp only [Act.put,lA,l0',lS,i64_w,i32_w]
      rfl
     refine one_ (i:=3) (N:=some 23) #[true,true,true,true,false,false] rfl rfl (by kernel_rfl) (by decide) (fun K hK=>?_)
     refine goes_ Try.func24 (by kernel_rfl) rfl #[.agg #[.int .i64 a1_0,.int .i64 a1_1,.slice A1_2 l1_2.length c1_2]] (by rfl) rfl rfl (by (try simp only [mA,mC,mN]);first|done|rfl) ?_
     with_reducible refine (laws_toPlay.calls k a1_0 a1_1 _ _ l1_2 t356 t357 t358 _ ?side1 ?side2 A20.out).mono ?_
     (case side1=>repeat (first|exact (Kd.C_below HR1_2.out HB.out)|(with_reducible refine Kd.C_alloc ?_ _)|(with_reducible refine Kd.C_drewN ?_ _)|(with_reducible refine Kd.C_drew ?_)))
     (case side2=>exact HC1_2.out)
     rintro e w117 ⟨v359,rfl,ho0,hb⟩
     refine ⟨_,rfl,?_⟩
     have n0_:=aK (Kd.S_elder' (by (with_reducible repeat first|apply Kd.S_alloc|apply Kd.S_drewN|apply Kd.S_drew);exact HO355.out) (Kd.R_base ho0) hb)
     have n1_:=aK (Kd.R_lower ho0 (below_size (by repeat (first|(with_reducible first|exact HB.out|apply bL|apply bM|apply b1|refine bS ?_ GE349.out|refine bS ?_ GE350.out)|exact HB.out))))
     have n2_:=aK (bB (by (with_reducible repeat first|apply bN|apply bD|apply bA);exact BK349.out) hb)
     have n3_:=aK (bB (by (with_reducible repeat first|apply bN|apply bD|apply bA);exact BK350.out) hb)
     have n4_:=aK (below_step (by repeat (first|(with_reducible first|exact HB.out|apply bL|apply bM|apply b1|refine bS ?_ GE349.out|refine bS ?_ GE350.out)|exact HB.out)) hb)
     clear HO355
     clear BK349
     clear BK350
     clear HB
     have HO355:=n0_
     have HO360:=n1_
     have BK349:=n2_
     have BK350:=n3_
     have HB:=n4_
     clear n0_ n1_ n2_ n3_ n4_
     (try clear hb)
     (try clear hb2)
     (try clear hk)
     (try clear hi)
     (try clear ho0)
     obtain ⟨Ao118,co118,eo118⟩:=Kd.S_slice HO355.out
     (first|subst eo118|(injection eo118 with f1_ f2_ f3_;have f4_:=f1_.symm;have f5_:=f3_.symm;clear f1_ f2_ f3_;subst f4_;subst f5_))
     obtain ⟨Ao119,co119,eo119⟩:=Kd.R_slice HO360.out
     (first|subst eo119|(injection eo119 with f1_ f2_ f3_;have f4_:=f1_.symm;have f5_:=f3_.symm;clear f1_ f2_ f3_;subst f4_;subst f5_))
     refine hK.out _ _ ⟨(bC BK349.out 0).trans rfl,(bC BK350.out 0).trans rfl,(bC BK350.out 1).trans rfl,(bC BK350.out 2).trans rfl⟩ (fun hHeld=>?_)
     clear hK K
     refine norm_ (a':=?_) ?_ ?_
     rotate_left
     ·show Act.put _ (some 23) _ = _
      simp only [Act.put,lA,l0',lS,i64_w,i32_w]
      rfl
     refine one_ (i:=4) (N:=some 24) #[true,true,true,true,true,false] rfl rfl (by kernel_rfl) (by decide) (fun K hK=>?_)
     refine goes_ Try.func47 (by kernel_rfl) rfl #[.agg #[.slice Ao118 t353.length co118],.agg #[.int .i64 t356,.int .i64 t357,.slice Ao119 t358.length co119]] (by rfl) rfl rfl (by (try simp only [mA,mC,mN]);first|done|rfl) ?_
     with_reducible refine (spec_TurnOf.calls k _ _ t353 t356 t357 _ _ t358 t361 _ ?side1 ?side2 ?side3 ?side4 A21.out).mono ?_
     (case side1=>repeat (first|exact (Kd.S_reads' HO355.out).2.2|(with_reducible refine Kd.C_alloc ?_ _)|(with_reducible refine Kd.C_drewN ?_ _)|(with_reducible refine Kd.C_drew ?_)))
     (case side2=>exact (Kd.S_reads' HO355.out).2.1)
     (case side3=>repeat (first|exact (Kd.R_reads' HO360.out).2.2|(with_reducible refine Kd.C_alloc ?_ _)|(with_reducible refine Kd.C_drewN ?_ _)|(with_reducible refine Kd.C_drew ?_)))
     (case side4=>exact (Kd.R_reads' HO360.out).2.1)
     rintro e w120 ⟨rfl,hb⟩
     refine ⟨_,rfl,?_⟩
     have n0_:=aK (Kd.S_below (by (with_reducible repeat first|apply Kd.S_alloc|apply Kd.S_drewN|apply Kd.S_drew);exact HO355.out) hb)
     have n1_:=aK (Kd.R_below (by (with_reducible repeat first|apply Kd.R_alloc|apply Kd.R_drewN|apply Kd.R_drew);exact HO360.out) hb)
     have n2_:=aK (bB (by (with_reducible repeat first|apply bN|apply bD|apply bA);exact BK349.out) hb)
     have n3_:=aK (bB (by (with_reducible repeat first|apply bN|apply bD|apply bA);exact BK350.out) hb)
     have n4_:=aK (below_step (by repeat (first|(with_reducible first|exact HB.out|apply bL|apply bM|apply b1|refine bS ?_ GE349.out|refine bS ?_ GE350.out)|exact HB.out)) hb)
     clear HO355
     clear HO360
     clear BK349
     clear BK350
     clear HB
     have HO355:=n0_
     have HO360:=n1_
     have BK349:=n2_
     have BK350:=n3_
     have HB:=n4_
     clear n0_ n1_ n2_ n3_ n4_
     (try clear hb)
     (try clear hb2)
     (try clear hk)
     (try clear hi)
     refine hK.out _ _ ⟨(bC BK349.out 0).trans rfl,(bC BK350.out 0).trans rfl,(bC BK350.out 1).trans rfl,(bC BK350.out 2).trans rfl⟩ (fun hHeld=>?_)
     clear hK K
     refine norm_ (a':=?_) ?_ ?_
     rotate_left
     ·show Act.put _ (some 24) _ = _
      simp only [Act.put,lA,l0',lS,i64_w,i32_w]
      rfl
     refine pure_ (i:=5) (N:=some 6) (v:=?_) (a':=?_) #[true,true,true,true,true,true] rfl rfl (by kernel_rfl) (fun _ _ _ h=>h) (Or.inl ⟨by rfl,?_⟩) ?_ ?_
     rotate_left
     ·intro w'
      go_simp
      with_reducible rfl
     rotate_left
     ·simp only [Act.put,lA,l0',lS,i64_w,i32_w]
      rfl
     refine done_ (by kernel_rfl) ?_
     have hcz121_0 : w120.cell? ⟨gb349,0,none⟩ = some (.slice A0_0 l0_0.length c0_0):=(bC BK349.out 0).trans rfl
     have hfz121_0:=blk_frozen BK349.out 0
     try go_wp2_with (first|((with_reducible refine gate_callee (f:=42) rfl ?_);refine goesL_ (some 26) rfl rfl Try.func42 (by kernel_rfl) rfl #[.agg #[.slice A0_0 l0_0.length c0_0]] rfl (by (try simp only [mA,mC,mN]);first|done|rfl) ?_;(with_reducible refine (laws_toDeal.calls k _ _ l0_0 t362 _ ?side1 ?side2 A22.out).mono ?_);(case side1=>repeat (first|exact (Kd.C_below HR0_0.out HB.out)|(with_reducible refine Kd.C_alloc ?_ _)|(with_reducible refine Kd.C_drewN ?_ _)|(with_reducible refine Kd.C_drew ?_)));(case side2=>exact HC0_0.out);rintro e w122 ⟨v363,rfl,ho0,hb⟩;refine ⟨_,rfl,?_⟩;have n0_:=aK (Kd.S_elder' (by (with_reducible repeat first|apply Kd.S_alloc|apply Kd.S_drewN|apply Kd.S_drew);exact HO355.out) (Kd.S_base ho0) hb);have n1_:=aK (Kd.R_below (by (with_reducible repeat first|apply Kd.R_alloc|apply Kd.R_drewN|apply Kd.R_drew);exact HO360.out) hb);have n2_:=aK (Kd.S_lower (Kd.S_new' (Kd.S_new' ho0 (Kd.S_lt (by (with_reducible repeat first|apply Kd.S_alloc|apply Kd.S_drewN|apply Kd.S_drew);exact HO355.out))) (Kd.R_lt (by (with_reducible repeat first|apply Kd.R_alloc|apply Kd.R_drewN|apply Kd.R_drew);exact HO360.out))) (below_size (by repeat (first|(with_reducible first|exact HB.out|apply bL|apply bM|apply b1|refine bS ?_ GE349.out|refine bS ?_ GE350.out)|exact HB.out))));have n3_:=aK (bB (by (with_reducible repeat first|apply bN|apply bD|apply bA);exact BK349.out) hb);have n4_:=aK (bB (by (with_reducible repeat first|apply bN|apply bD|apply bA);exact BK350.out) hb);have n5_:=aK (below_step (by repeat (first|(with_reducible first|exact HB.out|apply bL|apply bM|apply b1|refine bS ?_ GE349.out|refine bS ?_ GE350.out)|exact HB.out)) hb);clear HO355;clear HO360;clear BK349;clear BK350;clear HB;have HO355:=n0_;have HO360:=n1_;have HO364:=n2_;have BK349:=n3_;have BK350:=n4_;have HB:=n5_;clear n0_ n1_ n2_ n3_ n4_ n5_;(try clear hb);(try clear hb2);(try clear hk);(try clear hi);(try clear ho0))|((with_reducible refine gate_dst (N:=7) rfl ?_);refine box_event ?hg (N:=7) ?hd (cs:=#[.slice none 0 0]) (t:=44) ?hr ?_;(case hd=>rfl);(case hg=>rfl);(case hr=>first|(go_simp;done)|(go_simp;rfl));intro gb365 hg w123 hbox hb;have n0_:=aK (Kd.S_below (by (with_reducible repeat first|apply Kd.S_alloc|apply Kd.S_drewN|apply Kd.S_drew);exact HO355.out) hb);have n1_:=aK (Kd.R_below (by (with_reducible repeat first|apply Kd.R_alloc|apply Kd.R_drewN|apply Kd.R_drew);exact HO360.out) hb);have n2_:=aK (Kd.S_below (by (with_reducible repeat first|apply Kd.S_alloc|apply Kd.S_drewN|apply Kd.S_drew);exact HO364.out) hb);have n3_:=aK (bB (by (with_reducible repeat first|apply bN|apply bD|apply bA);exact BK349.out) hb);have n4_:=aK (bB (by (with_reducible repeat first|apply bN|apply bD|apply bA);exact BK350.out) hb);have n5_:=aK (below_step (by repeat (first|(with_reducible first|exact HB.out|apply bL|apply bM|apply b1|refine bS ?_ GE349.out|refine bS ?_ GE350.out)|exact HB.out)) hb);have n6_:=aK (hbox);have n7_:=aK ((by rw [hg];exact (below_size (by repeat (first|(with_reducible first|exact HB.out|apply bL|apply bM|apply b1|refine bS ?_ GE349.out|refine bS ?_ GE350.out)|exact HB.out))) : w.heap.size ≤ gb365));have n8_:=aK ((by rw [hg];exact (below_size (by repeat (first|(with_reducible first|exact HB.out|apply bL|apply bM|apply b1|refine bS ?_ GE349.out|refine bS ?_ GE350.out)|exact HB.out))) : w.heap.size ≤ gb365));have n9_:=aK ((by rw [hg];exact Nat.ne_of_lt (blk_lt (by (with_reducible repeat first|apply bN|apply bD|apply bA);exact BK349.out)) : gb349 ≠ gb365));have n10_:=aK ((by rw [hg];exact Nat.ne_of_gt (blk_lt (by (with_reducible repeat first|apply bN|apply bD|apply bA);exact BK349.out)) : gb365 ≠ gb349));have n11_:=aK ((by rw [hg];exact Nat.ne_of_lt (blk_lt (by (with_reducible repeat first|apply bN|apply bD|apply bA);exact BK350.out)) : gb350 ≠ gb365));have n12_:=aK ((by rw [hg];exact Nat.ne_of_gt (blk_lt (by (with_reducible repeat first|apply bN|apply bD|apply bA);exact BK350.out)) : gb365 ≠ gb350));clear HO355;clear HO360;clear HO364;clear BK349;clear BK350;clear HB;have HO355:=n0_;have HO360:=n1_;have HO364:=n2_;have BK349:=n3_;have BK350:=n4_;have HB:=n5_;have BK365:=n6_;have GW365:=n7_;have GE365:=n8_;have NB349_365:=n9_;have NB365_349:=n10_;have NB350_365:=n11_;have NB365_350:=n12_;clear n0_ n1_ n2_ n3_ n4_ n5_ n6_ n7_ n8_ n9_ n10_ n11_ n12_;clear hb hbox hg;obtain ⟨Ao124,co124,eo124⟩:=Kd.S_slice HO364.out;subst eo124;have hnb125:=NB365_349.out;have hnc125:=NB349_365.out;have hnb126:=NB365_350.out;have hnc126:=NB350_365.out;have hcz127_0 : w123.cell? ⟨gb365,0,none⟩ = some (.slice none 0 0):=(bC BK365.out 0).trans rfl;have hfz127_0:=blk_frozen BK365.out 0;have hcz128_0 : w123.cell? ⟨gb350,0,none⟩ = some (.int .i64 a1_0):=(bC BK350.out 0).trans rfl;have hcz128_1 : w123.cell? ⟨gb350,1,none⟩ = some (.int .i64 a1_1):=(bC BK350.out 1).trans rfl;have hcz128_2 : w123.cell? ⟨gb350,2,none⟩ = some (.slice A1_2 l1_2.length c1_2):=(bC BK350.out 2).trans rfl;have hfz128_0:=blk_frozen BK350.out 0;have hfz128_1:=blk_frozen BK350.out 1;have hfz128_2:=blk_frozen BK350.out 2)|((with_reducible refine gate_callee (f:=24) rfl ?_);refine goesL_ (some 28) rfl rfl Try.func24 (by kernel_rfl) rfl #[.agg #[.int .i64 a1_0,.int .i64 a1_1,.slice A1_2 l1_2.length c1_2]] rfl (by (try simp only [mA,mC,mN]);first|done|rfl) ?_;(with_reducible refine (laws_toPlay.calls k a1_0 a1_1 _ _ l1_2 t366 t367 t368 _ ?side1 ?side2 A23.out).mono ?_);(case side1=>exact Kd.C_below HR1_2.out (by repeat (first|(with_reducible first|exact HB.out|apply bL|apply bM|apply b1|refine bS ?_ GE349.out|refine bS ?_ GE350.out|refine bS ?_ GE365.out)|exact HB.out)));(case side2=>exact HC1_2.out);rintro e w129 ⟨v369,rfl,ho0,hb⟩;refine ⟨_,rfl,?_⟩;have n0_:=aK (Kd.S_elder' (by (with_reducible repeat first|apply Kd.S_alloc|apply Kd.S_drewN|apply Kd.S_drew);exact (Kd.S_mono (Kd.S_far (p:=⟨gb365,0,none⟩) (Kd.S_types HO355.out BK365.out (by decide)) (fun _ hk=>by first|exact hk.2|(have h_:=hk;(try simp only [and_assoc,true_and] at h_);(repeat' apply And.intro) <;> with_reducible first|exact h_.1|exact h_.2.1|exact h_.2.2.1|exact h_.2.2.2.1|exact h_.2.2.2.2.1|exact h_.2.2.2.2.2.1|exact h_.2.2.2.2.2.2.1|exact h_.2.2.2.2.2.2.2.1|exact h_.2.2.2.2.2.2.2.2.1|exact h_.2|exact h_.2.2|exact h_.2.2.2|exact h_.2.2.2.2|exact h_.2.2.2.2.2|exact h_.2.2.2.2.2.2|exact h_.2.2.2.2.2.2.2|exact h_.2.2.2.2.2.2.2.2)) (.slice Ao124 t362.length co124)) (fun _ h_=>h_.1))) (Kd.R_base ho0) hb);have n1_:=aK (Kd.R_elder' (by (with_reducible repeat first|apply Kd.R_alloc|apply Kd.R_drewN|apply Kd.R_drew);exact (Kd.R_mono (Kd.R_far (p:=⟨gb365,0,none⟩) (Kd.R_types HO360.out BK365.out (by decide)) (fun _ hk=>by first|exact hk.2|(have h_:=hk;(try simp only [and_assoc,true_and] at h_);(repeat' apply And.intro) <;> with_reducible first|exact h_.1|exact h_.2.1|exact h_.2.2.1|exact h_.2.2.2.1|exact h_.2.2.2.2.1|exact h_.2.2.2.2.2.1|exact h_.2.2.2.2.2.2.1|exact h_.2.2.2.2.2.2.2.1|exact h_.2.2.2.2.2.2.2.2.1|exact h_.2|exact h_.2.2|exact h_.2.2.2|exact h_.2.2.2.2|exact h_.2.2.2.2.2|exact h_.2.2.2.2.2.2|exact h_.2.2.2.2.2.2.2|exact h_.2.2.2.2.2.2.2.2)) (.slice Ao124 t362.length co124)) (fun _ h_=>h_.1))) (Kd.R_base ho0) hb);have n2_:=aK (Kd.S_elder' (by (with_reducible repeat first|apply Kd.S_alloc|apply Kd.S_drewN|apply Kd.S_drew);exact (Kd.S_mono (Kd.S_far (p:=⟨gb365,0,none⟩) (Kd.S_types HO364.out BK365.out (by decide)) (fun _ hk=>by first|exact hk.2|(have h_:=hk;(try simp only [and_assoc,true_and] at h_);(repeat' apply And.intro) <;> with_reducible first|exact h_.1|exact h_.2.1|exact h_.2.2.1|exact h_.2.2.2.1|exact h_.2.2.2.2.1|exact h_.2.2.2.2.2.1|exact h_.2.2.2.2.2.2.1|exact h_.2.2.2.2.2.2.2.1|exact h_.2.2.2.2.2.2.2.2.1|exact h_.2|exact h_.2.2|exact h_.2.2.2|exact h_.2.2.2.2|exact h_.2.2.2.2.2|exact h_.2.2.2.2.2.2|exact h_.2.2.2.2.2.2.2|exact h_.2.2.2.2.2.2.2.2)) (.slice Ao124 t362.length co124)) (fun _ h_=>h_.1))) (Kd.R_base ho0) hb);have n3_:=aK (Kd.R_lower (Kd.R_new' ho0 (Kd.R_lt (by (with_reducible repeat first|apply Kd.R_alloc|apply Kd.R_drewN|apply Kd.R_drew);exact (Kd.R_mono (Kd.R_far (p:=⟨gb365,0,none⟩) (Kd.R_types HO360.out BK365.out (by decide)) (fun _ hk=>by first|exact hk.2|(have h_:=hk;(try simp only [and_assoc,true_and] at h_);(repeat' apply And.intro) <;> with_reducible first|exact h_.1|exact h_.2.1|exact h_.2.2.1|exact h_.2.2.2.1|exact h_.2.2.2.2.1|exact h_.2.2.2.2.2.1|exact h_.2.2.2.2.2.2.1|exact h_.2.2.2.2.2.2.2.1|exact h_.2.2.2.2.2.2.2.2.1|exact h_.2|exact h_.2.2|exact h_.2.2.2|exact h_.2.2.2.2|exact h_.2.2.2.2.2|exact h_.2.2.2.2.2.2|exact h_.2.2.2.2.2.2.2|exact h_.2.2.2.2.2.2.2.2)) (.slice Ao124 t362.length co124)) (fun _ h_=>h_.1))))) (below_size (by repeat (first|(with_reducible first|exact HB.out|apply bL|apply bM|apply b1|refine bS ?_ GE349.out|refine bS ?_ GE350.out|refine bS ?_ GE365.out)|exact HB.out))));have n4_:=aK (bB (g:=gb349) (o:=.cells #[.slice A0_0 l0_0.length c0_0] 41 (0,0)) (by (with_reducible repeat first|apply bN|apply bD|apply bA);refine blk_far ?_ NB349_365.out _;(with_reducible repeat first|apply bN|apply bD|apply bA);exact BK349.out) hb);have n5_:=aK (bB (g:=gb350) (o:=.cells #[.int .i64 a1_0,.int .i64 a1_1,.slice A1_2 l1_2.length c1_2] 24 (0,0)) (by (with_reducible repeat first|apply bN|apply bD|apply bA);refine blk_far ?_ NB350_365.out _;(with_reducible repeat first|apply bN|apply bD|apply bA);exact BK350.out) hb);have n6_:=aK (bB (g:=gb365) (o:=.cells #[.slice Ao124 t362.length co124] 44 (0,0)) (by (with_reducible repeat first|apply bN|apply bD|apply bA);refine blk_put (cs:=#[.slice none 0 0]) ?_ 0 _ rfl;(with_reducible repeat first|apply bN|apply bD|apply bA);exact BK365.out) hb);have n7_:=aK (below_step (by repeat (first|(with_reducible first|exact HB.out|apply bL|apply bM|apply b1|refine bS ?_ GE349.out|refine bS ?_ GE350.out|refine bS ?_ GE365.out)|exact HB.out)) hb);clear HO355;clear HO360;clear HO364;clear BK349;clear BK350;clear BK365;clear HB;have HO355:=n0_;have HO360:=n1_;have HO364:=n2_;have HO370:=n3_;have BK349:=n4_;have BK350:=n5_;have BK365:=n6_;have HB:=n7_;clear n0_ n1_ n2_ n3_ n4_ n5_ n6_ n7_;(try clear hb);(try clear hb2);(try clear hk);(try clear hi);(try clear ho0))|((with_reducible refine gate_dst (N:=8) rfl ?_);refine box_event ?hg (N:=8) ?hd (cs:=#[.int .i64 0,.int .i64 0,.slice none 0 0]) (t:=27) ?hr ?_;(case hd=>rfl);(case hg=>rfl);(case hr=>first|(go_simp;done)|(go_simp;rfl));intro gb371 hg w130 hbox hb;have n0_:=aK (Kd.S_below (by (with_reducible repeat first|apply Kd.S_alloc|apply Kd.S_drewN|apply Kd.S_drew);exact HO355.out) hb);have n1_:=aK (Kd.R_below (by (with_reducible repeat first|apply Kd.R_alloc|apply Kd.R_drewN|apply Kd.R_drew);exact HO360.out) hb);have n2_:=aK (Kd.S_below (by (with_reducible repeat first|apply Kd.S_alloc|apply Kd.S_drewN|apply Kd.S_drew);exact HO364.out) hb);have n3_:=aK (Kd.R_below (by (with_reducible repeat first|apply Kd.R_alloc|apply Kd.R_drewN|apply Kd.R_drew);exact HO370.out) hb);have n4_:=aK (bB (by (with_reducible repeat first|apply bN|apply bD|apply bA);exact BK349.out) hb);have n5_:=aK (bB (by (with_reducible repeat first|apply bN|apply bD|apply bA);exact BK350.out) hb);have n6_:=aK (bB (by (with_reducible repeat first|apply bN|apply bD|apply bA);exact BK365.out) hb);have n7_:=aK (below_step (by repeat (first|(with_reducible first|exact HB.out|apply bL|apply bM|apply b1|refine bS ?_ GE349.out|refine bS ?_ GE350.out|refine bS ?_ GE365.out)|exact HB.out)) hb);have n8_:=aK (hbox);have n9_:=aK ((by rw [hg];exact (below_size (by repeat (first|(with_reducible first|exact HB.out|apply bL|apply bM|apply b1|refine bS ?_ GE349.out|refine bS ?_ GE350.out|refine bS ?_ GE365.out)|exact HB.out))) : w.heap.size ≤ gb371));have n10_:=aK ((by rw [hg];exact (below_size (by repeat (first|(with_reducible first|exact HB.out|apply bL|apply bM|apply b1|refine bS ?_ GE349.out|refine bS ?_ GE350.out|refine bS ?_ GE365.out)|exact HB.out))) : w.heap.size ≤ gb371));have n11_:=aK ((by rw [hg];exact Nat.ne_of_lt (blk_lt (by (with_reducible repeat first|apply bN|apply bD|apply bA);exact BK349.out)) : gb349 ≠ gb371));have n12_:=aK ((by rw [hg];exact Nat.ne_of_gt (blk_lt (by (with_reducible repeat first|apply bN|apply bD|apply bA);exact BK349.out)) : gb371 ≠ gb349));have n13_:=aK ((by rw [hg];exact Nat.ne_of_lt (blk_lt (by (with_reducible repeat first|apply bN|apply bD|apply bA);exact BK350.out)) : gb350 ≠ gb371));have n14_:=aK ((by rw [hg];exact Nat.ne_of_gt (blk_lt (by (with_reducible repeat first|apply bN|apply bD|apply bA);exact BK350.out)) : gb371 ≠ gb350));have n15_:=aK ((by rw [hg];exact Nat.ne_of_lt (blk_lt (by (with_reducible repeat first|apply bN|apply bD|apply bA);exact BK365.out)) : gb365 ≠ gb371));have n16_:=aK ((by rw [hg];exact Nat.ne_of_gt (blk_lt (by (with_reducible repeat first|apply bN|apply bD|apply bA);exact BK365.out)) : gb371 ≠ gb365));clear HO355;clear HO360;clear HO364;clear HO370;clear BK349;clear BK350;clear BK365;clear HB;have HO355:=n0_;have HO360:=n1_;have HO364:=n2_;have HO370:=n3_;have BK349:=n4_;have BK350:=n5_;have BK365:=n6_;have HB:=n7_;have BK371:=n8_;have GW371:=n9_;have GE371:=n10_;have NB349_371:=n11_;have NB371_349:=n12_;have NB350_371:=n13_;have NB371_350:=n14_;have NB365_371:=n15_;have NB371_365:=n16_;clear n0_ n1_ n2_ n3_ n4_ n5_ n6_ n7_ n8_ n9_ n10_ n11_ n12_ n13_ n14_ n15_ n16_;clear hb hbox hg;have hnb131:=NB371_349.out;have hnc131:=NB349_371.out;have hnb132:=NB371_350.out;have hnc132:=NB350_371.out;have hnb133:=NB371_365.out;have hnc133:=NB365_371.out;have hcz134_0 : w130.cell? ⟨gb371,0,none⟩ = some (.int .i64 0):=(bC BK371.out 0).trans rfl;have hcz134_1 : w130.cell? ⟨gb371,1,none⟩ = some (.int .i64 0):=(bC BK371.out 1).trans rfl;have hcz134_2 : w130.cell? ⟨gb371,2,none⟩ = some (.slice none 0 0):=(bC BK371.out 2).trans rfl;have hfz134_0:=blk_frozen BK371.out 0;have hfz134_1:=blk_frozen BK371.out 1;have hfz134_2:=blk_frozen BK371.out 2;obtain ⟨Ao135,co135,eo135⟩:=Kd.R_slice HO370.out;subst eo135;have hcz136_0 : w130.cell? ⟨gb365,0,none⟩ = some (.slice Ao124 t362.length co124):=(bC BK365.out 0).trans rfl;have hfz136_0:=blk_frozen BK365.out 0)|((with_reducible refine gate_callee (f:=48) rfl ?_);refine goesL_ (some 31) rfl rfl Try.func48 (by kernel_rfl) rfl #[.agg #[.slice Ao124 t362.length co124],.agg #[.int .i64 t366,.int .i64 t367,.slice Ao135 t368.length co135]] rfl (by (try simp only [mA,mC,mN]);first|done|rfl) ?_;(with_reducible refine (impl_TurnOf.calls k _ _ t362 t366 t367 _ _ t368 t372 _ ?side1 ?side2 ?side3 ?side4 A24.out).mono ?_);(case side1=>refine (Kd.S_reads' (e:=22) (base:=w.heap.size) (ok:=fun k_=>(((True ∧ some k_ ≠ (.slice Ao118 t353.length co118 : Value).ownBlock) ∧ some k_ ≠ (.slice Ao119 t358.length co119 : Value).ownBlock) ∧ some k_ ≠ (.slice Ao135 t368.length co135 : Value).ownBlock)) (n:=t362.length) (c:=co124) ?_).2.2;exact (by (with_reducible repeat first|apply Kd.S_alloc|apply Kd.S_drewN|apply Kd.S_drew);exact (Kd.S_mono (Kd.S_far (p:=⟨gb371,2,none⟩) (Kd.S_far (p:=⟨gb371,1,none⟩) (Kd.S_far (p:=⟨gb371,0,none⟩) (Kd.S_types HO364.out BK371.out (by decide)) (fun _ hk=>by first|exact hk.2|(have h_:=hk;(try simp only [and_assoc,true_and] at h_);(repeat' apply And.intro) <;> with_reducible first|exact h_.1|exact h_.2.1|exact h_.2.2.1|exact h_.2.2.2.1|exact h_.2.2.2.2.1|exact h_.2.2.2.2.2.1|exact h_.2.2.2.2.2.2.1|exact h_.2.2.2.2.2.2.2.1|exact h_.2.2.2.2.2.2.2.2.1|exact h_.2|exact h_.2.2|exact h_.2.2.2|exact h_.2.2.2.2|exact h_.2.2.2.2.2|exact h_.2.2.2.2.2.2|exact h_.2.2.2.2.2.2.2|exact h_.2.2.2.2.2.2.2.2)) (.int .i64 t366)) (fun _ hk=>by first|exact hk.2|(have h_:=hk;(try simp only [and_assoc,true_and] at h_);(repeat' apply And.intro) <;> with_reducible first|exact h_.1|exact h_.2.1|exact h_.2.2.1|exact h_.2.2.2.1|exact h_.2.2.2.2.1|exact h_.2.2.2.2.2.1|exact h_.2.2.2.2.2.2.1|exact h_.2.2.2.2.2.2.2.1|exact h_.2.2.2.2.2.2.2.2.1|exact h_.2|exact h_.2.2|exact h_.2.2.2|exact h_.2.2.2.2|exact h_.2.2.2.2.2|exact h_.2.2.2.2.2.2|exact h_.2.2.2.2.2.2.2|exact h_.2.2.2.2.2.2.2.2)) (.int .i64 t367)) (fun _ hk=>by first|exact hk.2|(have h_:=hk;(try simp only [and_assoc,true_and] at h_);(repeat' apply And.intro) <;> with_reducible first|exact h_.1|exact h_.2.1|exact h_.2.2.1|exact h_.2.2.2.1|exact h_.2.2.2.2.1|exact h_.2.2.2.2.2.1|exact h_.2.2.2.2.2.2.1|exact h_.2.2.2.2.2.2.2.1|exact h_.2.2.2.2.2.2.2.2.1|exact h_.2|exact h_.2.2|exact h_.2.2.2|exact h_.2.2.2.2|exact h_.2.2.2.2.2|exact h_.2.2.2.2.2.2|exact h_.2.2.2.2.2.2.2|exact h_.2.2.2.2.2.2.2.2)) (.slice Ao135 t368.length co135)) (fun _ h_=>h_.1))));(case side2=>exact (Kd.S_reads' HO364.out).2.1);(case side3=>refine (Kd.R_reads' (e:=2) (base:=w.heap.size) (ok:=fun k_=>(True ∧ some k_ ≠ (.slice Ao119 t358.length co119 : Value).ownBlock)) (n:=t368.length) (c:=co135) ?_).2.2;exact (by (with_reducible repeat first|apply Kd.R_alloc|apply Kd.R_drewN|apply Kd.R_drew);exact (Kd.R_mono (Kd.R_far (p:=⟨gb371,2,none⟩) (Kd.R_far (p:=⟨gb371,1,none⟩) (Kd.R_far (p:=⟨gb371,0,none⟩) (Kd.R_types HO370.out BK371.out (by decide)) (fun _ hk=>by first|exact hk.2|(have h_:=hk;(try simp only [and_assoc,true_and] at h_);(repeat' apply And.intro) <;> with_reducible first|exact h_.1|exact h_.2.1|exact h_.2.2.1|exact h_.2.2.2.1|exact h_.2.2.2.2.1|exact h_.2.2.2.2.2.1|exact h_.2.2.2.2.2.2.1|exact h_.2.2.2.2.2.2.2.1|exact h_.2.2.2.2.2.2.2.2.1|exact h_.2|exact h_.2.2|exact h_.2.2.2|exact h_.2.2.2.2|exact h_.2.2.2.2.2|exact h_.2.2.2.2.2.2|exact h_.2.2.2.2.2.2.2|exact h_.2.2.2.2.2.2.2.2)) (.int .i64 t366)) (fun _ hk=>by first|exact hk.2|(have h_:=hk;(try simp only [and_assoc,true_and] at h_);(repeat' apply And.intro) <;> with_reducible first|exact h_.1|exact h_.2.1|exact h_.2.2.1|exact h_.2.2.2.1|exact h_.2.2.2.2.1|exact h_.2.2.2.2.2.1|exact h_.2.2.2.2.2.2.1|exact h_.2.2.2.2.2.2.2.1|exact h_.2.2.2.2.2.2.2.2.1|exact h_.2|exact h_.2.2|exact h_.2.2.2|exact h_.2.2.2.2|exact h_.2.2.2.2.2|exact h_.2.2.2.2.2.2|exact h_.2.2.2.2.2.2.2|exact h_.2.2.2.2.2.2.2.2)) (.int .i64 t367)) (fun _ hk=>by first|exact hk.2|(have h_:=hk;(try simp only [and_assoc,true_and] at h_);(repeat' apply And.intro) <;> with_reducible first|exact h_.1|exact h_.2.1|exact h_.2.2.1|exact h_.2.2.2.1|exact h_.2.2.2.2.1|exact h_.2.2.2.2.2.1|exact h_.2.2.2.2.2.2.1|exact h_.2.2.2.2.2.2.2.1|exact h_.2.2.2.2.2.2.2.2.1|exact h_.2|exact h_.2.2|exact h_.2.2.2|exact h_.2.2.2.2|exact h_.2.2.2.2.2|exact h_.2.2.2.2.2.2|exact h_.2.2.2.2.2.2.2|exact h_.2.2.2.2.2.2.2.2)) (.slice Ao135 t368.length co135)) (fun _ h_=>h_.1))));(case side4=>exact (Kd.R_reads' HO370.out).2.1);rintro e w137 ⟨rfl,hb⟩;refine ⟨_,rfl,?_⟩;have n0_:=aK (Kd.S_below (by (with_reducible repeat first|apply Kd.S_alloc|apply Kd.S_drewN|apply Kd.S_drew);exact (Kd.S_mono (Kd.S_far (p:=⟨gb371,2,none⟩) (Kd.S_far (p:=⟨gb371,1,none⟩) (Kd.S_far (p:=⟨gb371,0,none⟩) (Kd.S_types HO355.out BK371.out (by decide)) (fun _ hk=>by first|exact hk.2|(have h_:=hk;(try simp only [and_assoc,true_and] at h_);(repeat' apply And.intro) <;> with_reducible first|exact h_.1|exact h_.2.1|exact h_.2.2.1|exact h_.2.2.2.1|exact h_.2.2.2.2.1|exact h_.2.2.2.2.2.1|exact h_.2.2.2.2.2.2.1|exact h_.2.2.2.2.2.2.2.1|exact h_.2.2.2.2.2.2.2.2.1|exact h_.2|exact h_.2.2|exact h_.2.2.2|exact h_.2.2.2.2|exact h_.2.2.2.2.2|exact h_.2.2.2.2.2.2|exact h_.2.2.2.2.2.2.2|exact h_.2.2.2.2.2.2.2.2)) (.int .i64 t366)) (fun _ hk=>by first|exact hk.2|(have h_:=hk;(try simp only [and_assoc,true_and] at h_);(repeat' apply And.intro) <;> with_reducible first|exact h_.1|exact h_.2.1|exact h_.2.2.1|exact h_.2.2.2.1|exact h_.2.2.2.2.1|exact h_.2.2.2.2.2.1|exact h_.2.2.2.2.2.2.1|exact h_.2.2.2.2.2.2.2.1|exact h_.2.2.2.2.2.2.2.2.1|exact h_.2|exact h_.2.2|exact h_.2.2.2|exact h_.2.2.2.2|exact h_.2.2.2.2.2|exact h_.2.2.2.2.2.2|exact h_.2.2.2.2.2.2.2|exact h_.2.2.2.2.2.2.2.2)) (.int .i64 t367)) (fun _ hk=>by first|exact hk.2|(have h_:=hk;(try simp only [and_assoc,true_and] at h_);(repeat' apply And.intro) <;> with_reducible first|exact h_.1|exact h_.2.1|exact h_.2.2.1|exact h_.2.2.2.1|exact h_.2.2.2.2.1|exact h_.2.2.2.2.2.1|exact h_.2.2.2.2.2.2.1|exact h_.2.2.2.2.2.2.2.1|exact h_.2.2.2.2.2.2.2.2.1|exact h_.2|exact h_.2.2|exact h_.2.2.2|exact h_.2.2.2.2|exact h_.2.2.2.2.2|exact h_.2.2.2.2.2.2|exact h_.2.2.2.2.2.2.2|exact h_.2.2.2.2.2.2.2.2)) (.slice Ao135 t368.length co135)) (fun _ h_=>h_.1))) hb);have n1_:=aK (Kd.R_below (by (with_reducible repeat first|apply Kd.R_alloc|apply Kd.R_drewN|apply Kd.R_drew);exact (Kd.R_mono (Kd.R_far (p:=⟨gb371,2,none⟩) (Kd.R_far (p:=⟨gb371,1,none⟩) (Kd.R_far (p:=⟨gb371,0,none⟩) (Kd.R_types HO360.out BK371.out (by decide)) (fun _ hk=>by first|exact hk.2|(have h_:=hk;(try simp only [and_assoc,true_and] at h_);(repeat' apply And.intro) <;> with_reducible first|exact h_.1|exact h_.2.1|exact h_.2.2.1|exact h_.2.2.2.1|exact h_.2.2.2.2.1|exact h_.2.2.2.2.2.1|exact h_.2.2.2.2.2.2.1|exact h_.2.2.2.2.2.2.2.1|exact h_.2.2.2.2.2.2.2.2.1|exact h_.2|exact h_.2.2|exact h_.2.2.2|exact h_.2.2.2.2|exact h_.2.2.2.2.2|exact h_.2.2.2.2.2.2|exact h_.2.2.2.2.2.2.2|exact h_.2.2.2.2.2.2.2.2)) (.int .i64 t366)) (fun _ hk=>by first|exact hk.2|(have h_:=hk;(try simp only [and_assoc,true_and] at h_);(repeat' apply And.intro) <;> with_reducible first|exact h_.1|exact h_.2.1|exact h_.2.2.1|exact h_.2.2.2.1|exact h_.2.2.2.2.1|exact h_.2.2.2.2.2.1|exact h_.2.2.2.2.2.2.1|exact h_.2.2.2.2.2.2.2.1|exact h_.2.2.2.2.2.2.2.2.1|exact h_.2|exact h_.2.2|exact h_.2.2.2|exact h_.2.2.2.2|exact h_.2.2.2.2.2|exact h_.2.2.2.2.2.2|exact h_.2.2.2.2.2.2.2|exact h_.2.2.2.2.2.2.2.2)) (.int .i64 t367)) (fun _ hk=>by first|exact hk.2|(have h_:=hk;(try simp only [and_assoc,true_and] at h_);(repeat' apply And.intro) <;> with_reducible first|exact h_.1|exact h_.2.1|exact h_.2.2.1|exact h_.2.2.2.1|exact h_.2.2.2.2.1|exact h_.2.2.2.2.2.1|exact h_.2.2.2.2.2.2.1|exact h_.2.2.2.2.2.2.2.1|exact h_.2.2.2.2.2.2.2.2.1|exact h_.2|exact h_.2.2|exact h_.2.2.2|exact h_.2.2.2.2|exact h_.2.2.2.2.2|exact h_.2.2.2.2.2.2|exact h_.2.2.2.2.2.2.2|exact h_.2.2.2.2.2.2.2.2)) (.slice Ao135 t368.length co135)) (fun _ h_=>h_.1))) hb);have n2_:=aK (Kd.S_below (by (with_reducible repeat first|apply Kd.S_alloc|apply Kd.S_drewN|apply Kd.S_drew);exact (Kd.S_mono (Kd.S_far (p:=⟨gb371,2,none⟩) (Kd.S_far (p:=⟨gb371,1,none⟩) (Kd.S_far (p:=⟨gb371,0,none⟩) (Kd.S_types HO364.out BK371.out (by decide)) (fun _ hk=>by first|exact hk.2|(have h_:=hk;(try simp only [and_assoc,true_and] at h_);(repeat' apply And.intro) <;> with_reducible first|exact h_.1|exact h_.2.1|exact h_.2.2.1|exact h_.2.2.2.1|exact h_.2.2.2.2.1|exact h_.2.2.2.2.2.1|exact h_.2.2.2.2.2.2.1|exact h_.2.2.2.2.2.2.2.1|exact h_.2.2.2.2.2.2.2.2.1|exact h_.2|exact h_.2.2|exact h_.2.2.2|exact h_.2.2.2.2|exact h_.2.2.2.2.2|exact h_.2.2.2.2.2.2|exact h_.2.2.2.2.2.2.2|exact h_.2.2.2.2.2.2.2.2)) (.int .i64 t366)) (fun _ hk=>by first|exact hk.2|(have h_:=hk;(try simp only [and_assoc,true_and] at h_);(repeat' apply And.intro) <;> with_reducible first|exact h_.1|exact h_.2.1|exact h_.2.2.1|exact h_.2.2.2.1|exact h_.2.2.2.2.1|exact h_.2.2.2.2.2.1|exact h_.2.2.2.2.2.2.1|exact h_.2.2.2.2.2.2.2.1|exact h_.2.2.2.2.2.2.2.2.1|exact h_.2|exact h_.2.2|exact h_.2.2.2|exact h_.2.2.2.2|exact h_.2.2.2.2.2|exact h_.2.2.2.2.2.2|exact h_.2.2.2.2.2.2.2|exact h_.2.2.2.2.2.2.2.2)) (.int .i64 t367)) (fun _ hk=>by first|exact hk.2|(have h_:=hk;(try simp only [and_assoc,true_and] at h_);(repeat' apply And.intro) <;> with_reducible first|exact h_.1|exact h_.2.1|exact h_.2.2.1|exact h_.2.2.2.1|exact h_.2.2.2.2.1|exact h_.2.2.2.2.2.1|exact h_.2.2.2.2.2.2.1|exact h_.2.2.2.2.2.2.2.1|exact h_.2.2.2.2.2.2.2.2.1|exact h_.2|exact h_.2.2|exact h_.2.2.2|exact h_.2.2.2.2|exact h_.2.2.2.2.2|exact h_.2.2.2.2.2.2|exact h_.2.2.2.2.2.2.2|exact h_.2.2.2.2.2.2.2.2)) (.slice Ao135 t368.length co135)) (fun _ h_=>h_.1))) hb);have n3_:=aK (Kd.R_below (by (with_reducible repeat first|apply Kd.R_alloc|apply Kd.R_drewN|apply Kd.R_drew);exact (Kd.R_mono (Kd.R_far (p:=⟨gb371,2,none⟩) (Kd.R_far (p:=⟨gb371,1,none⟩) (Kd.R_far (p:=⟨gb371,0,none⟩) (Kd.R_types HO370.out BK371.out (by decide)) (fun _ hk=>by first|exact hk.2|(have h_:=hk;(try simp only [and_assoc,true_and] at h_);(repeat' apply And.intro) <;> with_reducible first|exact h_.1|exact h_.2.1|exact h_.2.2.1|exact h_.2.2.2.1|exact h_.2.2.2.2.1|exact h_.2.2.2.2.2.1|exact h_.2.2.2.2.2.2.1|exact h_.2.2.2.2.2.2.2.1|exact h_.2.2.2.2.2.2.2.2.1|exact h_.2|exact h_.2.2|exact h_.2.2.2|exact h_.2.2.2.2|exact h_.2.2.2.2.2|exact h_.2.2.2.2.2.2|exact h_.2.2.2.2.2.2.2|exact h_.2.2.2.2.2.2.2.2)) (.int .i64 t366)) (fun _ hk=>by first|exact hk.2|(have h_:=hk;(try simp only [and_assoc,true_and] at h_);(repeat' apply And.intro) <;> with_reducible first|exact h_.1|exact h_.2.1|exact h_.2.2.1|exact h_.2.2.2.1|exact h_.2.2.2.2.1|exact h_.2.2.2.2.2.1|exact h_.2.2.2.2.2.2.1|exact h_.2.2.2.2.2.2.2.1|exact h_.2.2.2.2.2.2.2.2.1|exact h_.2|exact h_.2.2|exact h_.2.2.2|exact h_.2.2.2.2|exact h_.2.2.2.2.2|exact h_.2.2.2.2.2.2|exact h_.2.2.2.2.2.2.2|exact h_.2.2.2.2.2.2.2.2)) (.int .i64 t367)) (fun _ hk=>by first|exact hk.2|(have h_:=hk;(try simp only [and_assoc,true_and] at h_);(repeat' apply And.intro) <;> with_reducible first|exact h_.1|exact h_.2.1|exact h_.2.2.1|exact h_.2.2.2.1|exact h_.2.2.2.2.1|exact h_.2.2.2.2.2.1|exact h_.2.2.2.2.2.2.1|exact h_.2.2.2.2.2.2.2.1|exact h_.2.2.2.2.2.2.2.2.1|exact h_.2|exact h_.2.2|exact h_.2.2.2|exact h_.2.2.2.2|exact h_.2.2.2.2.2|exact h_.2.2.2.2.2.2|exact h_.2.2.2.2.2.2.2|exact h_.2.2.2.2.2.2.2.2)) (.slice Ao135 t368.length co135)) (fun _ h_=>h_.1))) hb);have n4_:=aK (bB (g:=gb349) (o:=.cells #[.slice A0_0 l0_0.length c0_0] 41 (0,0)) (by (with_reducible repeat first|apply bN|apply bD|apply bA);refine blk_far ?_ NB349_371.out _;(with_reducible repeat first|apply bN|apply bD|apply bA);refine blk_far ?_ NB349_371.out _;(with_reducible repeat first|apply bN|apply bD|apply bA);refine blk_far ?_ NB349_371.out _;(with_reducible repeat first|apply bN|apply bD|apply bA);exact BK349.out) hb);have n5_:=aK (bB (g:=gb350) (o:=.cells #[.int .i64 a1_0,.int .i64 a1_1,.slice A1_2 l1_2.length c1_2] 24 (0,0)) (by (with_reducible repeat first|apply bN|apply bD|apply bA);refine blk_far ?_ NB350_371.out _;(with_reducible repeat first|apply bN|apply bD|apply bA);refine blk_far ?_ NB350_371.out _;(with_reducible repeat first|apply bN|apply bD|apply bA);refine blk_far ?_ NB350_371.out _;(with_reducible repeat first|apply bN|apply bD|apply bA);exact BK350.out) hb);have n6_:=aK (bB (g:=gb365) (o:=.cells #[.slice Ao124 t362.length co124] 44 (0,0)) (by (with_reducible repeat first|apply bN|apply bD|apply bA);refine blk_far ?_ NB365_371.out _;(with_reducible repeat first|apply bN|apply bD|apply bA);refine blk_far ?_ NB365_371.out _;(with_reducible repeat first|apply bN|apply bD|apply bA);refine blk_far ?_ NB365_371.out _;(with_reducible repeat first|apply bN|apply bD|apply bA);exact BK365.out) hb);have n7_:=aK (bB (g:=gb371) (o:=.cells #[.int .i64 t366,.int .i64 t367,.slice Ao135 t368.length co135] 27 (0,0)) (by (with_reducible repeat first|apply bN|apply bD|apply bA);refine blk_put (cs:=#[.int .i64 t366,.int .i64 t367,.slice none 0 0]) ?_ 2 _ rfl;(with_reducible repeat first|apply bN|apply bD|apply bA);refine blk_put (cs:=#[.int .i64 t366,.int .i64 0,.slice none 0 0]) ?_ 1 _ rfl;(with_reducible repeat first|apply bN|apply bD|apply bA);refine blk_put (cs:=#[.int .i64 0,.int .i64 0,.slice none 0 0]) ?_ 0 _ rfl;(with_reducible repeat first|apply bN|apply bD|apply bA);exact BK371.out) hb);have n8_:=aK (below_step (by repeat (first|(with_reducible first|exact HB.out|apply bL|apply bM|apply b1|refine bS ?_ GE349.out|refine bS ?_ GE350.out|refine bS ?_ GE365.out|refine bS ?_ GE371.out)|exact HB.out)) hb);clear HO355;clear HO360;clear HO364;clear HO370;clear BK349;clear BK350;clear BK365;clear BK371;clear HB;have HO355:=n0_;have HO360:=n1_;have HO364:=n2_;have HO370:=n3_;have BK349:=n4_;have BK350:=n5_;have BK365:=n6_;have BK371:=n7_;have HB:=n8_;clear n0_ n1_ n2_ n3_ n4_ n5_ n6_ n7_ n8_;(try clear hb);(try clear hb2);(try clear hk);(try clear hi)))
     have n0_:=aK (Kd.S_drew HO355.out)
     have n1_:=aK (Kd.R_drew HO360.out)
     have n2_:=aK (Kd.S_drew HO364.out)
     have n3_:=aK (Kd.R_drew HO370.out)
     have n4_:=aK (bD BK349.out)
     have n5_:=aK (bD BK350.out)
     have n6_:=aK (bD BK365.out)
     have n7_:=aK (bD BK371.out)
     have n8_:=aK (b1 HB.out)
     clear HO355
     clear HO360
     clear HO364
     clear HO370
     clear BK349
     clear BK350
     clear BK365
     clear BK371
     clear HB
     have HO355:=n0_
     have HO360:=n1_
     have HO364:=n2_
     have HO370:=n3_
     have BK349:=n4_
     have BK350:=n5_
     have BK365:=n6_
     have BK371:=n7_
     have HB:=n8_
     clear n0_ n1_ n2_ n3_ n4_ n5_ n6_ n7_ n8_
     refine start_ (n:=5) (S:=fun w'=>w'.cell? ⟨gb365,0,none⟩ = some (.slice Ao124 t362.length co124) ∧ w'.cell? ⟨gb349,0,none⟩ = some (.slice A0_0 l0_0.length c0_0)) (ds:=[]) #[false,false,false,false,false] (by kernel_rfl) rfl rfl ⟨(bC BK365.out 0).trans rfl,(bC BK349.out 0).trans rfl⟩ (fun hHeld=>?_)
     generalize w137.drew = w138 at HO355 HO360 HO364 HO370 BK349 BK350 BK365 BK371 HB hHeld ⊢
     refine take_ (i:=0) (N:=some 35) (v:=?_) (a':=?_) #[true,false,false,false,false] rfl rfl (by kernel_rfl) (fun _ _ _ h=>h) (Or.inl ⟨by rfl,?_⟩) hHeld ?_ ?_
     rotate_left
     ·rintro w' ⟨s0,s1⟩
      go_simp
      with_reducible rfl
     rotate_left
     ·simp only [Act.put,lA,l0',lS,i64_w,i32_w]
      rfl
     refine take_ (i:=1) (N:=some 36) (v:=?_) (a':=?_) #[true,true,false,false,false] rfl rfl (by kernel_rfl) (fun _ _ _ h=>h) (Or.inl ⟨by rfl,?_⟩) hHeld ?_ ?_
     rotate_left
     ·rintro w' ⟨s0,s1⟩
      go_simp
      with_reducible rfl
     rotate_left
     ·simp only [Act.put,lA,l0',lS,i64_w,i32_w]
      rfl
     refine one_ (i:=2) (N:=some 37) #[true,true,true,false,false] rfl rfl (by kernel_rfl) (by decide) (fun K hK=>?_)
     refine goes_ Try.func42 (by kernel_rfl) rfl #[.agg #[.slice A0_0 l0_0.length c0_0]] (by rfl) rfl rfl (by (try simp only [mA,mC,mN]);first|done|rfl) ?_
     with_reducible refine (laws_toDeal.calls k _ _ l0_0 t373 _ ?side1 ?side2 A26.out).mono ?_
     (case side1=>repeat (first|exact (Kd.C_below HR0_0.out HB.out)|(with_reducible refine Kd.C_alloc ?_ _)|(with_reducible refine Kd.C_drewN ?_ _)|(with_reducible refine Kd.C_drew ?_)))
     (case side2=>exact HC0_0.out)
     rintro e w139 ⟨v374,rfl,ho0,hb⟩
     refine ⟨_,rfl,?_⟩
     have n0_:=aK (Kd.S_elder' (by (with_reducible repeat first|apply Kd.S_alloc|apply Kd.S_drewN|apply Kd.S_drew);exact HO355.out) (Kd.S_base ho0) hb)
     have n1_:=aK (Kd.R_below (by (with_reducible repeat first|apply Kd.R_alloc|apply Kd.R_drewN|apply Kd.R_drew);exact HO360.out) hb)
     have n2_:=aK (Kd.S_elder' (by (with_reducible repeat first|apply Kd.S_alloc|apply Kd.S_drewN|apply Kd.S_drew);exact HO364.out) (Kd.S_base ho0) hb)
     have n3_:=aK (Kd.R_below (by (with_reducible repeat first|apply Kd.R_alloc|apply Kd.R_drewN|apply Kd.R_drew);exact HO370.out) hb)
     have n4_:=aK (Kd.S_lower (Kd.S_new' (Kd.S_new' (Kd.S_new' (Kd.S_new' ho0 (Kd.S_lt (by (with_reducible repeat first|apply Kd.S_alloc|apply Kd.S_drewN|apply Kd.S_drew);exact HO355.out))) (Kd.R_lt (by (with_reducible repeat first|apply Kd.R_alloc|apply Kd.R_drewN|apply Kd.R_drew);exact HO360.out))) (Kd.S_lt (by (with_reducible repeat first|apply Kd.S_alloc|apply Kd.S_drewN|apply Kd.S_drew);exact HO364.out))) (Kd.R_lt (by (with_reducible repeat first|apply Kd.R_alloc|apply Kd.R_drewN|apply Kd.R_drew);exact HO370.out))) (below_size (by repeat (first|(with_reducible first|exact HB.out|apply bL|apply bM|apply b1|refine bS ?_ GE349.out|refine bS ?_ GE350.out|refine bS ?_ GE365.out|refine bS ?_ GE371.out)|exact HB.out))))
     have n5_:=aK (bB (by (with_reducible repeat first|apply bN|apply bD|apply bA);exact BK349.out) hb)
     have n6_:=aK (bB (by (with_reducible repeat first|apply bN|apply bD|apply bA);exact BK350.out) hb)
     have n7_:=aK (bB (by (with_reducible repeat first|apply bN|apply bD|apply bA);exact BK365.out) hb)
     have n8_:=aK (bB (by (with_reducible repeat first|apply bN|apply bD|apply bA);exact BK371.out) hb)
     have n9_:=aK (below_step (by repeat (first|(with_reducible first|exact HB.out|apply bL|apply bM|apply b1|refine bS ?_ GE349.out|refine bS ?_ GE350.out|refine bS ?_ GE365.out|refine bS ?_ GE371.out)|exact HB.out)) hb)
     clear HO355
     clear HO360
     clear HO364
     clear HO370
     clear BK349
     clear BK350
     clear BK365
     clear BK371
     clear HB
     have HO355:=n0_
     have HO360:=n1_
     have HO364:=n2_
     have HO370:=n3_
     have HO375:=n4_
     have BK349:=n5_
     have BK350:=n6_
     have BK365:=n7_
     have BK371:=n8_
     have HB:=n9_
     clear n0_ n1_ n2_ n3_ n4_ n5_ n6_ n7_ n8_ n9_
     (try clear hb)
     (try clear hb2)
     (try clear hk)
     (try clear hi)
     (try clear ho0)
     obtain ⟨Ao140,co140,eo140⟩:=Kd.S_slice HO375.out
     (first|subst eo140|(injection eo140 with f1_ f2_ f3_;have f4_:=f1_.symm;have f5_:=f3_.symm;clear f1_ f2_ f3_;subst f4_;subst f5_))
     refine hK.out _ _ ⟨(bC BK365.out 0).trans rfl,(bC BK349.out 0).trans rfl⟩ (fun hHeld=>?_)
     clear hK K
     refine norm_ (a':=?_) ?_ ?_
     rotate_left
     ·show Act.put _ (some 37) _ = _
      simp only [Act.put,lA,l0',lS,i64_w,i32_w]
      rfl
     refine one_ (i:=3) (N:=some 38) #[true,true,true,true,false] rfl rfl (by kernel_rfl) (by decide) (fun K hK=>?_)
     refine goes_ Try.func44 (by kernel_rfl) rfl #[.agg #[.slice Ao124 t362.length co124],.agg #[.slice Ao140 t373.length co140]] (by rfl) rfl rfl (by (try simp only [mA,mC,mN]);first|done|rfl) ?_
     with_reducible refine (laws_eqDeal.calls k _ _ t362 _ _ t373 false _ ?side1 ?side2 ?side3 ?side4 A27.out).mono ?_
     (case side1=>repeat (first|exact (Kd.S_reads' HO364.out).2.2|(with_reducible refine Kd.C_alloc ?_ _)|(with_reducible refine Kd.C_drewN ?_ _)|(with_reducible refine Kd.C_drew ?_)))
     (case side2=>exact (Kd.S_reads' HO364.out).2.1)
     (case side3=>repeat (first|exact (Kd.S_reads' HO375.out).2.2|(with_reducible refine Kd.C_alloc ?_ _)|(with_reducible refine Kd.C_drewN ?_ _)|(with_reducible refine Kd.C_drew ?_)))
     (case side4=>exact (Kd.S_reads' HO375.out).2.1)
     rintro e w141 ⟨rfl,hb⟩
     refine ⟨_,rfl,?_⟩
     have n0_:=aK (Kd.S_below (by (with_reducible repeat first|apply Kd.S_alloc|apply Kd.S_drewN|apply Kd.S_drew);exact HO355.out) hb)
     have n1_:=aK (Kd.R_below (by (with_reducible repeat first|apply Kd.R_alloc|apply Kd.R_drewN|apply Kd.R_drew);exact HO360.out) hb)
     have n2_:=aK (Kd.S_below (by (with_reducible repeat first|apply Kd.S_alloc|apply Kd.S_drewN|apply Kd.S_drew);exact HO364.out) hb)
     have n3_:=aK (Kd.R_below (by (with_reducible repeat first|apply Kd.R_alloc|apply Kd.R_drewN|apply Kd.R_drew);exact HO370.out) hb)
     have n4_:=aK (Kd.S_below (by (with_reducible repeat first|apply Kd.S_alloc|apply Kd.S_drewN|apply Kd.S_drew);exact HO375.out) hb)
     have n5_:=aK (bB (by (with_reducible repeat first|apply bN|apply bD|apply bA);exact BK349.out) hb)
     have n6_:=aK (bB (by (with_reducible repeat first|apply bN|apply bD|apply bA);exact BK350.out) hb)
     have n7_:=aK (bB (by (with_reducible repeat first|apply bN|apply bD|apply bA);exact BK365.out) hb)
     have n8_:=aK (bB (by (with_reducible repeat first|apply bN|apply bD|apply bA);exact BK371.out) hb)
     have n9_:=aK (below_step (by repeat (first|(with_reducible first|exact HB.out|apply bL|apply bM|apply b1|refine bS ?_ GE349.out|refine bS ?_ GE350.out|refine bS ?_ GE365.out|refine bS ?_ GE371.out)|exact HB.out)) hb)
     clear HO355
     clear HO360
     clear HO364
     clear HO370
     clear HO375
     clear BK349
     clear BK350
     clear BK365
     clear BK371
     clear HB
     have HO355:=n0_
     have HO360:=n1_
     have HO364:=n2_
     have HO370:=n3_
     have HO375:=n4_
     have BK349:=n5_
     have BK350:=n6_
     have BK365:=n7_
     have BK371:=n8_
     have HB:=n9_
     clear n0_ n1_ n2_ n3_ n4_ n5_ n6_ n7_ n8_ n9_
     (try clear hb)
     (try clear hb2)
     (try clear hk)
     (try clear hi)
     refine hK.out _ _ ⟨(bC BK365.out 0).trans rfl,(bC BK349.out 0).trans rfl⟩ (fun hHeld=>?_)
     clear hK K
     refine norm_ (a':=?_) ?_ ?_
     rotate_left
     ·show Act.put _ (some 38) _ = _
      simp only [Act.put,lA,l0',lS,i64_w,i32_w]
      rfl
     refine pure_ (i:=4) (N:=some 39) (v:=?_) (a':=?_) #[true,true,true,true,true] rfl rfl (by kernel_rfl) (fun _ _ _ h=>h) (Or.inl ⟨by rfl,?_⟩) ?_ ?_
     rotate_left
     ·intro w'
      go_simp
      with_reducible rfl
     rotate_left
     ·simp only [Act.put,lA,l0',lS,i64_w,i32_w]
      rfl
     refine done_ (by kernel_rfl) ?_
     try go_wp2
     go_ret
     exact ⟨by first|rfl|(simp [errW_none,errW_some] <;> rfl)|(simp [*,errW_none,errW_some] <;> rfl),by repeat (first|(with_reducible first|exact HB.out|apply bL|apply bM|apply b1|refine bS ?_ GE349.out|refine bS ?_ GE350.out|refine bS ?_ GE365.out|refine bS ?_ GE371.out)|exact HB.out)⟩
   ·rw [if_neg c25] at H
    have c25b0 : (t372 == t361) = false:=beq_eq_false_iff_ne.mpr c25
    have c25b1 : (t372 != t361) = true:=bne_iff_ne.mpr c25
    obtain rfl:=Option.some.inj H
    go_enter Try.func10,Try.ntmps10
    try go_wp2_with (first|((with_reducible refine gate_dst (N:=2) rfl ?_);refine box_event ?hg (N:=2) ?hd (cs:=#[.slice A0_0 l0_0.length c0_0]) (t:=41) ?hr ?_;(case hd=>rfl);(case hg=>rfl);(case hr=>first|(go_simp;done)|(go_simp;rfl));intro gb349 hg w142 hbox hb;have n0_:=aK (below_step (by repeat (first|(with_reducible first|exact HB.out|apply bL|apply bM|apply b1)|exact HB.out)) hb);have n1_:=aK (hbox);have n2_:=aK ((by rw [hg];exact (below_size (by repeat (first|(with_reducible first|exact HB.out|apply bL|apply bM|apply b1)|exact HB.out))) : w.heap.size ≤ gb349));have n3_:=aK ((by rw [hg];exact (below_size (by repeat (first|(with_reducible first|exact HB.out|apply bL|apply bM|apply b1)|exact HB.out))) : w.heap.size ≤ gb349));clear HB;have HB:=n0_;have BK349:=n1_;have GW349:=n2_;have GE349:=n3_;clear n0_ n1_ n2_ n3_;clear hb hbox hg)|((with_reducible refine gate_dst (N:=3) rfl ?_);refine box_event ?hg (N:=3) ?hd (cs:=#[.int .i64 a1_0,.int .i64 a1_1,.slice A1_2 l1_2.length c1_2]) (t:=24) ?hr ?_;(case hd=>rfl);(case hg=>rfl);(case hr=>first|(go_simp;done)|(go_simp;rfl));intro gb350 hg w143 hbox hb;have n0_:=aK (bB (by (with_reducible repeat first|apply bN|apply bD|apply bA);exact BK349.out) hb);have n1_:=aK (below_step (by repeat (first|(with_reducible first|exact HB.out|apply bL|apply bM|apply b1|refine bS ?_ GE349.out)|exact HB.out)) hb);have n2_:=aK (hbox);have n3_:=aK ((by rw [hg];exact (below_size (by repeat (first|(with_reducible first|exact HB.out|apply bL|apply bM|apply b1|refine bS ?_ GE349.out)|exact HB.out))) : w.heap.size ≤ gb350));have n4_:=aK ((by rw [hg];exact (below_size (by repeat (first|(with_reducible first|exact HB.out|apply bL|apply bM|apply b1|refine bS ?_ GE349.out)|exact HB.out))) : w.heap.size ≤ gb350));have n5_:=aK ((by rw [hg];exact Nat.ne_of_lt (blk_lt (by (with_reducible repeat first|apply bN|apply bD|apply bA);exact BK349.out)) : gb349 ≠ gb350));have n6_:=aK ((by rw [hg];exact Nat.ne_of_gt (blk_lt (by (with_reducible repeat first|apply bN|apply bD|apply bA);exact BK349.out)) : gb350 ≠ gb349));clear BK349;clear HB;have BK349:=n0_;have HB:=n1_;have BK350:=n2_;have GW350:=n3_;have GE350:=n4_;have NB349_350:=n5_;have NB350_349:=n6_;clear n0_ n1_ n2_ n3_ n4_ n5_ n6_;clear hb hbox hg;have hnb144:=NB349_350.out;have hnc144:=NB350_349.out;have hcz145_0 : w143.cell? ⟨gb349,0,none⟩ = some (.slice A0_0 l0_0.length c0_0):=(bC BK349.out 0).trans rfl;have hfz145_0:=blk_frozen BK349.out 0)|((with_reducible refine gate_callee (f:=40) rfl ?_);refine goesL_ (some 12) rfl rfl Try.func40 (by kernel_rfl) rfl #[.agg #[.slice A0_0 l0_0.length c0_0],.int .i64 1048576] rfl (by (try simp only [mA,mC,mN]);first|done|rfl) ?_;(with_reducible refine (laws_szDeal.calls k _ _ l0_0 1048576 t351 _ ?side1 ?side2 A3.out).mono ?_);(case side1=>repeat (first|exact (Kd.C_below HR0_0.out HB.out)|(with_reducible refine Kd.C_alloc ?_ _)|(with_reducible refine Kd.C_drewN ?_ _)|(with_reducible refine Kd.C_drew ?_)));(case side2=>exact HC0_0.out);rintro e w146 ⟨rfl,hb⟩;refine ⟨_,rfl,?_⟩;have n0_:=aK (bB (by (with_reducible repeat first|apply bN|apply bD|apply bA);exact BK349.out) hb);have n1_:=aK (bB (by (with_reducible repeat first|apply bN|apply bD|apply bA);exact BK350.out) hb);have n2_:=aK (below_step (by repeat (first|(with_reducible first|exact HB.out|apply bL|apply bM|apply b1|refine bS ?_ GE349.out|refine bS ?_ GE350.out)|exact HB.out)) hb);clear BK349;clear BK350;clear HB;have BK349:=n0_;have BK350:=n1_;have HB:=n2_;clear n0_ n1_ n2_;(try clear hb);(try clear hb2);(try clear hk);(try clear hi);have hcz147_0 : w146.cell? ⟨gb350,0,none⟩ = some (.int .i64 a1_0):=(bC BK350.out 0).trans rfl;have hcz147_1 : w146.cell? ⟨gb350,1,none⟩ = some (.int .i64 a1_1):=(bC BK350.out 1).trans rfl;have hcz147_2 : w146.cell? ⟨gb350,2,none⟩ = some (.slice A1_2 l1_2.length c1_2):=(bC BK350.out 2).trans rfl;have hfz147_0:=blk_frozen BK350.out 0;have hfz147_1:=blk_frozen BK350.out 1;have hfz147_2:=blk_frozen BK350.out 2)|((with_reducible refine gate_callee (f:=22) rfl ?_);refine goesL_ (some 17) rfl rfl Try.func22 (by kernel_rfl) rfl #[.agg #[.int .i64 a1_0,.int .i64 a1_1,.slice A1_2 l1_2.length c1_2],.int .i64 t351] rfl (by (try simp only [mA,mC,mN]);first|done|rfl) ?_;(with_reducible refine (laws_szPlay.calls a1_0 a1_1 _ _ l1_2 t351 t352 _ ?side1 ?side2 A10.out).mono ?_);(case side1=>repeat (first|exact (Kd.C_below HR1_2.out HB.out)|(with_reducible refine Kd.C_alloc ?_ _)|(with_reducible refine Kd.C_drewN ?_ _)|(with_reducible refine Kd.C_drew ?_)));(case side2=>exact HC1_2.out);rintro e w148 ⟨rfl,hb⟩;refine ⟨_,rfl,?_⟩;have n0_:=aK (bB (by (with_reducible repeat first|apply bN|apply bD|apply bA);exact BK349.out) hb);have n1_:=aK (bB (by (with_reducible repeat first|apply bN|apply bD|apply bA);exact BK350.out) hb);have n2_:=aK (below_step (by repeat (first|(with_reducible first|exact HB.out|apply bL|apply bM|apply b1|refine bS ?_ GE349.out|refine bS ?_ GE350.out)|exact HB.out)) hb);clear BK349;clear BK350;clear HB;have BK349:=n0_;have BK350:=n1_;have HB:=n2_;clear n0_ n1_ n2_;(try clear hb);(try clear hb2);(try clear hk);(try clear hi)))
    have n0_:=aK (bD BK349.out)
    have n1_:=aK (bD BK350.out)
    have n2_:=aK (b1 HB.out)
    clear BK349
    clear BK350
    clear HB
    have BK349:=n0_
    have BK350:=n1_
    have HB:=n2_
    clear n0_ n1_ n2_
    refine start_ (n:=6) (S:=fun w'=>w'.cell? ⟨gb349,0,none⟩ = some (.slice A0_0 l0_0.length c0_0) ∧ w'.cell? ⟨gb350,0,none⟩ = some (.int .i64 a1_0) ∧ w'.cell? ⟨gb350,1,none⟩ = some (.int .i64 a1_1) ∧ w'.cell? ⟨gb350,2,none⟩ = some (.slice A1_2 l1_2.length c1_2)) (ds:=[]) #[false,false,false,false,false,false] (by kernel_rfl) rfl rfl ⟨(bC BK349.out 0).trans rfl,(bC BK350.out 0).trans rfl,(bC BK350.out 1).trans rfl,(bC BK350.out 2).trans rfl⟩ (fun hHeld=>?_)
    generalize w148.drew = w149 at BK349 BK350 HB hHeld ⊢
    refine take_ (i:=0) (N:=some 20) (v:=?_) (a':=?_) #[true,false,false,false,false,false] rfl rfl (by kernel_rfl) (fun _ _ _ h=>h) (Or.inl ⟨by rfl,?_⟩) hHeld ?_ ?_
    rotate_left
    ·rintro w' ⟨s0,s1,s2,s3⟩
     go_simp
     with_reducible rfl
    rotate_left
    ·simp only [Act.put,lA,l0',lS,i64_w,i32_w]
     rfl
    refine take_ (i:=2) (N:=some 22) (v:=?_) (a':=?_) #[true,false,true,false,false,false] rfl rfl (by kernel_rfl) (fun _ _ _ h=>h) (Or.inl ⟨by rfl,?_⟩) hHeld ?_ ?_
    rotate_left
    ·rintro w' ⟨s0,s1,s2,s3⟩
     go_simp
     with_reducible rfl
    rotate_left
    ·simp only [Act.put,lA,l0',lS,i64_w,i32_w]
     rfl
    refine one_ (i:=1) (N:=some 21) #[true,true,true,false,false,false] rfl rfl (by kernel_rfl) (by decide) (fun K hK=>?_)
    refine goes_ Try.func42 (by kernel_rfl) rfl #[.agg #[.slice A0_0 l0_0.length c0_0]] (by rfl) rfl rfl (by (try simp only [mA,mC,mN]);first|done|rfl) ?_
    with_reducible refine (laws_toDeal.calls k _ _ l0_0 t353 _ ?side1 ?side2 A19.out).mono ?_
    (case side1=>repeat (first|exact (Kd.C_below HR0_0.out HB.out)|(with_reducible refine Kd.C_alloc ?_ _)|(with_reducible refine Kd.C_drewN ?_ _)|(with_reducible refine Kd.C_drew ?_)))
    (case side2=>exact HC0_0.out)
    rintro e w150 ⟨v354,rfl,ho0,hb⟩
    refine ⟨_,rfl,?_⟩
    have n0_:=aK (Kd.S_lower ho0 (below_size (by repeat (first|(with_reducible first|exact HB.out|apply bL|apply bM|apply b1|refine bS ?_ GE349.out|refine bS ?_ GE350.out)|exact HB.out))))
    have n1_:=aK (bB (by (with_reducible repeat first|apply bN|apply bD|apply bA);exact BK349.out) hb)
    have n2_:=aK (bB (by (with_reducible repeat first|apply bN|apply bD|apply bA);exact BK350.out) hb)
    have n3_:=aK (below_step (by repeat (first|(with_reducible first|exact HB.out|apply bL|apply bM|apply b1|refine bS ?_ GE349.out|refine bS ?_ GE350.out)|exact HB.out)) hb)
    clear BK349
    clear BK350
    clear HB
    have HO355:=n0_
    have BK349:=n1_
    have BK350:=n2_
    have HB:=n3_
    clear n0_ n1_ n2_ n3_
    (try clear hb)
    (try clear hb2)
    (try clear hk)
    (try clear hi)
    (try clear ho0)
    refine hK.out _ _ ⟨(bC BK349.out 0).trans rfl,(bC BK350.out 0).trans rfl,(bC BK350.out 1).trans rfl,(bC BK350.out 2).trans rfl⟩ (fun hHeld=>?_)
    clear hK K
    refine norm_ (a':=?_) ?_ ?_
    rotate_left
    ·show Act.put _ (some 21) _ = _
     simp only [Act.put,lA,l0',lS,i64_w,i32_w]
     rfl
    refine one_ (i:=3) (N:=some 23) #[true,true,true,true,false,false] rfl rfl (by kernel_rfl) (by decide) (fun K hK=>?_)
    refine goes_ Try.func24 (by kernel_rfl) rfl #[.agg #[.int .i64 a1_0,.int .i64 a1_1,.slice A1_2 l1_2.length c1_2]] (by rfl) rfl rfl (by (try simp only [mA,mC,mN]);first|done|rfl) ?_
    with_reducible refine (laws_toPlay.calls k a1_0 a1_1 _ _ l1_2 t356 t357 t358 _ ?side1 ?side2 A20.out).mono ?_
    (case side1=>repeat (first|exact (Kd.C_below HR1_2.out HB.out)|(with_reducible refine Kd.C_alloc ?_ _)|(with_reducible refine Kd.C_drewN ?_ _)|(with_reducible refine Kd.C_drew ?_)))
    (case side2=>exact HC1_2.out)
    rintro e w151 ⟨v359,rfl,ho0,hb⟩
    refine ⟨_,rfl,?_⟩
    have n0_:=aK (Kd.S_elder' (by (with_reducible repeat first|apply Kd.S_alloc|apply Kd.S_drewN|apply Kd.S_drew);exact HO355.out) (Kd.R_base ho0) hb)
    have n1_:=aK (Kd.R_lower ho0 (below_size (by repeat (first|(with_reducible first|exact HB.out|apply bL|apply bM|apply b1|refine bS ?_ GE349.out|refine bS ?_ GE350.out)|exact HB.out))))
    have n2_:=aK (bB (by (with_reducible repeat first|apply bN|apply bD|apply bA);exact BK349.out) hb)
    have n3_:=aK (bB (by (with_reducible repeat first|apply bN|apply bD|apply bA);exact BK350.out) hb)
    have n4_:=aK (below_step (by repeat (first|(with_reducible first|exact HB.out|apply bL|apply bM|apply b1|refine bS ?_ GE349.out|refine bS ?_ GE350.out)|exact HB.out)) hb)
    clear HO355
    clear BK349
    clear BK350
    clear HB
    have HO355:=n0_
    have HO360:=n1_
    have BK349:=n2_
    have BK350:=n3_
    have HB:=n4_
    clear n0_ n1_ n2_ n3_ n4_
    (try clear hb)
    (try clear hb2)
    (try clear hk)
    (try clear hi)
    (try clear ho0)
    obtain ⟨Ao152,co152,eo152⟩:=Kd.S_slice HO355.out
    (first|subst eo152|(injection eo152 with f1_ f2_ f3_;have f4_:=f1_.symm;have f5_:=f3_.symm;clear f1_ f2_ f3_;subst f4_;subst f5_))
    obtain ⟨Ao153,co153,eo153⟩:=Kd.R_slice HO360.out
    (first|subst eo153|(injection eo153 with f1_ f2_ f3_;have f4_:=f1_.symm;have f5_:=f3_.symm;clear f1_ f2_ f3_;subst f4_;subst f5_))
    refine hK.out _ _ ⟨(bC BK349.out 0).trans rfl,(bC BK350.out 0).trans rfl,(bC BK350.out 1).trans rfl,(bC BK350.out 2).trans rfl⟩ (fun hHeld=>?_)
    clear hK K
    refine norm_ (a':=?_) ?_ ?_
    rotate_left
    ·show Act.put _ (some 23) _ = _
     simp only [Act.put,lA,l0',lS,i64_w,i32_w]
     rfl
    refine one_ (i:=4) (N:=some 24) #[true,true,true,true,true,false] rfl rfl (by kernel_rfl) (by decide) (fun K hK=>?_)
    refine goes_ Try.func47 (by kernel_rfl) rfl #[.agg #[.slice Ao152 t353.length co152],.agg #[.int .i64 t356,.int .i64 t357,.slice Ao153 t358.length co153]] (by rfl) rfl rfl (by (try simp only [mA,mC,mN]);first|done|rfl) ?_
    with_reducible refine (spec_TurnOf.calls k _ _ t353 t356 t357 _ _ t358 t361 _ ?side1 ?side2 ?side3 ?side4 A21.out).mono ?_
    (case side1=>repeat (first|exact (Kd.S_reads' HO355.out).2.2|(with_reducible refine Kd.C_alloc ?_ _)|(with_reducible refine Kd.C_drewN ?_ _)|(with_reducible refine Kd.C_drew ?_)))
    (case side2=>exact (Kd.S_reads' HO355.out).2.1)
    (case side3=>repeat (first|exact (Kd.R_reads' HO360.out).2.2|(with_reducible refine Kd.C_alloc ?_ _)|(with_reducible refine Kd.C_drewN ?_ _)|(with_reducible refine Kd.C_drew ?_)))
    (case side4=>exact (Kd.R_reads' HO360.out).2.1)
    rintro e w154 ⟨rfl,hb⟩
    refine ⟨_,rfl,?_⟩
    have n0_:=aK (Kd.S_below (by (with_reducible repeat first|apply Kd.S_alloc|apply Kd.S_drewN|apply Kd.S_drew);exact HO355.out) hb)
    have n1_:=aK (Kd.R_below (by (with_reducible repeat first|apply Kd.R_alloc|apply Kd.R_drewN|apply Kd.R_drew);exact HO360.out) hb)
    have n2_:=aK (bB (by (with_reducible repeat first|apply bN|apply bD|apply bA);exact BK349.out) hb)
    have n3_:=aK (bB (by (with_reducible repeat first|apply bN|apply bD|apply bA);exact BK350.out) hb)
    have n4_:=aK (below_step (by repeat (first|(with_reducible first|exact HB.out|apply bL|apply bM|apply b1|refine bS ?_ GE349.out|refine bS ?_ GE350.out)|exact HB.out)) hb)
    clear HO355
    clear HO360
    clear BK349
    clear BK350
    clear HB
    have HO355:=n0_
    have HO360:=n1_
    have BK349:=n2_
    have BK350:=n3_
    have HB:=n4_
    clear n0_ n1_ n2_ n3_ n4_
    (try clear hb)
    (try clear hb2)
    (try clear hk)
    (try clear hi)
    refine hK.out _ _ ⟨(bC BK349.out 0).trans rfl,(bC BK350.out 0).trans rfl,(bC BK350.out 1).trans rfl,(bC BK350.out 2).trans rfl⟩ (fun hHeld=>?_)
    clear hK K
    refine norm_ (a':=?_) ?_ ?_
    rotate_left
    ·show Act.put _ (some 24) _ = _
     simp only [Act.put,lA,l0',lS,i64_w,i32_w]
     rfl
    refine pure_ (i:=5) (N:=some 6) (v:=?_) (a':=?_) #[true,true,true,true,true,true] rfl rfl (by kernel_rfl) (fun _ _ _ h=>h) (Or.inl ⟨by rfl,?_⟩) ?_ ?_
    rotate_left
    ·intro w'
     go_simp
     with_reducible rfl
    rotate_left
    ·simp only [Act.put,lA,l0',lS,i64_w,i32_w]
     rfl
    refine done_ (by kernel_rfl) ?_
    have hcz155_0 : w154.cell? ⟨gb349,0,none⟩ = some (.slice A0_0 l0_0.length c0_0):=(bC BK349.out 0).trans rfl
    have hfz155_0:=blk_frozen BK349.out 0
    try go_wp2_with (first|((with_reducible refine gate_callee (f:=42) rfl ?_);refine goesL_ (some 26) rfl rfl Try.func42 (by kernel_rfl) rfl #[.agg #[.slice A0_0 l0_0.length c0_0]] rfl (by (try simp only [mA,mC,mN]);first|done|rfl) ?_;(with_reducible refine (laws_toDeal.calls k _ _ l0_0 t362 _ ?side1 ?side2 A22.out).mono ?_);(case side1=>repeat (first|exact (Kd.C_below HR0_0.out HB.out)|(with_reducible refine Kd.C_alloc ?_ _)|(with_reducible refine Kd.C_drewN ?_ _)|(with_reducible refine Kd.C_drew ?_)));(case side2=>exact HC0_0.out);rintro e w156 ⟨v363,rfl,ho0,hb⟩;refine ⟨_,rfl,?_⟩;have n0_:=aK (Kd.S_elder' (by (with_reducible repeat first|apply Kd.S_alloc|apply Kd.S_drewN|apply Kd.S_drew);exact HO355.out) (Kd.S_base ho0) hb);have n1_:=aK (Kd.R_below (by (with_reducible repeat first|apply Kd.R_alloc|apply Kd.R_drewN|apply Kd.R_drew);exact HO360.out) hb);have n2_:=aK (Kd.S_lower (Kd.S_new' (Kd.S_new' ho0 (Kd.S_lt (by (with_reducible repeat first|apply Kd.S_alloc|apply Kd.S_drewN|apply Kd.S_drew);exact HO355.out))) (Kd.R_lt (by (with_reducible repeat first|apply Kd.R_alloc|apply Kd.R_drewN|apply Kd.R_drew);exact HO360.out))) (below_size (by repeat (first|(with_reducible first|exact HB.out|apply bL|apply bM|apply b1|refine bS ?_ GE349.out|refine bS ?_ GE350.out)|exact HB.out))));have n3_:=aK (bB (by (with_reducible repeat first|apply bN|apply bD|apply bA);exact BK349.out) hb);have n4_:=aK (bB (by (with_reducible repeat first|apply bN|apply bD|apply bA);exact BK350.out) hb);have n5_:=aK (below_step (by repeat (first|(with_reducible first|exact HB.out|apply bL|apply bM|apply b1|refine bS ?_ GE349.out|refine bS ?_ GE350.out)|exact HB.out)) hb);clear HO355;clear HO360;clear BK349;clear BK350;clear HB;have HO355:=n0_;have HO360:=n1_;have HO364:=n2_;have BK349:=n3_;have BK350:=n4_;have HB:=n5_;clear n0_ n1_ n2_ n3_ n4_ n5_;(try clear hb);(try clear hb2);(try clear hk);(try clear hi);(try clear ho0))|((with_reducible refine gate_dst (N:=7) rfl ?_);refine box_event ?hg (N:=7) ?hd (cs:=#[.slice none 0 0]) (t:=44) ?hr ?_;(case hd=>rfl);(case hg=>rfl);(case hr=>first|(go_simp;done)|(go_simp;rfl));intro gb365 hg w157 hbox hb;have n0_:=aK (Kd.S_below (by (with_reducible repeat first|apply Kd.S_alloc|apply Kd.S_drewN|apply Kd.S_drew);exact HO355.out) hb);have n1_:=aK (Kd.R_below (by (with_reducible repeat first|apply Kd.R_alloc|apply Kd.R_drewN|apply Kd.R_drew);exact HO360.out) hb);have n2_:=aK (Kd.S_below (by (with_reducible repeat first|apply Kd.S_alloc|apply Kd.S_drewN|apply Kd.S_drew);exact HO364.out) hb);have n3_:=aK (bB (by (with_reducible repeat first|apply bN|apply bD|apply bA);exact BK349.out) hb);have n4_:=aK (bB (by (with_reducible repeat first|apply bN|apply bD|apply bA);exact BK350.out) hb);have n5_:=aK (below_step (by repeat (first|(with_reducible first|exact HB.out|apply bL|apply bM|apply b1|refine bS ?_ GE349.out|refine bS ?_ GE350.out)|exact HB.out)) hb);have n6_:=aK (hbox);have n7_:=aK ((by rw [hg];exact (below_size (by repeat (first|(with_reducible first|exact HB.out|apply bL|apply bM|apply b1|refine bS ?_ GE349.out|refine bS ?_ GE350.out)|exact HB.out))) : w.heap.size ≤ gb365));have n8_:=aK ((by rw [hg];exact (below_size (by repeat (first|(with_reducible first|exact HB.out|apply bL|apply bM|apply b1|refine bS ?_ GE349.out|refine bS ?_ GE350.out)|exact HB.out))) : w.heap.size ≤ gb365));have n9_:=aK ((by rw [hg];exact Nat.ne_of_lt (blk_lt (by (with_reducible repeat first|apply bN|apply bD|apply bA);exact BK349.out)) : gb349 ≠ gb365));have n10_:=aK ((by rw [hg];exact Nat.ne_of_gt (blk_lt (by (with_reducible repeat first|apply bN|apply bD|apply bA);exact BK349.out)) : gb365 ≠ gb349));have n11_:=aK ((by rw [hg];exact Nat.ne_of_lt (blk_lt (by (with_reducible repeat first|apply bN|apply bD|apply bA);exact BK350.out)) : gb350 ≠ gb365));have n12_:=aK ((by rw [hg];exact Nat.ne_of_gt (blk_lt (by (with_reducible repeat first|apply bN|apply bD|apply bA);exact BK350.out)) : gb365 ≠ gb350));clear HO355;clear HO360;clear HO364;clear BK349;clear BK350;clear HB;have HO355:=n0_;have HO360:=n1_;have HO364:=n2_;have BK349:=n3_;have BK350:=n4_;have HB:=n5_;have BK365:=n6_;have GW365:=n7_;have GE365:=n8_;have NB349_365:=n9_;have NB365_349:=n10_;have NB350_365:=n11_;have NB365_350:=n12_;clear n0_ n1_ n2_ n3_ n4_ n5_ n6_ n7_ n8_ n9_ n10_ n11_ n12_;clear hb hbox hg;obtain ⟨Ao158,co158,eo158⟩:=Kd.S_slice HO364.out;subst eo158;have hnb159:=NB365_349.out;have hnc159:=NB349_365.out;have hnb160:=NB365_350.out;have hnc160:=NB350_365.out;have hcz161_0 : w157.cell? ⟨gb365,0,none⟩ = some (.slice none 0 0):=(bC BK365.out 0).trans rfl;have hfz161_0:=blk_frozen BK365.out 0;have hcz162_0 : w157.cell? ⟨gb350,0,none⟩ = some (.int .i64 a1_0):=(bC BK350.out 0).trans rfl;have hcz162_1 : w157.cell? ⟨gb350,1,none⟩ = some (.int .i64 a1_1):=(bC BK350.out 1).trans rfl;have hcz162_2 : w157.cell? ⟨gb350,2,none⟩ = some (.slice A1_2 l1_2.length c1_2):=(bC BK350.out 2).trans rfl;have hfz162_0:=blk_frozen BK350.out 0;have hfz162_1:=blk_frozen BK350.out 1;have hfz162_2:=blk_frozen BK350.out 2)|((with_reducible refine gate_callee (f:=24) rfl ?_);refine goesL_ (some 28) rfl rfl Try.func24 (by kernel_rfl) rfl #[.agg #[.int .i64 a1_0,.int .i64 a1_1,.slice A1_2 l1_2.length c1_2]] rfl (by (try simp only [mA,mC,mN]);first|done|rfl) ?_;(with_reducible refine (laws_toPlay.calls k a1_0 a1_1 _ _ l1_2 t366 t367 t368 _ ?side1 ?side2 A23.out).mono ?_);(case side1=>exact Kd.C_below HR1_2.out (by repeat (first|(with_reducible first|exact HB.out|apply bL|apply bM|apply b1|refine bS ?_ GE349.out|refine bS ?_ GE350.out|refine bS ?_ GE365.out)|exact HB.out)));(case side2=>exact HC1_2.out);rintro e w163 ⟨v369,rfl,ho0,hb⟩;refine ⟨_,rfl,?_⟩;have n0_:=aK (Kd.S_elder' (by (with_reducible repeat first|apply Kd.S_alloc|apply Kd.S_drewN|apply Kd.S_drew);exact (Kd.S_mono (Kd.S_far (p:=⟨gb365,0,none⟩) (Kd.S_types HO355.out BK365.out (by decide)) (fun _ hk=>by first|exact hk.2|(have h_:=hk;(try simp only [and_assoc,true_and] at h_);(repeat' apply And.intro) <;> with_reducible first|exact h_.1|exact h_.2.1|exact h_.2.2.1|exact h_.2.2.2.1|exact h_.2.2.2.2.1|exact h_.2.2.2.2.2.1|exact h_.2.2.2.2.2.2.1|exact h_.2.2.2.2.2.2.2.1|exact h_.2.2.2.2.2.2.2.2.1|exact h_.2|exact h_.2.2|exact h_.2.2.2|exact h_.2.2.2.2|exact h_.2.2.2.2.2|exact h_.2.2.2.2.2.2|exact h_.2.2.2.2.2.2.2|exact h_.2.2.2.2.2.2.2.2)) (.slice Ao158 t362.length co158)) (fun _ h_=>h_.1))) (Kd.R_base ho0) hb);have n1_:=aK (Kd.R_elder' (by (with_reducible repeat first|apply Kd.R_alloc|apply Kd.R_drewN|apply Kd.R_drew);exact (Kd.R_mono (Kd.R_far (p:=⟨gb365,0,none⟩) (Kd.R_types HO360.out BK365.out (by decide)) (fun _ hk=>by first|exact hk.2|(have h_:=hk;(try simp only [and_assoc,true_and] at h_);(repeat' apply And.intro) <;> with_reducible first|exact h_.1|exact h_.2.1|exact h_.2.2.1|exact h_.2.2.2.1|exact h_.2.2.2.2.1|exact h_.2.2.2.2.2.1|exact h_.2.2.2.2.2.2.1|exact h_.2.2.2.2.2.2.2.1|exact h_.2.2.2.2.2.2.2.2.1|exact h_.2|exact h_.2.2|exact h_.2.2.2|exact h_.2.2.2.2|exact h_.2.2.2.2.2|exact h_.2.2.2.2.2.2|exact h_.2.2.2.2.2.2.2|exact h_.2.2.2.2.2.2.2.2)) (.slice Ao158 t362.length co158)) (fun _ h_=>h_.1))) (Kd.R_base ho0) hb);have n2_:=aK (Kd.S_elder' (by (with_reducible repeat first|apply Kd.S_alloc|apply Kd.S_drewN|apply Kd.S_drew);exact (Kd.S_mono (Kd.S_far (p:=⟨gb365,0,none⟩) (Kd.S_types HO364.out BK365.out (by decide)) (fun _ hk=>by first|exact hk.2|(have h_:=hk;(try simp only [and_assoc,true_and] at h_);(repeat' apply And.intro) <;> with_reducible first|exact h_.1|exact h_.2.1|exact h_.2.2.1|exact h_.2.2.2.1|exact h_.2.2.2.2.1|exact h_.2.2.2.2.2.1|exact h_.2.2.2.2.2.2.1|exact h_.2.2.2.2.2.2.2.1|exact h_.2.2.2.2.2.2.2.2.1|exact h_.2|exact h_.2.2|exact h_.2.2.2|exact h_.2.2.2.2|exact h_.2.2.2.2.2|exact h_.2.2.2.2.2.2|exact h_.2.2.2.2.2.2.2|exact h_.2.2.2.2.2.2.2.2)) (.slice Ao158 t362.length co158)) (fun _ h_=>h_.1))) (Kd.R_base ho0) hb);have n3_:=aK (Kd.R_lower (Kd.R_new' ho0 (Kd.R_lt (by (with_reducible repeat first|apply Kd.R_alloc|apply Kd.R_drewN|apply Kd.R_drew);exact (Kd.R_mono (Kd.R_far (p:=⟨gb365,0,none⟩) (Kd.R_types HO360.out BK365.out (by decide)) (fun _ hk=>by first|exact hk.2|(have h_:=hk;(try simp only [and_assoc,true_and] at h_);(repeat' apply And.intro) <;> with_reducible first|exact h_.1|exact h_.2.1|exact h_.2.2.1|exact h_.2.2.2.1|exact h_.2.2.2.2.1|exact h_.2.2.2.2.2.1|exact h_.2.2.2.2.2.2.1|exact h_.2.2.2.2.2.2.2.1|exact h_.2.2.2.2.2.2.2.2.1|exact h_.2|exact h_.2.2|exact h_.2.2.2|exact h_.2.2.2.2|exact h_.2.2.2.2.2|exact h_.2.2.2.2.2.2|exact h_.2.2.2.2.2.2.2|exact h_.2.2.2.2.2.2.2.2)) (.slice Ao158 t362.length co158)) (fun _ h_=>h_.1))))) (below_size (by repeat (first|(with_reducible first|exact HB.out|apply bL|apply bM|apply b1|refine bS ?_ GE349.out|refine bS ?_ GE350.out|refine bS ?_ GE365.out)|exact HB.out))));have n4_:=aK (bB (g:=gb349) (o:=.cells #[.slice A0_0 l0_0.length c0_0] 41 (0,0)) (by (with_reducible repeat first|apply bN|apply bD|apply bA);refine blk_far ?_ NB349_365.out _;(with_reducible repeat first|apply bN|apply bD|apply bA);exact BK349.out) hb);have n5_:=aK (bB (g:=gb350) (o:=.cells #[.int .i64 a1_0,.int .i64 a1_1,.slice A1_2 l1_2.length c1_2] 24 (0,0)) (by (with_reducible repeat first|apply bN|apply bD|apply bA);refine blk_far ?_ NB350_365.out _;(with_reducible repeat first|apply bN|apply bD|apply bA);exact BK350.out) hb);have n6_:=aK (bB (g:=gb365) (o:=.cells #[.slice Ao158 t362.length co158] 44 (0,0)) (by (with_reducible repeat first|apply bN|apply bD|apply bA);refine blk_put (cs:=#[.slice none 0 0]) ?_ 0 _ rfl;(with_reducible repeat first|apply bN|apply bD|apply bA);exact BK365.out) hb);have n7_:=aK (below_step (by repeat (first|(with_reducible first|exact HB.out|apply bL|apply bM|apply b1|refine bS ?_ GE349.out|refine bS ?_ GE350.out|refine bS ?_ GE365.out)|exact HB.out)) hb);clear HO355;clear HO360;clear HO364;clear BK349;clear BK350;clear BK365;clear HB;have HO355:=n0_;have HO360:=n1_;have HO364:=n2_;have HO370:=n3_;have BK349:=n4_;have BK350:=n5_;have BK365:=n6_;have HB:=n7_;clear n0_ n1_ n2_ n3_ n4_ n5_ n6_ n7_;(try clear hb);(try clear hb2);(try clear hk);(try clear hi);(try clear ho0))|((with_reducible refine gate_dst (N:=8) rfl ?_);refine box_event ?hg (N:=8) ?hd (cs:=#[.int .i64 0,.int .i64 0,.slice none 0 0]) (t:=27) ?hr ?_;(case hd=>rfl);(case hg=>rfl);(case hr=>first|(go_simp;done)|(go_simp;rfl));intro gb371 hg w164 hbox hb;have n0_:=aK (Kd.S_below (by (with_reducible repeat first|apply Kd.S_alloc|apply Kd.S_drewN|apply Kd.S_drew);exact HO355.out) hb);have n1_:=aK (Kd.R_below (by (with_reducible repeat first|apply Kd.R_alloc|apply Kd.R_drewN|apply Kd.R_drew);exact HO360.out) hb);have n2_:=aK (Kd.S_below (by (with_reducible repeat first|apply Kd.S_alloc|apply Kd.S_drewN|apply Kd.S_drew);exact HO364.out) hb);have n3_:=aK (Kd.R_below (by (with_reducible repeat first|apply Kd.R_alloc|apply Kd.R_drewN|apply Kd.R_drew);exact HO370.out) hb);have n4_:=aK (bB (by (with_reducible repeat first|apply bN|apply bD|apply bA);exact BK349.out) hb);have n5_:=aK (bB (by (with_reducible repeat first|apply bN|apply bD|apply bA);exact BK350.out) hb);have n6_:=aK (bB (by (with_reducible repeat first|apply bN|apply bD|apply bA);exact BK365.out) hb);have n7_:=aK (below_step (by repeat (first|(with_reducible first|exact HB.out|apply bL|apply bM|apply b1|refine bS ?_ GE349.out|refine bS ?_ GE350.out|refine bS ?_ GE365.out)|exact HB.out)) hb);have n8_:=aK (hbox);have n9_:=aK ((by rw [hg];exact (below_size (by repeat (first|(with_reducible first|exact HB.out|apply bL|apply bM|apply b1|refine bS ?_ GE349.out|refine bS ?_ GE350.out|refine bS ?_ GE365.out)|exact HB.out))) : w.heap.size ≤ gb371));have n10_:=aK ((by rw [hg];exact (below_size (by repeat (first|(with_reducible first|exact HB.out|apply bL|apply bM|apply b1|refine bS ?_ GE349.out|refine bS ?_ GE350.out|refine bS ?_ GE365.out)|exact HB.out))) : w.heap.size ≤ gb371));have n11_:=aK ((by rw [hg];exact Nat.ne_of_lt (blk_lt (by (with_reducible repeat first|apply bN|apply bD|apply bA);exact BK349.out)) : gb349 ≠ gb371));have n12_:=aK ((by rw [hg];exact Nat.ne_of_gt (blk_lt (by (with_reducible repeat first|apply bN|apply bD|apply bA);exact BK349.out)) : gb371 ≠ gb349));have n13_:=aK ((by rw [hg];exact Nat.ne_of_lt (blk_lt (by (with_reducible repeat first|apply bN|apply bD|apply bA);exact BK350.out)) : gb350 ≠ gb371));have n14_:=aK ((by rw [hg];exact Nat.ne_of_gt (blk_lt (by (with_reducible repeat first|apply bN|apply bD|apply bA);exact BK350.out)) : gb371 ≠ gb350));have n15_:=aK ((by rw [hg];exact Nat.ne_of_lt (blk_lt (by (with_reducible repeat first|apply bN|apply bD|apply bA);exact BK365.out)) : gb365 ≠ gb371));have n16_:=aK ((by rw [hg];exact Nat.ne_of_gt (blk_lt (by (with_reducible repeat first|apply bN|apply bD|apply bA);exact BK365.out)) : gb371 ≠ gb365));clear HO355;clear HO360;clear HO364;clear HO370;clear BK349;clear BK350;clear BK365;clear HB;have HO355:=n0_;have HO360:=n1_;have HO364:=n2_;have HO370:=n3_;have BK349:=n4_;have BK350:=n5_;have BK365:=n6_;have HB:=n7_;have BK371:=n8_;have GW371:=n9_;have GE371:=n10_;have NB349_371:=n11_;have NB371_349:=n12_;have NB350_371:=n13_;have NB371_350:=n14_;have NB365_371:=n15_;have NB371_365:=n16_;clear n0_ n1_ n2_ n3_ n4_ n5_ n6_ n7_ n8_ n9_ n10_ n11_ n12_ n13_ n14_ n15_ n16_;clear hb hbox hg;have hnb165:=NB371_349.out;have hnc165:=NB349_371.out;have hnb166:=NB371_350.out;have hnc166:=NB350_371.out;have hnb167:=NB371_365.out;have hnc167:=NB365_371.out;have hcz168_0 : w164.cell? ⟨gb371,0,none⟩ = some (.int .i64 0):=(bC BK371.out 0).trans rfl;have hcz168_1 : w164.cell? ⟨gb371,1,none⟩ = some (.int .i64 0):=(bC BK371.out 1).trans rfl;have hcz168_2 : w164.cell? ⟨gb371,2,none⟩ = some (.slice none 0 0):=(bC BK371.out 2).trans rfl;have hfz168_0:=blk_frozen BK371.out 0;have hfz168_1:=blk_frozen BK371.out 1;have hfz168_2:=blk_frozen BK371.out 2;obtain ⟨Ao169,co169,eo169⟩:=Kd.R_slice HO370.out;subst eo169;have hcz170_0 : w164.cell? ⟨gb365,0,none⟩ = some (.slice Ao158 t362.length co158):=(bC BK365.out 0).trans rfl;have hfz170_0:=blk_frozen BK365.out 0)|((with_reducible refine gate_callee (f:=48) rfl ?_);refine goesL_ (some 31) rfl rfl Try.func48 (by kernel_rfl) rfl #[.agg #[.slice Ao158 t362.length co158],.agg #[.int .i64 t366,.int .i64 t367,.slice Ao169 t368.length co169]] rfl (by (try simp only [mA,mC,mN]);first|done|rfl) ?_;(with_reducible refine (impl_TurnOf.calls k _ _ t362 t366 t367 _ _ t368 t372 _ ?side1 ?side2 ?side3 ?side4 A24.out).mono ?_);(case side1=>refine (Kd.S_reads' (e:=22) (base:=w.heap.size) (ok:=fun k_=>(((True ∧ some k_ ≠ (.slice Ao152 t353.length co152 : Value).ownBlock) ∧ some k_ ≠ (.slice Ao153 t358.length co153 : Value).ownBlock) ∧ some k_ ≠ (.slice Ao169 t368.length co169 : Value).ownBlock)) (n:=t362.length) (c:=co158) ?_).2.2;exact (by (with_reducible repeat first|apply Kd.S_alloc|apply Kd.S_drewN|apply Kd.S_drew);exact (Kd.S_mono (Kd.S_far (p:=⟨gb371,2,none⟩) (Kd.S_far (p:=⟨gb371,1,none⟩) (Kd.S_far (p:=⟨gb371,0,none⟩) (Kd.S_types HO364.out BK371.out (by decide)) (fun _ hk=>by first|exact hk.2|(have h_:=hk;(try simp only [and_assoc,true_and] at h_);(repeat' apply And.intro) <;> with_reducible first|exact h_.1|exact h_.2.1|exact h_.2.2.1|exact h_.2.2.2.1|exact h_.2.2.2.2.1|exact h_.2.2.2.2.2.1|exact h_.2.2.2.2.2.2.1|exact h_.2.2.2.2.2.2.2.1|exact h_.2.2.2.2.2.2.2.2.1|exact h_.2|exact h_.2.2|exact h_.2.2.2|exact h_.2.2.2.2|exact h_.2.2.2.2.2|exact h_.2.2.2.2.2.2|exact h_.2.2.2.2.2.2.2|exact h_.2.2.2.2.2.2.2.2)) (.int .i64 t366)) (fun _ hk=>by first|exact hk.2|(have h_:=hk;(try simp only [and_assoc,true_and] at h_);(repeat' apply And.intro) <;> with_reducible first|exact h_.1|exact h_.2.1|exact h_.2.2.1|exact h_.2.2.2.1|exact h_.2.2.2.2.1|exact h_.2.2.2.2.2.1|exact h_.2.2.2.2.2.2.1|exact h_.2.2.2.2.2.2.2.1|exact h_.2.2.2.2.2.2.2.2.1|exact h_.2|exact h_.2.2|exact h_.2.2.2|exact h_.2.2.2.2|exact h_.2.2.2.2.2|exact h_.2.2.2.2.2.2|exact h_.2.2.2.2.2.2.2|exact h_.2.2.2.2.2.2.2.2)) (.int .i64 t367)) (fun _ hk=>by first|exact hk.2|(have h_:=hk;(try simp only [and_assoc,true_and] at h_);(repeat' apply And.intro) <;> with_reducible first|exact h_.1|exact h_.2.1|exact h_.2.2.1|exact h_.2.2.2.1|exact h_.2.2.2.2.1|exact h_.2.2.2.2.2.1|exact h_.2.2.2.2.2.2.1|exact h_.2.2.2.2.2.2.2.1|exact h_.2.2.2.2.2.2.2.2.1|exact h_.2|exact h_.2.2|exact h_.2.2.2|exact h_.2.2.2.2|exact h_.2.2.2.2.2|exact h_.2.2.2.2.2.2|exact h_.2.2.2.2.2.2.2|exact h_.2.2.2.2.2.2.2.2)) (.slice Ao169 t368.length co169)) (fun _ h_=>h_.1))));(case side2=>exact (Kd.S_reads' HO364.out).2.1);(case side3=>refine (Kd.R_reads' (e:=2) (base:=w.heap.size) (ok:=fun k_=>(True ∧ some k_ ≠ (.slice Ao153 t358.length co153 : Value).ownBlock)) (n:=t368.length) (c:=co169) ?_).2.2;exact (by (with_reducible repeat first|apply Kd.R_alloc|apply Kd.R_drewN|apply Kd.R_drew);exact (Kd.R_mono (Kd.R_far (p:=⟨gb371,2,none⟩) (Kd.R_far (p:=⟨gb371,1,none⟩) (Kd.R_far (p:=⟨gb371,0,none⟩) (Kd.R_types HO370.out BK371.out (by decide)) (fun _ hk=>by first|exact hk.2|(have h_:=hk;(try simp only [and_assoc,true_and] at h_);(repeat' apply And.intro) <;> with_reducible first|exact h_.1|exact h_.2.1|exact h_.2.2.1|exact h_.2.2.2.1|exact h_.2.2.2.2.1|exact h_.2.2.2.2.2.1|exact h_.2.2.2.2.2.2.1|exact h_.2.2.2.2.2.2.2.1|exact h_.2.2.2.2.2.2.2.2.1|exact h_.2|exact h_.2.2|exact h_.2.2.2|exact h_.2.2.2.2|exact h_.2.2.2.2.2|exact h_.2.2.2.2.2.2|exact h_.2.2.2.2.2.2.2|exact h_.2.2.2.2.2.2.2.2)) (.int .i64 t366)) (fun _ hk=>by first|exact hk.2|(have h_:=hk;(try simp only [and_assoc,true_and] at h_);(repeat' apply And.intro) <;> with_reducible first|exact h_.1|exact h_.2.1|exact h_.2.2.1|exact h_.2.2.2.1|exact h_.2.2.2.2.1|exact h_.2.2.2.2.2.1|exact h_.2.2.2.2.2.2.1|exact h_.2.2.2.2.2.2.2.1|exact h_.2.2.2.2.2.2.2.2.1|exact h_.2|exact h_.2.2|exact h_.2.2.2|exact h_.2.2.2.2|exact h_.2.2.2.2.2|exact h_.2.2.2.2.2.2|exact h_.2.2.2.2.2.2.2|exact h_.2.2.2.2.2.2.2.2)) (.int .i64 t367)) (fun _ hk=>by first|exact hk.2|(have h_:=hk;(try simp only [and_assoc,true_and] at h_);(repeat' apply And.intro) <;> with_reducible first|exact h_.1|exact h_.2.1|exact h_.2.2.1|exact h_.2.2.2.1|exact h_.2.2.2.2.1|exact h_.2.2.2.2.2.1|exact h_.2.2.2.2.2.2.1|exact h_.2.2.2.2.2.2.2.1|exact h_.2.2.2.2.2.2.2.2.1|exact h_.2|exact h_.2.2|exact h_.2.2.2|exact h_.2.2.2.2|exact h_.2.2.2.2.2|exact h_.2.2.2.2.2.2|exact h_.2.2.2.2.2.2.2|exact h_.2.2.2.2.2.2.2.2)) (.slice Ao169 t368.length co169)) (fun _ h_=>h_.1))));(case side4=>exact (Kd.R_reads' HO370.out).2.1);rintro e w171 ⟨rfl,hb⟩;refine ⟨_,rfl,?_⟩;have n0_:=aK (Kd.S_below (by (with_reducible repeat first|apply Kd.S_alloc|apply Kd.S_drewN|apply Kd.S_drew);exact (Kd.S_mono (Kd.S_far (p:=⟨gb371,2,none⟩) (Kd.S_far (p:=⟨gb371,1,none⟩) (Kd.S_far (p:=⟨gb371,0,none⟩) (Kd.S_types HO355.out BK371.out (by decide)) (fun _ hk=>by first|exact hk.2|(have h_:=hk;(try simp only [and_assoc,true_and] at h_);(repeat' apply And.intro) <;> with_reducible first|exact h_.1|exact h_.2.1|exact h_.2.2.1|exact h_.2.2.2.1|exact h_.2.2.2.2.1|exact h_.2.2.2.2.2.1|exact h_.2.2.2.2.2.2.1|exact h_.2.2.2.2.2.2.2.1|exact h_.2.2.2.2.2.2.2.2.1|exact h_.2|exact h_.2.2|exact h_.2.2.2|exact h_.2.2.2.2|exact h_.2.2.2.2.2|exact h_.2.2.2.2.2.2|exact h_.2.2.2.2.2.2.2|exact h_.2.2.2.2.2.2.2.2)) (.int .i64 t366)) (fun _ hk=>by first|exact hk.2|(have h_:=hk;(try simp only [and_assoc,true_and] at h_);(repeat' apply And.intro) <;> with_reducible first|exact h_.1|exact h_.2.1|exact h_.2.2.1|exact h_.2.2.2.1|exact h_.2.2.2.2.1|exact h_.2.2.2.2.2.1|exact h_.2.2.2.2.2.2.1|exact h_.2.2.2.2.2.2.2.1|exact h_.2.2.2.2.2.2.2.2.1|exact h_.2|exact h_.2.2|exact h_.2.2.2|exact h_.2.2.2.2|exact h_.2.2.2.2.2|exact h_.2.2.2.2.2.2|exact h_.2.2.2.2.2.2.2|exact h_.2.2.2.2.2.2.2.2)) (.int .i64 t367)) (fun _ hk=>by first|exact hk.2|(have h_:=hk;(try simp only [and_assoc,true_and] at h_);(repeat' apply And.intro) <;> with_reducible first|exact h_.1|exact h_.2.1|exact h_.2.2.1|exact h_.2.2.2.1|exact h_.2.2.2.2.1|exact h_.2.2.2.2.2.1|exact h_.2.2.2.2.2.2.1|exact h_.2.2.2.2.2.2.2.1|exact h_.2.2.2.2.2.2.2.2.1|exact h_.2|exact h_.2.2|exact h_.2.2.2|exact h_.2.2.2.2|exact h_.2.2.2.2.2|exact h_.2.2.2.2.2.2|exact h_.2.2.2.2.2.2.2|exact h_.2.2.2.2.2.2.2.2)) (.slice Ao169 t368.length co169)) (fun _ h_=>h_.1))) hb);have n1_:=aK (Kd.R_below (by (with_reducible repeat first|apply Kd.R_alloc|apply Kd.R_drewN|apply Kd.R_drew);exact (Kd.R_mono (Kd.R_far (p:=⟨gb371,2,none⟩) (Kd.R_far (p:=⟨gb371,1,none⟩) (Kd.R_far (p:=⟨gb371,0,none⟩) (Kd.R_types HO360.out BK371.out (by decide)) (fun _ hk=>by first|exact hk.2|(have h_:=hk;(try simp only [and_assoc,true_and] at h_);(repeat' apply And.intro) <;> with_reducible first|exact h_.1|exact h_.2.1|exact h_.2.2.1|exact h_.2.2.2.1|exact h_.2.2.2.2.1|exact h_.2.2.2.2.2.1|exact h_.2.2.2.2.2.2.1|exact h_.2.2.2.2.2.2.2.1|exact h_.2.2.2.2.2.2.2.2.1|exact h_.2|exact h_.2.2|exact h_.2.2.2|exact h_.2.2.2.2|exact h_.2.2.2.2.2|exact h_.2.2.2.2.2.2|exact h_.2.2.2.2.2.2.2|exact h_.2.2.2.2.2.2.2.2)) (.int .i64 t366)) (fun _ hk=>by first|exact hk.2|(have h_:=hk;(try simp only [and_assoc,true_and] at h_);(repeat' apply And.intro) <;> with_reducible first|exact h_.1|exact h_.2.1|exact h_.2.2.1|exact h_.2.2.2.1|exact h_.2.2.2.2.1|exact h_.2.2.2.2.2.1|exact h_.2.2.2.2.2.2.1|exact h_.2.2.2.2.2.2.2.1|exact h_.2.2.2.2.2.2.2.2.1|exact h_.2|exact h_.2.2|exact h_.2.2.2|exact h_.2.2.2.2|exact h_.2.2.2.2.2|exact h_.2.2.2.2.2.2|exact h_.2.2.2.2.2.2.2|exact h_.2.2.2.2.2.2.2.2)) (.int .i64 t367)) (fun _ hk=>by first|exact hk.2|(have h_:=hk;(try simp only [and_assoc,true_and] at h_);(repeat' apply And.intro) <;> with_reducible first|exact h_.1|exact h_.2.1|exact h_.2.2.1|exact h_.2.2.2.1|exact h_.2.2.2.2.1|exact h_.2.2.2.2.2.1|exact h_.2.2.2.2.2.2.1|exact h_.2.2.2.2.2.2.2.1|exact h_.2.2.2.2.2.2.2.2.1|exact h_.2|exact h_.2.2|exact h_.2.2.2|exact h_.2.2.2.2|exact h_.2.2.2.2.2|exact h_.2.2.2.2.2.2|exact h_.2.2.2.2.2.2.2|exact h_.2.2.2.2.2.2.2.2)) (.slice Ao169 t368.length co169)) (fun _ h_=>h_.1))) hb);have n2_:=aK (Kd.S_below (by (with_reducible repeat first|apply Kd.S_alloc|apply Kd.S_drewN|apply Kd.S_drew);exact (Kd.S_mono (Kd.S_far (p:=⟨gb371,2,none⟩) (Kd.S_far (p:=⟨gb371,1,none⟩) (Kd.S_far (p:=⟨gb371,0,none⟩) (Kd.S_types HO364.out BK371.out (by decide)) (fun _ hk=>by first|exact hk.2|(have h_:=hk;(try simp only [and_assoc,true_and] at h_);(repeat' apply And.intro) <;> with_reducible first|exact h_.1|exact h_.2.1|exact h_.2.2.1|exact h_.2.2.2.1|exact h_.2.2.2.2.1|exact h_.2.2.2.2.2.1|exact h_.2.2.2.2.2.2.1|exact h_.2.2.2.2.2.2.2.1|exact h_.2.2.2.2.2.2.2.2.1|exact h_.2|exact h_.2.2|exact h_.2.2.2|exact h_.2.2.2.2|exact h_.2.2.2.2.2|exact h_.2.2.2.2.2.2|exact h_.2.2.2.2.2.2.2|exact h_.2.2.2.2.2.2.2.2)) (.int .i64 t366)) (fun _ hk=>by first|exact hk.2|(have h_:=hk;(try simp only [and_assoc,true_and] at h_);(repeat' apply And.intro) <;> with_reducible first|exact h_.1|exact h_.2.1|exact h_.2.2.1|exact h_.2.2.2.1|exact h_.2.2.2.2.1|exact h_.2.2.2.2.2.1|exact h_.2.2.2.2.2.2.1|exact h_.2.2.2.2.2.2.2.1|exact h_.2.2.2.2.2.2.2.2.1|exact h_.2|exact h_.2.2|exact h_.2.2.2|exact h_.2.2.2.2|exact h_.2.2.2.2.2|exact h_.2.2.2.2.2.2|exact h_.2.2.2.2.2.2.2|exact h_.2.2.2.2.2.2.2.2)) (.int .i64 t367)) (fun _ hk=>by first|exact hk.2|(have h_:=hk;(try simp only [and_assoc,true_and] at h_);(repeat' apply And.intro) <;> with_reducible first|exact h_.1|exact h_.2.1|exact h_.2.2.1|exact h_.2.2.2.1|exact h_.2.2.2.2.1|exact h_.2.2.2.2.2.1|exact h_.2.2.2.2.2.2.1|exact h_.2.2.2.2.2.2.2.1|exact h_.2.2.2.2.2.2.2.2.1|exact h_.2|exact h_.2.2|exact h_.2.2.2|exact h_.2.2.2.2|exact h_.2.2.2.2.2|exact h_.2.2.2.2.2.2|exact h_.2.2.2.2.2.2.2|exact h_.2.2.2.2.2.2.2.2)) (.slice Ao169 t368.length co169)) (fun _ h_=>h_.1))) hb);have n3_:=aK (Kd.R_below (by (with_reducible repeat first|apply Kd.R_alloc|apply Kd.R_drewN|apply Kd.R_drew);exact (Kd.R_mono (Kd.R_far (p:=⟨gb371,2,none⟩) (Kd.R_far (p:=⟨gb371,1,none⟩) (Kd.R_far (p:=⟨gb371,0,none⟩) (Kd.R_types HO370.out BK371.out (by decide)) (fun _ hk=>by first|exact hk.2|(have h_:=hk;(try simp only [and_assoc,true_and] at h_);(repeat' apply And.intro) <;> with_reducible first|exact h_.1|exact h_.2.1|exact h_.2.2.1|exact h_.2.2.2.1|exact h_.2.2.2.2.1|exact h_.2.2.2.2.2.1|exact h_.2.2.2.2.2.2.1|exact h_.2.2.2.2.2.2.2.1|exact h_.2.2.2.2.2.2.2.2.1|exact h_.2|exact h_.2.2|exact h_.2.2.2|exact h_.2.2.2.2|exact h_.2.2.2.2.2|exact h_.2.2.2.2.2.2|exact h_.2.2.2.2.2.2.2|exact h_.2.2.2.2.2.2.2.2)) (.int .i64 t366)) (fun _ hk=>by first|exact hk.2|(have h_:=hk;(try simp only [and_assoc,true_and] at h_);(repeat' apply And.intro) <;> with_reducible first|exact h_.1|exact h_.2.1|exact h_.2.2.1|exact h_.2.2.2.1|exact h_.2.2.2.2.1|exact h_.2.2.2.2.2.1|exact h_.2.2.2.2.2.2.1|exact h_.2.2.2.2.2.2.2.1|exact h_.2.2.2.2.2.2.2.2.1|exact h_.2|exact h_.2.2|exact h_.2.2.2|exact h_.2.2.2.2|exact h_.2.2.2.2.2|exact h_.2.2.2.2.2.2|exact h_.2.2.2.2.2.2.2|exact h_.2.2.2.2.2.2.2.2)) (.int .i64 t367)) (fun _ hk=>by first|exact hk.2|(have h_:=hk;(try simp only [and_assoc,true_and] at h_);(repeat' apply And.intro) <;> with_reducible first|exact h_.1|exact h_.2.1|exact h_.2.2.1|exact h_.2.2.2.1|exact h_.2.2.2.2.1|exact h_.2.2.2.2.2.1|exact h_.2.2.2.2.2.2.1|exact h_.2.2.2.2.2.2.2.1|exact h_.2.2.2.2.2.2.2.2.1|exact h_.2|exact h_.2.2|exact h_.2.2.2|exact h_.2.2.2.2|exact h_.2.2.2.2.2|exact h_.2.2.2.2.2.2|exact h_.2.2.2.2.2.2.2|exact h_.2.2.2.2.2.2.2.2)) (.slice Ao169 t368.length co169)) (fun _ h_=>h_.1))) hb);have n4_:=aK (bB (g:=gb349) (o:=.cells #[.slice A0_0 l0_0.length c0_0] 41 (0,0)) (by (with_reducible repeat first|apply bN|apply bD|apply bA);refine blk_far ?_ NB349_371.out _;(with_reducible repeat first|apply bN|apply bD|apply bA);refine blk_far ?_ NB349_371.out _;(with_reducible repeat first|apply bN|apply bD|apply bA);refine blk_far ?_ NB349_371.out _;(with_reducible repeat first|apply bN|apply bD|apply bA);exact BK349.out) hb);have n5_:=aK (bB (g:=gb350) (o:=.cells #[.int .i64 a1_0,.int .i64 a1_1,.slice A1_2 l1_2.length c1_2] 24 (0,0)) (by (with_reducible repeat first|apply bN|apply bD|apply bA);refine blk_far ?_ NB350_371.out _;(with_reducible repeat first|apply bN|apply bD|apply bA);refine blk_far ?_ NB350_371.out _;(with_reducible repeat first|apply bN|apply bD|apply bA);refine blk_far ?_ NB350_371.out _;(with_reducible repeat first|apply bN|apply bD|apply bA);exact BK350.out) hb);have n6_:=aK (bB (g:=gb365) (o:=.cells #[.slice Ao158 t362.length co158] 44 (0,0)) (by (with_reducible repeat first|apply bN|apply bD|apply bA);refine blk_far ?_ NB365_371.out _;(with_reducible repeat first|apply bN|apply bD|apply bA);refine blk_far ?_ NB365_371.out _;(with_reducible repeat first|apply bN|apply bD|apply bA);refine blk_far ?_ NB365_371.out _;(with_reducible repeat first|apply bN|apply bD|apply bA);exact BK365.out) hb);have n7_:=aK (bB (g:=gb371) (o:=.cells #[.int .i64 t366,.int .i64 t367,.slice Ao169 t368.length co169] 27 (0,0)) (by (with_reducible repeat first|apply bN|apply bD|apply bA);refine blk_put (cs:=#[.int .i64 t366,.int .i64 t367,.slice none 0 0]) ?_ 2 _ rfl;(with_reducible repeat first|apply bN|apply bD|apply bA);refine blk_put (cs:=#[.int .i64 t366,.int .i64 0,.slice none 0 0]) ?_ 1 _ rfl;(with_reducible repeat first|apply bN|apply bD|apply bA);refine blk_put (cs:=#[.int .i64 0,.int .i64 0,.slice none 0 0]) ?_ 0 _ rfl;(with_reducible repeat first|apply bN|apply bD|apply bA);exact BK371.out) hb);have n8_:=aK (below_step (by repeat (first|(with_reducible first|exact HB.out|apply bL|apply bM|apply b1|refine bS ?_ GE349.out|refine bS ?_ GE350.out|refine bS ?_ GE365.out|refine bS ?_ GE371.out)|exact HB.out)) hb);clear HO355;clear HO360;clear HO364;clear HO370;clear BK349;clear BK350;clear BK365;clear BK371;clear HB;have HO355:=n0_;have HO360:=n1_;have HO364:=n2_;have HO370:=n3_;have BK349:=n4_;have BK350:=n5_;have BK365:=n6_;have BK371:=n7_;have HB:=n8_;clear n0_ n1_ n2_ n3_ n4_ n5_ n6_ n7_ n8_;(try clear hb);(try clear hb2);(try clear hk);(try clear hi)))
    go_ret
    exact ⟨by first|rfl|(simp [errW_none,errW_some] <;> rfl)|(simp [*,errW_none,errW_some] <;> rfl),by repeat (first|(with_reducible first|exact HB.out|apply bL|apply bM|apply b1|refine bS ?_ GE349.out|refine bS ?_ GE350.out|refine bS ?_ GE365.out|refine bS ?_ GE371.out)|exact HB.out)⟩

end Go.Proofs.Ytakepkjcmgcepaa.QFnExactTurnOf
