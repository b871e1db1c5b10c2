/- The functions that the law FnExactIsPlay reaches, as plain functions, and the walks that show that the machine's calls answer so. Written by a program of this session (wip/myprint.py) on the kit's print. -/
import Derived.Test.YtakepkjcmgcepaaQFnExactIsPlayx0
import Derived.Test.YtakepkjcmgcepaaQFnExactIsPlayx1
import Derived.Test.YtakepkjcmgcepaaQFnExactIsPlayx2
import Derived.Test.YtakepkjcmgcepaaQFnExactIsPlayx6
import Derived.Test.YtakepkjcmgcepaaQFnExactIsPlayx10
namespace Go.Proofs.Ytakepkjcmgcepaa.QFnExactIsPlay
open Go.RowKit Go.Proofs.YtakepkjcmgcepaaW.PrintWords Go.Proofs.YtakepkjcmgcepaaW.PrintLast Go.Proofs.YtakepkjcmgcepaaW.PrintMore
attribute [local go_sem] max2_int min2_int max_two min_two max_three min_three max_four min_four   -- for this text's walks alone
set_option linter.unusedVariables false
set_option linter.unusedSimpArgs false

/-! ### laws_FnExactIsPlay: function 9 -/
def laws_FnExactIsPlay.f (k : Nat) (l0_0 : List (List Int)) (a1_0 : Int) (a1_1 : Int) (l1_2 : List Int) : Option (Bool) := (laws_szDeal.f k l0_0 1048576).bind fun t337 => (if t337 < 0 then (some true) else ((laws_szPlay.f a1_0 a1_1 l1_2 t337).bind fun t338 => (if t338 < 0 then (some true) else ((laws_toDeal.f k l0_0).bind fun t339 => ((laws_toPlay.f k a1_0 a1_1 l1_2).bind fun bt342 => ((spec_IsPlay.f k t339 bt342.1 bt342.2.1 bt342.2.2).bind fun t347 => ((laws_toDeal.f k l0_0).bind fun t348 => ((laws_toPlay.f k a1_0 a1_1 l1_2).bind fun bt352 => ((impl_IsPlay.f k t348 bt352.1 bt352.2.1 bt352.2.2).bind fun t358 => (if (t358 != t347) = true then (some false) else ((laws_toDeal.f k l0_0).bind fun t359 => ((laws_eqDeal.f k t348 t359).bind fun t362 => (if t362 = true then ((laws_toPlay.f k a1_0 a1_1 l1_2).bind fun bt363 => ((laws_eqPlay.f k bt352.1 bt352.2.1 bt352.2.2 bt363.1 bt363.2.1 bt363.2.2).bind fun t368 => (if t368 = true then (some true) else (some false)))) else (some false))))))))))))))
theorem laws_FnExactIsPlay.mono : ∀ a0 a1 a2 a3 k, LeO (laws_FnExactIsPlay.f k a0 a1 a2 a3) (laws_FnExactIsPlay.f (k + 1) a0 a1 a2 a3) := by
 intro a0 a1 a2 a3 k
 unfold laws_FnExactIsPlay.f
 repeat' first
   | (with_reducible exact impl_IsPlay.mono _ _ _ _ _)
   | (with_reducible exact laws_eqDeal.mono _ _ _)
   | (with_reducible exact laws_eqPlay.mono _ _ _ _ _ _ _)
   | (with_reducible exact laws_szDeal.mono _ _ _)
   | (with_reducible exact laws_toDeal.mono _ _)
   | (with_reducible exact laws_toPlay.mono _ _ _ _)
   | (with_reducible exact spec_IsPlay.mono _ _ _ _ _)
   | (with_reducible exact LeO.refl _)
   | (with_reducible exact LeO.none _)
   | (with_reducible refine LeO.ite ?_ ?_)
   | (with_reducible refine LeO.bind ?_ (fun _=>?_))
   | exact impl_IsPlay.mono _ _ _ _ _
   | exact laws_eqDeal.mono _ _ _
   | exact laws_eqPlay.mono _ _ _ _ _ _ _
   | exact laws_szDeal.mono _ _ _
   | exact laws_toDeal.mono _ _
   | exact laws_toPlay.mono _ _ _ _
   | exact spec_IsPlay.mono _ _ _ _ _
   | exact LeO.none _
   | refine LeO.ite ?_ ?_
   | refine LeO.bind ?_ (fun _=>?_)
set_option maxHeartbeats 8000000 in
set_option maxRecDepth 100000 in
theorem laws_FnExactIsPlay.calls (k : Nat) (A0_0 : Option Addr) (c0_0 : Nat) (l0_0 : List (List Int)) (a1_0 : Int) (a1_1 : Int) (A1_2 : Option Addr) (c1_2 : Nat) (l1_2 : List Int) (r : Bool) (w : World) (hr0_0 : Kd.C (Kd.slice 2 (Kd.int .i64)) w A0_0 l0_0.length l0_0) (hc0_0 : l0_0.length ≤ c0_0) (hr1_2 : Kd.C (Kd.int .i64) w A1_2 l1_2.length l1_2) (hc1_2 : l1_2.length ≤ c1_2) (h : laws_FnExactIsPlay.f k l0_0 a1_0 a1_1 l1_2 = some r) :
  Calls Try.prog 9 #[.agg #[.slice A0_0 l0_0.length c0_0],.agg #[.int .i64 a1_0,.int .i64 a1_1,.slice A1_2 l1_2.length c1_2]] w fun e w'=>e = .returned (.bool r) ∧ Below w.heap.size w w':=by
 have hu41:=Try.underlying41
 have hu24:=Try.underlying24
 have hu44:=Try.underlying44
 have hu27:=Try.underlying27
 have HR0_0:=aK hr0_0
 have HC0_0:=aK hc0_0
 clear hr0_0 hc0_0
 have HR1_2:=aK hr1_2
 have HC1_2:=aK hc1_2
 clear hr1_2 hc1_2
 have HB:=aK (Below.refl w.heap.size w)
 have H : ((laws_szDeal.f k l0_0 1048576).bind fun t337=>(if t337 < 0 then (some true) else ((laws_szPlay.f a1_0 a1_1 l1_2 t337).bind fun t338=>(if t338 < 0 then (some true) else ((laws_toDeal.f k l0_0).bind fun t339=>((laws_toPlay.f k a1_0 a1_1 l1_2).bind fun bt342=>((spec_IsPlay.f k t339 bt342.1 bt342.2.1 bt342.2.2).bind fun t347=>((laws_toDeal.f k l0_0).bind fun t348=>((laws_toPlay.f k a1_0 a1_1 l1_2).bind fun bt352=>((impl_IsPlay.f k t348 bt352.1 bt352.2.1 bt352.2.2).bind fun t358=>(if (t358 != t347) = true then (some false) else ((laws_toDeal.f k l0_0).bind fun t359=>((laws_eqDeal.f k t348 t359).bind fun t362=>(if t362 = true then ((laws_toPlay.f k a1_0 a1_1 l1_2).bind fun bt363=>((laws_eqPlay.f k bt352.1 bt352.2.1 bt352.2.2 bt363.1 bt363.2.1 bt363.2.2).bind fun t368=>(if t368 = true then (some true) else (some false)))) else (some false))))))))))))))) = some r:=h
 clear h
 replace H:=Option.bind_eq_some_iff.mp H
 obtain ⟨t337,A30,H⟩:=H
 replace H : (if t337 < 0 then (some true) else ((laws_szPlay.f a1_0 a1_1 l1_2 t337).bind fun t338=>(if t338 < 0 then (some true) else ((laws_toDeal.f k l0_0).bind fun t339=>((laws_toPlay.f k a1_0 a1_1 l1_2).bind fun bt342=>((spec_IsPlay.f k t339 bt342.1 bt342.2.1 bt342.2.2).bind fun t347=>((laws_toDeal.f k l0_0).bind fun t348=>((laws_toPlay.f k a1_0 a1_1 l1_2).bind fun bt352=>((impl_IsPlay.f k t348 bt352.1 bt352.2.1 bt352.2.2).bind fun t358=>(if (t358 != t347) = true then (some false) else ((laws_toDeal.f k l0_0).bind fun t359=>((laws_eqDeal.f k t348 t359).bind fun t362=>(if t362 = true then ((laws_toPlay.f k a1_0 a1_1 l1_2).bind fun bt363=>((laws_eqPlay.f k bt352.1 bt352.2.1 bt352.2.2 bt363.1 bt363.2.1 bt363.2.2).bind fun t368=>(if t368 = true then (some true) else (some false)))) else (some false)))))))))))))) = some r:=H
 have A3:=aK A30
 clear A30
 by_cases c4 : t337 < 0
 ·rw [if_pos c4] at H
  have c4b0 : decide (t337 < 0) = true:=decide_eq_true c4
  clear c4
  obtain rfl:=Option.some.inj H
  go_enter Try.func9,Try.ntmps9
  go_wp2_with (first|((with_reducible refine gate_dst (N:=2) rfl ?_);refine box_event ?hg (N:=2) ?hd (cs:=#[.slice A0_0 l0_0.length c0_0]) (t:=41) ?hr ?_;(case hd=>rfl);(case hg=>rfl);(case hr=>first|(go_simp;done)|(go_simp;rfl));intro gb335 hg w5 hbox hb;have n0_:=aK (below_step (by repeat (first|(with_reducible first|exact HB.out|apply bL|apply bM|apply b1)|exact HB.out)) hb);have n1_:=aK (hbox);have n2_:=aK ((by rw [hg];exact (below_size (by repeat (first|(with_reducible first|exact HB.out|apply bL|apply bM|apply b1)|exact HB.out))) : w.heap.size ≤ gb335));have n3_:=aK ((by rw [hg];exact (below_size (by repeat (first|(with_reducible first|exact HB.out|apply bL|apply bM|apply b1)|exact HB.out))) : w.heap.size ≤ gb335));clear HB;have HB:=n0_;have BK335:=n1_;have GW335:=n2_;have GE335:=n3_;clear n0_ n1_ n2_ n3_;clear hb hbox hg)|((with_reducible refine gate_dst (N:=3) rfl ?_);refine box_event ?hg (N:=3) ?hd (cs:=#[.int .i64 a1_0,.int .i64 a1_1,.slice A1_2 l1_2.length c1_2]) (t:=24) ?hr ?_;(case hd=>rfl);(case hg=>rfl);(case hr=>first|(go_simp;done)|(go_simp;rfl));intro gb336 hg w6 hbox hb;have n0_:=aK (bB (by (with_reducible repeat (first|apply bN|apply bD|apply bA));exact BK335.out) hb);have n1_:=aK (below_step (by repeat (first|(with_reducible first|exact HB.out|apply bL|apply bM|apply b1|refine bS ?_ GE335.out)|exact HB.out)) hb);have n2_:=aK (hbox);have n3_:=aK ((by rw [hg];exact (below_size (by repeat (first|(with_reducible first|exact HB.out|apply bL|apply bM|apply b1|refine bS ?_ GE335.out)|exact HB.out))) : w.heap.size ≤ gb336));have n4_:=aK ((by rw [hg];exact (below_size (by repeat (first|(with_reducible first|exact HB.out|apply bL|apply bM|apply b1|refine bS ?_ GE335.out)|exact HB.out))) : w.heap.size ≤ gb336));have n5_:=aK ((by rw [hg];exact Nat.ne_of_lt (blk_lt (by (with_reducible repeat (first|apply bN|apply bD|apply bA));exact BK335.out)) : gb335 ≠ gb336));have n6_:=aK ((by rw [hg];exact Nat.ne_of_gt (blk_lt (by (with_reducible repeat (first|apply bN|apply bD|apply bA));exact BK335.out)) : gb336 ≠ gb335));clear BK335;clear HB;have BK335:=n0_;have HB:=n1_;have BK336:=n2_;have GW336:=n3_;have GE336:=n4_;have NB335_336:=n5_;have NB336_335:=n6_;clear n0_ n1_ n2_ n3_ n4_ n5_ n6_;clear hb hbox hg;have hnb7:=NB335_336.out;have hnc7:=NB336_335.out;have hcz8_0 : w6.cell? ⟨gb335,0,none⟩ = some (.slice A0_0 l0_0.length c0_0):=(bC BK335.out 0).trans rfl;have hfz8_0:=blk_frozen BK335.out 0)|((with_reducible refine gate_callee (f:=40) rfl ?_);refine goesL_ (some 12) rfl rfl Try.func40 (by kernel_rfl) rfl #[.agg #[.slice A0_0 l0_0.length c0_0],.int .i64 1048576] rfl (by (try simp only [mA,mC,mN]);first|done|rfl) ?_;(with_reducible refine (laws_szDeal.calls k _ _ l0_0 1048576 t337 _ ?side1 ?side2 A3.out).mono ?_);(case side1=>repeat (first|exact (Kd.C_below HR0_0.out HB.out)|(with_reducible refine Kd.C_alloc ?_ _)|(with_reducible refine Kd.C_drewN ?_ _)|(with_reducible refine Kd.C_drew ?_)));(case side2=>exact HC0_0.out);rintro e w9 ⟨rfl,hb⟩;refine ⟨_,rfl,?_⟩;have n0_:=aK (bB (by (with_reducible repeat (first|apply bN|apply bD|apply bA));exact BK335.out) hb);have n1_:=aK (bB (by (with_reducible repeat (first|apply bN|apply bD|apply bA));exact BK336.out) hb);have n2_:=aK (below_step (by repeat (first|(with_reducible first|exact HB.out|apply bL|apply bM|apply b1|refine bS ?_ GE335.out|refine bS ?_ GE336.out)|exact HB.out)) hb);clear BK335;clear BK336;clear HB;have BK335:=n0_;have BK336:=n1_;have HB:=n2_;clear n0_ n1_ n2_;(try clear hb);(try clear hb2);(try clear hk);(try clear hi)))
  go_ret
  exact ⟨by first|rfl|(simp [errW_none,errW_some] <;> rfl)|(simp [*,errW_none,errW_some] <;> rfl),by repeat (first|(with_reducible first|exact HB.out|apply bL|apply bM|apply b1|refine bS ?_ GE335.out|refine bS ?_ GE336.out)|exact HB.out)⟩
 ·rw [if_neg c4] at H
  have c4b0 : decide (t337 < 0) = false:=decide_eq_false c4
  clear c4
  replace H:=Option.bind_eq_some_iff.mp H
  obtain ⟨t338,A100,H⟩:=H
  replace H : (if t338 < 0 then (some true) else ((laws_toDeal.f k l0_0).bind fun t339=>((laws_toPlay.f k a1_0 a1_1 l1_2).bind fun bt342=>((spec_IsPlay.f k t339 bt342.1 bt342.2.1 bt342.2.2).bind fun t347=>((laws_toDeal.f k l0_0).bind fun t348=>((laws_toPlay.f k a1_0 a1_1 l1_2).bind fun bt352=>((impl_IsPlay.f k t348 bt352.1 bt352.2.1 bt352.2.2).bind fun t358=>(if (t358 != t347) = true then (some false) else ((laws_toDeal.f k l0_0).bind fun t359=>((laws_eqDeal.f k t348 t359).bind fun t362=>(if t362 = true then ((laws_toPlay.f k a1_0 a1_1 l1_2).bind fun bt363=>((laws_eqPlay.f k bt352.1 bt352.2.1 bt352.2.2 bt363.1 bt363.2.1 bt363.2.2).bind fun t368=>(if t368 = true then (some true) else (some false)))) else (some false)))))))))))) = some r:=H
  have A10:=aK A100
  clear A100
  by_cases c11 : t338 < 0
  ·rw [if_pos c11] at H
   have c11b0 : decide (t338 < 0) = true:=decide_eq_true c11
   clear c11
   obtain rfl:=Option.some.inj H
   go_enter Try.func9,Try.ntmps9
   go_wp2_with (first|((with_reducible refine gate_dst (N:=2) rfl ?_);refine box_event ?hg (N:=2) ?hd (cs:=#[.slice A0_0 l0_0.length c0_0]) (t:=41) ?hr ?_;(case hd=>rfl);(case hg=>rfl);(case hr=>first|(go_simp;done)|(go_simp;rfl));intro gb335 hg w12 hbox hb;have n0_:=aK (below_step (by repeat (first|(with_reducible first|exact HB.out|apply bL|apply bM|apply b1)|exact HB.out)) hb);have n1_:=aK (hbox);have n2_:=aK ((by rw [hg];exact (below_size (by repeat (first|(with_reducible first|exact HB.out|apply bL|apply bM|apply b1)|exact HB.out))) : w.heap.size ≤ gb335));have n3_:=aK ((by rw [hg];exact (below_size (by repeat (first|(with_reducible first|exact HB.out|apply bL|apply bM|apply b1)|exact HB.out))) : w.heap.size ≤ gb335));clear HB;have HB:=n0_;have BK335:=n1_;have GW335:=n2_;have GE335:=n3_;clear n0_ n1_ n2_ n3_;clear hb hbox hg)|((with_reducible refine gate_dst (N:=3) rfl ?_);refine box_event ?hg (N:=3) ?hd (cs:=#[.int .i64 a1_0,.int .i64 a1_1,.slice A1_2 l1_2.length c1_2]) (t:=24) ?hr ?_;(case hd=>rfl);(case hg=>rfl);(case hr=>first|(go_simp;done)|(go_simp;rfl));intro gb336 hg w13 hbox hb;have n0_:=aK (bB (by (with_reducible repeat (first|apply bN|apply bD|apply bA));exact BK335.out) hb);have n1_:=aK (below_step (by repeat (first|(with_reducible first|exact HB.out|apply bL|apply bM|apply b1|refine bS ?_ GE335.out)|exact HB.out)) hb);have n2_:=aK (hbox);have n3_:=aK ((by rw [hg];exact (below_size (by repeat (first|(with_reducible first|exact HB.out|apply bL|apply bM|apply b1|refine bS ?_ GE335.out)|exact HB.out))) : w.heap.size ≤ gb336));have n4_:=aK ((by rw [hg];exact (below_size (by repeat (first|(with_reducible first|exact HB.out|apply bL|apply bM|apply b1|refine bS ?_ GE335.out)|exact HB.out))) : w.heap.size ≤ gb336));have n5_:=aK ((by rw [hg];exact Nat.ne_of_lt (blk_lt (by (with_reducible repeat (first|apply bN|apply bD|apply bA));exact BK335.out)) : gb335 ≠ gb336));have n6_:=aK ((by rw [hg];exact Nat.ne_of_gt (blk_lt (by (with_reducible repeat (first|apply bN|apply bD|apply bA));exact BK335.out)) : gb336 ≠ gb335));clear BK335;clear HB;have BK335:=n0_;have HB:=n1_;have BK336:=n2_;have GW336:=n3_;have GE336:=n4_;have NB335_336:=n5_;have NB336_335:=n6_;clear n0_ n1_ n2_ n3_ n4_ n5_ n6_;clear hb hbox hg;have hnb14:=NB335_336.out;have hnc14:=NB336_335.out;have hcz15_0 : w13.cell? ⟨gb335,0,none⟩ = some (.slice A0_0 l0_0.length c0_0):=(bC BK335.out 0).trans rfl;have hfz15_0:=blk_frozen BK335.out 0)|((with_reducible refine gate_callee (f:=40) rfl ?_);refine goesL_ (some 12) rfl rfl Try.func40 (by kernel_rfl) rfl #[.agg #[.slice A0_0 l0_0.length c0_0],.int .i64 1048576] rfl (by (try simp only [mA,mC,mN]);first|done|rfl) ?_;(with_reducible refine (laws_szDeal.calls k _ _ l0_0 1048576 t337 _ ?side1 ?side2 A3.out).mono ?_);(case side1=>repeat (first|exact (Kd.C_below HR0_0.out HB.out)|(with_reducible refine Kd.C_alloc ?_ _)|(with_reducible refine Kd.C_drewN ?_ _)|(with_reducible refine Kd.C_drew ?_)));(case side2=>exact HC0_0.out);rintro e w16 ⟨rfl,hb⟩;refine ⟨_,rfl,?_⟩;have n0_:=aK (bB (by (with_reducible repeat (first|apply bN|apply bD|apply bA));exact BK335.out) hb);have n1_:=aK (bB (by (with_reducible repeat (first|apply bN|apply bD|apply bA));exact BK336.out) hb);have n2_:=aK (below_step (by repeat (first|(with_reducible first|exact HB.out|apply bL|apply bM|apply b1|refine bS ?_ GE335.out|refine bS ?_ GE336.out)|exact HB.out)) hb);clear BK335;clear BK336;clear HB;have BK335:=n0_;have BK336:=n1_;have HB:=n2_;clear n0_ n1_ n2_;(try clear hb);(try clear hb2);(try clear hk);(try clear hi);have hcz17_0 : w16.cell? ⟨gb336,0,none⟩ = some (.int .i64 a1_0):=(bC BK336.out 0).trans rfl;have hcz17_1 : w16.cell? ⟨gb336,1,none⟩ = some (.int .i64 a1_1):=(bC BK336.out 1).trans rfl;have hcz17_2 : w16.cell? ⟨gb336,2,none⟩ = some (.slice A1_2 l1_2.length c1_2):=(bC BK336.out 2).trans rfl;have hfz17_0:=blk_frozen BK336.out 0;have hfz17_1:=blk_frozen BK336.out 1;have hfz17_2:=blk_frozen BK336.out 2)|((with_reducible refine gate_callee (f:=22) rfl ?_);refine goesL_ (some 17) rfl rfl Try.func22 (by kernel_rfl) rfl #[.agg #[.int .i64 a1_0,.int .i64 a1_1,.slice A1_2 l1_2.length c1_2],.int .i64 t337] rfl (by (try simp only [mA,mC,mN]);first|done|rfl) ?_;(with_reducible refine (laws_szPlay.calls a1_0 a1_1 _ _ l1_2 t337 t338 _ ?side1 ?side2 A10.out).mono ?_);(case side1=>repeat (first|exact (Kd.C_below HR1_2.out HB.out)|(with_reducible refine Kd.C_alloc ?_ _)|(with_reducible refine Kd.C_drewN ?_ _)|(with_reducible refine Kd.C_drew ?_)));(case side2=>exact HC1_2.out);rintro e w18 ⟨rfl,hb⟩;refine ⟨_,rfl,?_⟩;have n0_:=aK (bB (by (with_reducible repeat (first|apply bN|apply bD|apply bA));exact BK335.out) hb);have n1_:=aK (bB (by (with_reducible repeat (first|apply bN|apply bD|apply bA));exact BK336.out) hb);have n2_:=aK (below_step (by repeat (first|(with_reducible first|exact HB.out|apply bL|apply bM|apply b1|refine bS ?_ GE335.out|refine bS ?_ GE336.out)|exact HB.out)) hb);clear BK335;clear BK336;clear HB;have BK335:=n0_;have BK336:=n1_;have HB:=n2_;clear n0_ n1_ n2_;(try clear hb);(try clear hb2);(try clear hk);(try clear hi)))
   go_ret
   exact ⟨by first|rfl|(simp [errW_none,errW_some] <;> rfl)|(simp [*,errW_none,errW_some] <;> rfl),by repeat (first|(with_reducible first|exact HB.out|apply bL|apply bM|apply b1|refine bS ?_ GE335.out|refine bS ?_ GE336.out)|exact HB.out)⟩
  ·rw [if_neg c11] at H
   have c11b0 : decide (t338 < 0) = false:=decide_eq_false c11
   clear c11
   replace H:=Option.bind_eq_some_iff.mp H
   obtain ⟨t339,A190,H⟩:=H
   replace H : ((laws_toPlay.f k a1_0 a1_1 l1_2).bind fun bt342=>((spec_IsPlay.f k t339 bt342.1 bt342.2.1 bt342.2.2).bind fun t347=>((laws_toDeal.f k l0_0).bind fun t348=>((laws_toPlay.f k a1_0 a1_1 l1_2).bind fun bt352=>((impl_IsPlay.f k t348 bt352.1 bt352.2.1 bt352.2.2).bind fun t358=>(if (t358 != t347) = true then (some false) else ((laws_toDeal.f k l0_0).bind fun t359=>((laws_eqDeal.f k t348 t359).bind fun t362=>(if t362 = true then ((laws_toPlay.f k a1_0 a1_1 l1_2).bind fun bt363=>((laws_eqPlay.f k bt352.1 bt352.2.1 bt352.2.2 bt363.1 bt363.2.1 bt363.2.2).bind fun t368=>(if t368 = true then (some true) else (some false)))) else (some false)))))))))) = some r:=H
   have A19:=aK A190
   clear A190
   replace H:=Option.bind_eq_some_iff.mp H
   obtain ⟨⟨t342,t343,t344⟩,A200,H⟩:=H
   replace H : ((spec_IsPlay.f k t339 t342 t343 t344).bind fun t347=>((laws_toDeal.f k l0_0).bind fun t348=>((laws_toPlay.f k a1_0 a1_1 l1_2).bind fun bt352=>((impl_IsPlay.f k t348 bt352.1 bt352.2.1 bt352.2.2).bind fun t358=>(if (t358 != t347) = true then (some false) else ((laws_toDeal.f k l0_0).bind fun t359=>((laws_eqDeal.f k t348 t359).bind fun t362=>(if t362 = true then ((laws_toPlay.f k a1_0 a1_1 l1_2).bind fun bt363=>((laws_eqPlay.f k bt352.1 bt352.2.1 bt352.2.2 bt363.1 bt363.2.1 bt363.2.2).bind fun t368=>(if t368 = true then (some true) else (some false)))) else (some false))))))))) = some r:=H
   have A20:=aK A200
   clear A200
   replace H:=Option.bind_eq_some_iff.mp H
   obtain ⟨t347,A210,H⟩:=H
   replace H : ((laws_toDeal.f k l0_0).bind fun t348=>((laws_toPlay.f k a1_0 a1_1 l1_2).bind fun bt352=>((impl_IsPlay.f k t348 bt352.1 bt352.2.1 bt352.2.2).bind fun t358=>(if (t358 != t347) = true then (some false) else ((laws_toDeal.f k l0_0).bind fun t359=>((laws_eqDeal.f k t348 t359).bind fun t362=>(if t362 = true then ((laws_toPlay.f k a1_0 a1_1 l1_2).bind fun bt363=>((laws_eqPlay.f k bt352.1 bt352.2.1 bt352.2.2 bt363.1 bt363.2.1 bt363.2.2).bind fun t368=>(if t368 = true then (some true) else (some false)))) else (some false)))))))) = some r:=H
   have A21:=aK A210
   clear A210
   replace H:=Option.bind_eq_some_iff.mp H
   obtain ⟨t348,A220,H⟩:=H
   replace H : ((laws_toPlay.f k a1_0 a1_1 l1_2).bind fun bt352=>((impl_IsPlay.f k t348 bt352.1 bt352.2.1 bt352.2.2).bind fun t358=>(if (t358 != t347) = true then (some false) else ((laws_toDeal.f k l0_0).bind fun t359=>((laws_eqDeal.f k t348 t359).bind fun t362=>(if t362 = true then ((laws_toPlay.f k a1_0 a1_1 l1_2).bind fun bt363=>((laws_eqPlay.f k bt352.1 bt352.2.1 bt352.2.2 bt363.1 bt363.2.1 bt363.2.2).bind fun t368=>(if t368 = true then (some true) else (some false)))) else (some false))))))) = some r:=H
   have A22:=aK A220
   clear A220
   replace H:=Option.bind_eq_some_iff.mp H
   obtain ⟨⟨t352,t353,t354⟩,A230,H⟩:=H
   replace H : ((impl_IsPlay.f k t348 t352 t353 t354).bind fun t358=>(if (t358 != t347) = true then (some false) else ((laws_toDeal.f k l0_0).bind fun t359=>((laws_eqDeal.f k t348 t359).bind fun t362=>(if t362 = true then ((laws_toPlay.f k a1_0 a1_1 l1_2).bind fun bt363=>((laws_eqPlay.f k t352 t353 t354 bt363.1 bt363.2.1 bt363.2.2).bind fun t368=>(if t368 = true then (some true) else (some false)))) else (some false)))))) = some r:=H
   have A23:=aK A230
   clear A230
   replace H:=Option.bind_eq_some_iff.mp H
   obtain ⟨t358,A240,H⟩:=H
   replace H : (if (t358 != t347) = true then (some false) else ((laws_toDeal.f k l0_0).bind fun t359=>((laws_eqDeal.f k t348 t359).bind fun t362=>(if t362 = true then ((laws_toPlay.f k a1_0 a1_1 l1_2).bind fun bt363=>((laws_eqPlay.f k t352 t353 t354 bt363.1 bt363.2.1 bt363.2.2).bind fun t368=>(if t368 = true then (some true) else (some false)))) else (some false))))) = some r:=H
   have A24:=aK A240
   clear A240
   by_cases c25 : (t358 != t347) = true
   ·rw [if_pos c25] at H
    have c25b0 : (t358 != t347) = true:=c25
    (try (have c25b1 : decide (t358 = t347) = false:=by simpa using c25))
    (try (have c25b2 : (t358 == t347) = false:=by simpa using c25))
    (try (have c25b3 : ¬ (t358 = t347):=by simpa using c25))
    clear c25
    obtain rfl:=Option.some.inj H
    go_enter Try.func9,Try.ntmps9
    try go_wp2_with (first|((with_reducible refine gate_dst (N:=2) rfl ?_);refine box_event ?hg (N:=2) ?hd (cs:=#[.slice A0_0 l0_0.length c0_0]) (t:=41) ?hr ?_;(case hd=>rfl);(case hg=>rfl);(case hr=>first|(go_simp;done)|(go_simp;rfl));intro gb335 hg w26 hbox hb;have n0_:=aK (below_step (by repeat (first|(with_reducible first|exact HB.out|apply bL|apply bM|apply b1)|exact HB.out)) hb);have n1_:=aK (hbox);have n2_:=aK ((by rw [hg];exact (below_size (by repeat (first|(with_reducible first|exact HB.out|apply bL|apply bM|apply b1)|exact HB.out))) : w.heap.size ≤ gb335));have n3_:=aK ((by rw [hg];exact (below_size (by repeat (first|(with_reducible first|exact HB.out|apply bL|apply bM|apply b1)|exact HB.out))) : w.heap.size ≤ gb335));clear HB;have HB:=n0_;have BK335:=n1_;have GW335:=n2_;have GE335:=n3_;clear n0_ n1_ n2_ n3_;clear hb hbox hg)|((with_reducible refine gate_dst (N:=3) rfl ?_);refine box_event ?hg (N:=3) ?hd (cs:=#[.int .i64 a1_0,.int .i64 a1_1,.slice A1_2 l1_2.length c1_2]) (t:=24) ?hr ?_;(case hd=>rfl);(case hg=>rfl);(case hr=>first|(go_simp;done)|(go_simp;rfl));intro gb336 hg w27 hbox hb;have n0_:=aK (bB (by (with_reducible repeat (first|apply bN|apply bD|apply bA));exact BK335.out) hb);have n1_:=aK (below_step (by repeat (first|(with_reducible first|exact HB.out|apply bL|apply bM|apply b1|refine bS ?_ GE335.out)|exact HB.out)) hb);have n2_:=aK (hbox);have n3_:=aK ((by rw [hg];exact (below_size (by repeat (first|(with_reducible first|exact HB.out|apply bL|apply bM|apply b1|refine bS ?_ GE335.out)|exact HB.out))) : w.heap.size ≤ gb336));have n4_:=aK ((by rw [hg];exact (below_size (by repeat (first|(with_reducible first|exact HB.out|apply bL|apply bM|apply b1|refine bS ?_ GE335.out)|exact HB.out))) : w.heap.size ≤ gb336));have n5_:=aK ((by rw [hg];exact Nat.ne_of_lt (blk_lt (by (with_reducible repeat (first|apply bN|apply bD|apply bA));exact BK335.out)) : gb335 ≠ gb336));have n6_:=aK ((by rw [hg];exact Nat.ne_of_gt (blk_lt (by (with_reducible repeat (first|apply bN|apply bD|apply bA));exact BK335.out)) : gb336 ≠ gb335));clear BK335;clear HB;have BK335:=n0_;have HB:=n1_;have BK336:=n2_;have GW336:=n3_;have GE336:=n4_;have NB335_336:=n5_;have NB336_335:=n6_;clear n0_ n1_ n2_ n3_ n4_ n5_ n6_;clear hb hbox hg;have hnb28:=NB335_336.out;have hnc28:=NB336_335.out;have hcz29_0 : w27.cell? ⟨gb335,0,none⟩ = some (.slice A0_0 l0_0.length c0_0):=(bC BK335.out 0).trans rfl;have hfz29_0:=blk_frozen BK335.out 0)|((with_reducible refine gate_callee (f:=40) rfl ?_);refine goesL_ (some 12) rfl rfl Try.func40 (by kernel_rfl) rfl #[.agg #[.slice A0_0 l0_0.length c0_0],.int .i64 1048576] rfl (by (try simp only [mA,mC,mN]);first|done|rfl) ?_;(with_reducible refine (laws_szDeal.calls k _ _ l0_0 1048576 t337 _ ?side1 ?side2 A3.out).mono ?_);(case side1=>repeat (first|exact (Kd.C_below HR0_0.out HB.out)|(with_reducible refine Kd.C_alloc ?_ _)|(with_reducible refine Kd.C_drewN ?_ _)|(with_reducible refine Kd.C_drew ?_)));(case side2=>exact HC0_0.out);rintro e w30 ⟨rfl,hb⟩;refine ⟨_,rfl,?_⟩;have n0_:=aK (bB (by (with_reducible repeat (first|apply bN|apply bD|apply bA));exact BK335.out) hb);have n1_:=aK (bB (by (with_reducible repeat (first|apply bN|apply bD|apply bA));exact BK336.out) hb);have n2_:=aK (below_step (by repeat (first|(with_reducible first|exact HB.out|apply bL|apply bM|apply b1|refine bS ?_ GE335.out|refine bS ?_ GE336.out)|exact HB.out)) hb);clear BK335;clear BK336;clear HB;have BK335:=n0_;have BK336:=n1_;have HB:=n2_;clear n0_ n1_ n2_;(try clear hb);(try clear hb2);(try clear hk);(try clear hi);have hcz31_0 : w30.cell? ⟨gb336,0,none⟩ = some (.int .i64 a1_0):=(bC BK336.out 0).trans rfl;have hcz31_1 : w30.cell? ⟨gb336,1,none⟩ = some (.int .i64 a1_1):=(bC BK336.out 1).trans rfl;have hcz31_2 : w30.cell? ⟨gb336,2,none⟩ = some (.slice A1_2 l1_2.length c1_2):=(bC BK336.out 2).trans rfl;have hfz31_0:=blk_frozen BK336.out 0;have hfz31_1:=blk_frozen BK336.out 1;have hfz31_2:=blk_frozen BK336.out 2)|((with_reducible refine gate_callee (f:=22) rfl ?_);refine goesL_ (some 17) rfl rfl Try.func22 (by kernel_rfl) rfl #[.agg #[.int .i64 a1_0,.int .i64 a1_1,.slice A1_2 l1_2.length c1_2],.int .i64 t337] rfl (by (try simp only [mA,mC,mN]);first|done|rfl) ?_;(with_reducible refine (laws_szPlay.calls a1_0 a1_1 _ _ l1_2 t337 t338 _ ?side1 ?side2 A10.out).mono ?_);(case side1=>repeat (first|exact (Kd.C_below HR1_2.out HB.out)|(with_reducible refine Kd.C_alloc ?_ _)|(with_reducible refine Kd.C_drewN ?_ _)|(with_reducible refine Kd.C_drew ?_)));(case side2=>exact HC1_2.out);rintro e w32 ⟨rfl,hb⟩;refine ⟨_,rfl,?_⟩;have n0_:=aK (bB (by (with_reducible repeat (first|apply bN|apply bD|apply bA));exact BK335.out) hb);have n1_:=aK (bB (by (with_reducible repeat (first|apply bN|apply bD|apply bA));exact BK336.out) hb);have n2_:=aK (below_step (by repeat (first|(with_reducible first|exact HB.out|apply bL|apply bM|apply b1|refine bS ?_ GE335.out|refine bS ?_ GE336.out)|exact HB.out)) hb);clear BK335;clear BK336;clear HB;have BK335:=n0_;have BK336:=n1_;have HB:=n2_;clear n0_ n1_ n2_;(try clear hb);(try clear hb2);(try clear hk);(try clear hi)))
    have n0_:=aK (bD BK335.out)
    have n1_:=aK (bD BK336.out)
    have n2_:=aK (b1 HB.out)
    clear BK335
    clear BK336
    clear HB
    have BK335:=n0_
    have BK336:=n1_
    have HB:=n2_
    clear n0_ n1_ n2_
    refine start_ (n:=6) (S:=fun w'=>w'.cell? ⟨gb335,0,none⟩ = some (.slice A0_0 l0_0.length c0_0) ∧ w'.cell? ⟨gb336,0,none⟩ = some (.int .i64 a1_0) ∧ w'.cell? ⟨gb336,1,none⟩ = some (.int .i64 a1_1) ∧ w'.cell? ⟨gb336,2,none⟩ = some (.slice A1_2 l1_2.length c1_2)) (ds:=[]) #[false,false,false,false,false,false] (by kernel_rfl) rfl rfl ⟨(bC BK335.out 0).trans rfl,(bC BK336.out 0).trans rfl,(bC BK336.out 1).trans rfl,(bC BK336.out 2).trans rfl⟩ (fun hHeld=>?_)
    generalize w32.drew = w33 at BK335 BK336 HB hHeld ⊢
    refine take_ (i:=0) (N:=some 20) (v:=?_) (a':=?_) #[true,false,false,false,false,false] rfl rfl (by kernel_rfl) (fun _ _ _ h=>h) (Or.inl ⟨by rfl,?_⟩) hHeld ?_ ?_
    rotate_left
    ·rintro w' ⟨s0,s1,s2,s3⟩
     go_simp
     with_reducible rfl
    rotate_left
    ·simp only [Act.put,lA,l0',lS,i64_w,i32_w]
     rfl
    refine take_ (i:=2) (N:=some 22) (v:=?_) (a':=?_) #[true,false,true,false,false,false] rfl rfl (by kernel_rfl) (fun _ _ _ h=>h) (Or.inl ⟨by rfl,?_⟩) hHeld ?_ ?_
    rotate_left
    ·rintro w' ⟨s0,s1,s2,s3⟩
     go_simp
     with_reducible rfl
    rotate_left
    ·simp only [Act.put,lA,l0',lS,i64_w,i32_w]
     rfl
    refine one_ (i:=1) (N:=some 21) #[true,true,true,false,false,false] rfl rfl (by kernel_rfl) (by decide) (fun K hK=>?_)
    refine goes_ Try.func42 (by kernel_rfl) rfl #[.agg #[.slice A0_0 l0_0.length c0_0]] (by rfl) rfl rfl (by (try simp only [mA,mC,mN]);first|done|rfl) ?_
    with_reducible refine (laws_toDeal.calls k _ _ l0_0 t339 _ ?side1 ?side2 A19.out).mono ?_
    (case side1=>repeat (first|exact (Kd.C_below HR0_0.out HB.out)|(with_reducible refine Kd.C_alloc ?_ _)|(with_reducible refine Kd.C_drewN ?_ _)|(with_reducible refine Kd.C_drew ?_)))
    (case side2=>exact HC0_0.out)
    rintro e w34 ⟨v340,rfl,ho0,hb⟩
    refine ⟨_,rfl,?_⟩
    have n0_:=aK (Kd.S_lower ho0 (below_size (by repeat (first|(with_reducible first|exact HB.out|apply bL|apply bM|apply b1|refine bS ?_ GE335.out|refine bS ?_ GE336.out)|exact HB.out))))
    have n1_:=aK (bB (by (with_reducible repeat (first|apply bN|apply bD|apply bA));exact BK335.out) hb)
    have n2_:=aK (bB (by (with_reducible repeat (first|apply bN|apply bD|apply bA));exact BK336.out) hb)
    have n3_:=aK (below_step (by repeat (first|(with_reducible first|exact HB.out|apply bL|apply bM|apply b1|refine bS ?_ GE335.out|refine bS ?_ GE336.out)|exact HB.out)) hb)
    clear BK335
    clear BK336
    clear HB
    have HO341:=n0_
    have BK335:=n1_
    have BK336:=n2_
    have HB:=n3_
    clear n0_ n1_ n2_ n3_
    (try clear hb)
    (try clear hb2)
    (try clear hk)
    (try clear hi)
    (try clear ho0)
    refine hK.out _ _ ⟨(bC BK335.out 0).trans rfl,(bC BK336.out 0).trans rfl,(bC BK336.out 1).trans rfl,(bC BK336.out 2).trans rfl⟩ (fun hHeld=>?_)
    clear hK K
    refine norm_ (a':=?_) ?_ ?_
    rotate_left
    ·show Act.put _ (some 21) _ = _
     simp only [Act.put,lA,l0',lS,i64_w,i32_w]
     rfl
    refine one_ (i:=3) (N:=some 23) #[true,true,true,true,false,false] rfl rfl (by kernel_rfl) (by decide) (fun K hK=>?_)
    refine goes_ Try.func24 (by kernel_rfl) rfl #[.agg #[.int .i64 a1_0,.int .i64 a1_1,.slice A1_2 l1_2.length c1_2]] (by rfl) rfl rfl (by (try simp only [mA,mC,mN]);first|done|rfl) ?_
    with_reducible refine (laws_toPlay.calls k a1_0 a1_1 _ _ l1_2 t342 t343 t344 _ ?side1 ?side2 A20.out).mono ?_
    (case side1=>repeat (first|exact (Kd.C_below HR1_2.out HB.out)|(with_reducible refine Kd.C_alloc ?_ _)|(with_reducible refine Kd.C_drewN ?_ _)|(with_reducible refine Kd.C_drew ?_)))
    (case side2=>exact HC1_2.out)
    rintro e w35 ⟨v345,rfl,ho0,hb⟩
    refine ⟨_,rfl,?_⟩
    have n0_:=aK (Kd.S_elder' (by (with_reducible repeat (first|apply Kd.S_alloc|apply Kd.S_drewN|apply Kd.S_drew));exact HO341.out) (Kd.R_base ho0) hb)
    have n1_:=aK (Kd.R_lower ho0 (below_size (by repeat (first|(with_reducible first|exact HB.out|apply bL|apply bM|apply b1|refine bS ?_ GE335.out|refine bS ?_ GE336.out)|exact HB.out))))
    have n2_:=aK (bB (by (with_reducible repeat (first|apply bN|apply bD|apply bA));exact BK335.out) hb)
    have n3_:=aK (bB (by (with_reducible repeat (first|apply bN|apply bD|apply bA));exact BK336.out) hb)
    have n4_:=aK (below_step (by repeat (first|(with_reducible first|exact HB.out|apply bL|apply bM|apply b1|refine bS ?_ GE335.out|refine bS ?_ GE336.out)|exact HB.out)) hb)
    clear HO341
    clear BK335
    clear BK336
    clear HB
    have HO341:=n0_
    have HO346:=n1_
    have BK335:=n2_
    have BK336:=n3_
    have HB:=n4_
    clear n0_ n1_ n2_ n3_ n4_
    (try clear hb)
    (try clear hb2)
    (try clear hk)
    (try clear hi)
    (try clear ho0)
    obtain ⟨Ao36,co36,eo36⟩:=Kd.S_slice HO341.out
    (first|subst eo36|(injection eo36 with f1_ f2_ f3_;have f4_:=f1_.symm;have f5_:=f3_.symm;clear f1_ f2_ f3_;subst f4_;subst f5_))
    obtain ⟨Ao37,co37,eo37⟩:=Kd.R_slice HO346.out
    (first|subst eo37|(injection eo37 with f1_ f2_ f3_;have f4_:=f1_.symm;have f5_:=f3_.symm;clear f1_ f2_ f3_;subst f4_;subst f5_))
    refine hK.out _ _ ⟨(bC BK335.out 0).trans rfl,(bC BK336.out 0).trans rfl,(bC BK336.out 1).trans rfl,(bC BK336.out 2).trans rfl⟩ (fun hHeld=>?_)
    clear hK K
    refine norm_ (a':=?_) ?_ ?_
    rotate_left
    ·show Act.put _ (some 23) _ = _
     simp only [Act.put,lA,l0',lS,i64_w,i32_w]
     rfl
    refine one_ (i:=4) (N:=some 24) #[true,true,true,true,true,false] rfl rfl (by kernel_rfl) (by decide) (fun K hK=>?_)
    refine goes_ Try.func45 (by kernel_rfl) rfl #[.agg #[.slice Ao36 t339.length co36],.agg #[.int .i64 t342,.int .i64 t343,.slice Ao37 t344.length co37]] (by rfl) rfl rfl (by (try simp only [mA,mC,mN]);first|done|rfl) ?_
    with_reducible refine (spec_IsPlay.calls k _ _ t339 t342 t343 _ _ t344 t347 _ ?side1 ?side2 ?side3 ?side4 A21.out).mono ?_
    (case side1=>repeat (first|exact (Kd.S_reads' HO341.out).2.2|(with_reducible refine Kd.C_alloc ?_ _)|(with_reducible refine Kd.C_drewN ?_ _)|(with_reducible refine Kd.C_drew ?_)))
    (case side2=>exact (Kd.S_reads' HO341.out).2.1)
    (case side3=>repeat (first|exact (Kd.R_reads' HO346.out).2.2|(with_reducible refine Kd.C_alloc ?_ _)|(with_reducible refine Kd.C_drewN ?_ _)|(with_reducible refine Kd.C_drew ?_)))
    (case side4=>exact (Kd.R_reads' HO346.out).2.1)
    rintro e w38 ⟨rfl,hb⟩
    refine ⟨_,rfl,?_⟩
    have n0_:=aK (Kd.S_below (by (with_reducible repeat (first|apply Kd.S_alloc|apply Kd.S_drewN|apply Kd.S_drew));exact HO341.out) hb)
    have n1_:=aK (Kd.R_below (by (with_reducible repeat (first|apply Kd.R_alloc|apply Kd.R_drewN|apply Kd.R_drew));exact HO346.out) hb)
    have n2_:=aK (bB (by (with_reducible repeat (first|apply bN|apply bD|apply bA));exact BK335.out) hb)
    have n3_:=aK (bB (by (with_reducible repeat (first|apply bN|apply bD|apply bA));exact BK336.out) hb)
    have n4_:=aK (below_step (by repeat (first|(with_reducible first|exact HB.out|apply bL|apply bM|apply b1|refine bS ?_ GE335.out|refine bS ?_ GE336.out)|exact HB.out)) hb)
    clear HO341
    clear HO346
    clear BK335
    clear BK336
    clear HB
    have HO341:=n0_
    have HO346:=n1_
    have BK335:=n2_
    have BK336:=n3_
    have HB:=n4_
    clear n0_ n1_ n2_ n3_ n4_
    (try clear hb)
    (try clear hb2)
    (try clear hk)
    (try clear hi)
    refine hK.out _ _ ⟨(bC BK335.out 0).trans rfl,(bC BK336.out 0).trans rfl,(bC BK336.out 1).trans rfl,(bC BK336.out 2).trans rfl⟩ (fun hHeld=>?_)
    clear hK K
    refine norm_ (a':=?_) ?_ ?_
    rotate_left
    ·show Act.put _ (some 24) _ = _
     simp only [Act.put,lA,l0',lS,i64_w,i32_w]
     rfl
    refine pure_ (i:=5) (N:=some 6) (v:=?_) (a':=?_) #[true,true,true,true,true,true] rfl rfl (by kernel_rfl) (fun _ _ _ h=>h) (Or.inl ⟨by rfl,?_⟩) ?_ ?_
    rotate_left
    ·intro w'
     go_simp
     with_reducible rfl
    rotate_left
    ·simp only [Act.put,lA,l0',lS,i64_w,i32_w]
     rfl
    refine done_ (by kernel_rfl) ?_
    have hcz39_0 : w38.cell? ⟨gb335,0,none⟩ = some (.slice A0_0 l0_0.length c0_0):=(bC BK335.out 0).trans rfl
    have hfz39_0:=blk_frozen BK335.out 0
    try go_wp2_with (first|((with_reducible refine gate_callee (f:=42) rfl ?_);refine goesL_ (some 26) rfl rfl Try.func42 (by kernel_rfl) rfl #[.agg #[.slice A0_0 l0_0.length c0_0]] rfl (by (try simp only [mA,mC,mN]);first|done|rfl) ?_;(with_reducible refine (laws_toDeal.calls k _ _ l0_0 t348 _ ?side1 ?side2 A22.out).mono ?_);(case side1=>repeat (first|exact (Kd.C_below HR0_0.out HB.out)|(with_reducible refine Kd.C_alloc ?_ _)|(with_reducible refine Kd.C_drewN ?_ _)|(with_reducible refine Kd.C_drew ?_)));(case side2=>exact HC0_0.out);rintro e w40 ⟨v349,rfl,ho0,hb⟩;refine ⟨_,rfl,?_⟩;have n0_:=aK (Kd.S_elder' (by (with_reducible repeat (first|apply Kd.S_alloc|apply Kd.S_drewN|apply Kd.S_drew));exact HO341.out) (Kd.S_base ho0) hb);have n1_:=aK (Kd.R_below (by (with_reducible repeat (first|apply Kd.R_alloc|apply Kd.R_drewN|apply Kd.R_drew));exact HO346.out) hb);have n2_:=aK (Kd.S_lower (Kd.S_new' (Kd.S_new' ho0 (Kd.S_lt (by (with_reducible repeat (first|apply Kd.S_alloc|apply Kd.S_drewN|apply Kd.S_drew));exact HO341.out))) (Kd.R_lt (by (with_reducible repeat (first|apply Kd.R_alloc|apply Kd.R_drewN|apply Kd.R_drew));exact HO346.out))) (below_size (by repeat (first|(with_reducible first|exact HB.out|apply bL|apply bM|apply b1|refine bS ?_ GE335.out|refine bS ?_ GE336.out)|exact HB.out))));have n3_:=aK (bB (by (with_reducible repeat (first|apply bN|apply bD|apply bA));exact BK335.out) hb);have n4_:=aK (bB (by (with_reducible repeat (first|apply bN|apply bD|apply bA));exact BK336.out) hb);have n5_:=aK (below_step (by repeat (first|(with_reducible first|exact HB.out|apply bL|apply bM|apply b1|refine bS ?_ GE335.out|refine bS ?_ GE336.out)|exact HB.out)) hb);clear HO341;clear HO346;clear BK335;clear BK336;clear HB;have HO341:=n0_;have HO346:=n1_;have HO350:=n2_;have BK335:=n3_;have BK336:=n4_;have HB:=n5_;clear n0_ n1_ n2_ n3_ n4_ n5_;(try clear hb);(try clear hb2);(try clear hk);(try clear hi);(try clear ho0))|((with_reducible refine gate_dst (N:=7) rfl ?_);refine box_event ?hg (N:=7) ?hd (cs:=#[.slice none 0 0]) (t:=44) ?hr ?_;(case hd=>rfl);(case hg=>rfl);(case hr=>first|(go_simp;done)|(go_simp;rfl));intro gb351 hg w41 hbox hb;have n0_:=aK (Kd.S_below (by (with_reducible repeat (first|apply Kd.S_alloc|apply Kd.S_drewN|apply Kd.S_drew));exact HO341.out) hb);have n1_:=aK (Kd.R_below (by (with_reducible repeat (first|apply Kd.R_alloc|apply Kd.R_drewN|apply Kd.R_drew));exact HO346.out) hb);have n2_:=aK (Kd.S_below (by (with_reducible repeat (first|apply Kd.S_alloc|apply Kd.S_drewN|apply Kd.S_drew));exact HO350.out) hb);have n3_:=aK (bB (by (with_reducible repeat (first|apply bN|apply bD|apply bA));exact BK335.out) hb);have n4_:=aK (bB (by (with_reducible repeat (first|apply bN|apply bD|apply bA));exact BK336.out) hb);have n5_:=aK (below_step (by repeat (first|(with_reducible first|exact HB.out|apply bL|apply bM|apply b1|refine bS ?_ GE335.out|refine bS ?_ GE336.out)|exact HB.out)) hb);have n6_:=aK (hbox);have n7_:=aK ((by rw [hg];exact (below_size (by repeat (first|(with_reducible first|exact HB.out|apply bL|apply bM|apply b1|refine bS ?_ GE335.out|refine bS ?_ GE336.out)|exact HB.out))) : w.heap.size ≤ gb351));have n8_:=aK ((by rw [hg];exact (below_size (by repeat (first|(with_reducible first|exact HB.out|apply bL|apply bM|apply b1|refine bS ?_ GE335.out|refine bS ?_ GE336.out)|exact HB.out))) : w.heap.size ≤ gb351));have n9_:=aK ((by rw [hg];exact Nat.ne_of_lt (blk_lt (by (with_reducible repeat (first|apply bN|apply bD|apply bA));exact BK335.out)) : gb335 ≠ gb351));have n10_:=aK ((by rw [hg];exact Nat.ne_of_gt (blk_lt (by (with_reducible repeat (first|apply bN|apply bD|apply bA));exact BK335.out)) : gb351 ≠ gb335));have n11_:=aK ((by rw [hg];exact Nat.ne_of_lt (blk_lt (by (with_reducible repeat (first|apply bN|apply bD|apply bA));exact BK336.out)) : gb336 ≠ gb351));have n12_:=aK ((by rw [hg];exact Nat.ne_of_gt (blk_lt (by (with_reducible repeat (first|apply bN|apply bD|apply bA));exact BK336.out)) : gb351 ≠ gb336));clear HO341;clear HO346;clear HO350;clear BK335;clear BK336;clear HB;have HO341:=n0_;have HO346:=n1_;have HO350:=n2_;have BK335:=n3_;have BK336:=n4_;have HB:=n5_;have BK351:=n6_;have GW351:=n7_;have GE351:=n8_;have NB335_351:=n9_;have NB351_335:=n10_;have NB336_351:=n11_;have NB351_336:=n12_;clear n0_ n1_ n2_ n3_ n4_ n5_ n6_ n7_ n8_ n9_ n10_ n11_ n12_;clear hb hbox hg;obtain ⟨Ao42,co42,eo42⟩:=Kd.S_slice HO350.out;subst eo42;have hnb43:=NB351_335.out;have hnc43:=NB335_351.out;have hnb44:=NB351_336.out;have hnc44:=NB336_351.out;have hcz45_0 : w41.cell? ⟨gb351,0,none⟩ = some (.slice none 0 0):=(bC BK351.out 0).trans rfl;have hfz45_0:=blk_frozen BK351.out 0;have hcz46_0 : w41.cell? ⟨gb336,0,none⟩ = some (.int .i64 a1_0):=(bC BK336.out 0).trans rfl;have hcz46_1 : w41.cell? ⟨gb336,1,none⟩ = some (.int .i64 a1_1):=(bC BK336.out 1).trans rfl;have hcz46_2 : w41.cell? ⟨gb336,2,none⟩ = some (.slice A1_2 l1_2.length c1_2):=(bC BK336.out 2).trans rfl;have hfz46_0:=blk_frozen BK336.out 0;have hfz46_1:=blk_frozen BK336.out 1;have hfz46_2:=blk_frozen BK336.out 2)|((with_reducible refine gate_callee (f:=24) rfl ?_);refine goesL_ (some 28) rfl rfl Try.func24 (by kernel_rfl) rfl #[.agg #[.int .i64 a1_0,.int .i64 a1_1,.slice A1_2 l1_2.length c1_2]] rfl (by (try simp only [mA,mC,mN]);first|done|rfl) ?_;(with_reducible refine (laws_toPlay.calls k a1_0 a1_1 _ _ l1_2 t352 t353 t354 _ ?side1 ?side2 A23.out).mono ?_);(case side1=>exact Kd.C_below HR1_2.out (by repeat (first|(with_reducible first|exact HB.out|apply bL|apply bM|apply b1|refine bS ?_ GE335.out|refine bS ?_ GE336.out|refine bS ?_ GE351.out)|exact HB.out)));(case side2=>exact HC1_2.out);rintro e w47 ⟨v355,rfl,ho0,hb⟩;refine ⟨_,rfl,?_⟩;have n0_:=aK (Kd.S_elder' (by (with_reducible repeat (first|apply Kd.S_alloc|apply Kd.S_drewN|apply Kd.S_drew));exact (Kd.S_mono (Kd.S_far (p:=⟨gb351,0,none⟩) (Kd.S_types HO341.out BK351.out (by decide)) (fun _ hk=>by first|exact hk.2|(have h_:=hk;(try simp only [and_assoc,true_and] at h_);(repeat' apply And.intro) <;> first|with_reducible exact h_.1|with_reducible exact h_.2.1|with_reducible exact h_.2.2.1|with_reducible exact h_.2.2.2.1|with_reducible exact h_.2.2.2.2.1|with_reducible exact h_.2.2.2.2.2.1|with_reducible exact h_.2.2.2.2.2.2.1|with_reducible exact h_.2.2.2.2.2.2.2.1|with_reducible exact h_.2.2.2.2.2.2.2.2.1|with_reducible exact h_.2|with_reducible exact h_.2.2|with_reducible exact h_.2.2.2|with_reducible exact h_.2.2.2.2|with_reducible exact h_.2.2.2.2.2|with_reducible exact h_.2.2.2.2.2.2|with_reducible exact h_.2.2.2.2.2.2.2|with_reducible exact h_.2.2.2.2.2.2.2.2)) (.slice Ao42 t348.length co42)) (fun _ h_=>h_.1))) (Kd.R_base ho0) hb);have n1_:=aK (Kd.R_elder' (by (with_reducible repeat (first|apply Kd.R_alloc|apply Kd.R_drewN|apply Kd.R_drew));exact (Kd.R_mono (Kd.R_far (p:=⟨gb351,0,none⟩) (Kd.R_types HO346.out BK351.out (by decide)) (fun _ hk=>by first|exact hk.2|(have h_:=hk;(try simp only [and_assoc,true_and] at h_);(repeat' apply And.intro) <;> first|with_reducible exact h_.1|with_reducible exact h_.2.1|with_reducible exact h_.2.2.1|with_reducible exact h_.2.2.2.1|with_reducible exact h_.2.2.2.2.1|with_reducible exact h_.2.2.2.2.2.1|with_reducible exact h_.2.2.2.2.2.2.1|with_reducible exact h_.2.2.2.2.2.2.2.1|with_reducible exact h_.2.2.2.2.2.2.2.2.1|with_reducible exact h_.2|with_reducible exact h_.2.2|with_reducible exact h_.2.2.2|with_reducible exact h_.2.2.2.2|with_reducible exact h_.2.2.2.2.2|with_reducible exact h_.2.2.2.2.2.2|with_reducible exact h_.2.2.2.2.2.2.2|with_reducible exact h_.2.2.2.2.2.2.2.2)) (.slice Ao42 t348.length co42)) (fun _ h_=>h_.1))) (Kd.R_base ho0) hb);have n2_:=aK (Kd.S_elder' (by (with_reducible repeat (first|apply Kd.S_alloc|apply Kd.S_drewN|apply Kd.S_drew));exact (Kd.S_mono (Kd.S_far (p:=⟨gb351,0,none⟩) (Kd.S_types HO350.out BK351.out (by decide)) (fun _ hk=>by first|exact hk.2|(have h_:=hk;(try simp only [and_assoc,true_and] at h_);(repeat' apply And.intro) <;> first|with_reducible exact h_.1|with_reducible exact h_.2.1|with_reducible exact h_.2.2.1|with_reducible exact h_.2.2.2.1|with_reducible exact h_.2.2.2.2.1|with_reducible exact h_.2.2.2.2.2.1|with_reducible exact h_.2.2.2.2.2.2.1|with_reducible exact h_.2.2.2.2.2.2.2.1|with_reducible exact h_.2.2.2.2.2.2.2.2.1|with_reducible exact h_.2|with_reducible exact h_.2.2|with_reducible exact h_.2.2.2|with_reducible exact h_.2.2.2.2|with_reducible exact h_.2.2.2.2.2|with_reducible exact h_.2.2.2.2.2.2|with_reducible exact h_.2.2.2.2.2.2.2|with_reducible exact h_.2.2.2.2.2.2.2.2)) (.slice Ao42 t348.length co42)) (fun _ h_=>h_.1))) (Kd.R_base ho0) hb);have n3_:=aK (Kd.R_lower (Kd.R_new' ho0 (Kd.R_lt (by (with_reducible repeat (first|apply Kd.R_alloc|apply Kd.R_drewN|apply Kd.R_drew));exact (Kd.R_mono (Kd.R_far (p:=⟨gb351,0,none⟩) (Kd.R_types HO346.out BK351.out (by decide)) (fun _ hk=>by first|exact hk.2|(have h_:=hk;(try simp only [and_assoc,true_and] at h_);(repeat' apply And.intro) <;> first|with_reducible exact h_.1|with_reducible exact h_.2.1|with_reducible exact h_.2.2.1|with_reducible exact h_.2.2.2.1|with_reducible exact h_.2.2.2.2.1|with_reducible exact h_.2.2.2.2.2.1|with_reducible exact h_.2.2.2.2.2.2.1|with_reducible exact h_.2.2.2.2.2.2.2.1|with_reducible exact h_.2.2.2.2.2.2.2.2.1|with_reducible exact h_.2|with_reducible exact h_.2.2|with_reducible exact h_.2.2.2|with_reducible exact h_.2.2.2.2|with_reducible exact h_.2.2.2.2.2|with_reducible exact h_.2.2.2.2.2.2|with_reducible exact h_.2.2.2.2.2.2.2|with_reducible exact h_.2.2.2.2.2.2.2.2)) (.slice Ao42 t348.length co42)) (fun _ h_=>h_.1))))) (below_size (by repeat (first|(with_reducible first|exact HB.out|apply bL|apply bM|apply b1|refine bS ?_ GE335.out|refine bS ?_ GE336.out|refine bS ?_ GE351.out)|exact HB.out))));have n4_:=aK (bB (g:=gb335) (o:=.cells #[.slice A0_0 l0_0.length c0_0] 41 (0,0)) (by (with_reducible repeat (first|apply bN|apply bD|apply bA));refine blk_far ?_ NB335_351.out _;(with_reducible repeat (first|apply bN|apply bD|apply bA));exact BK335.out) hb);have n5_:=aK (bB (g:=gb336) (o:=.cells #[.int .i64 a1_0,.int .i64 a1_1,.slice A1_2 l1_2.length c1_2] 24 (0,0)) (by (with_reducible repeat (first|apply bN|apply bD|apply bA));refine blk_far ?_ NB336_351.out _;(with_reducible repeat (first|apply bN|apply bD|apply bA));exact BK336.out) hb);have n6_:=aK (bB (g:=gb351) (o:=.cells #[.slice Ao42 t348.length co42] 44 (0,0)) (by (with_reducible repeat (first|apply bN|apply bD|apply bA));refine blk_put (cs:=#[.slice none 0 0]) ?_ 0 _ rfl;(with_reducible repeat (first|apply bN|apply bD|apply bA));exact BK351.out) hb);have n7_:=aK (below_step (by repeat (first|(with_reducible first|exact HB.out|apply bL|apply bM|apply b1|refine bS ?_ GE335.out|refine bS ?_ GE336.out|refine bS ?_ GE351.out)|exact HB.out)) hb);clear HO341;clear HO346;clear HO350;clear BK335;clear BK336;clear BK351;clear HB;have HO341:=n0_;have HO346:=n1_;have HO350:=n2_;have HO356:=n3_;have BK335:=n4_;have BK336:=n5_;have BK351:=n6_;have HB:=n7_;clear n0_ n1_ n2_ n3_ n4_ n5_ n6_ n7_;(try clear hb);(try clear hb2);(try clear hk);(try clear hi);(try clear ho0))|((with_reducible refine gate_dst (N:=8) rfl ?_);refine box_event ?hg (N:=8) ?hd (cs:=#[.int .i64 0,.int .i64 0,.slice none 0 0]) (t:=27) ?hr ?_;(case hd=>rfl);(case hg=>rfl);(case hr=>first|(go_simp;done)|(go_simp;rfl));intro gb357 hg w48 hbox hb;have n0_:=aK (Kd.S_below (by (with_reducible repeat (first|apply Kd.S_alloc|apply Kd.S_drewN|apply Kd.S_drew));exact HO341.out) hb);have n1_:=aK (Kd.R_below (by (with_reducible repeat (first|apply Kd.R_alloc|apply Kd.R_drewN|apply Kd.R_drew));exact HO346.out) hb);have n2_:=aK (Kd.S_below (by (with_reducible repeat (first|apply Kd.S_alloc|apply Kd.S_drewN|apply Kd.S_drew));exact HO350.out) hb);have n3_:=aK (Kd.R_below (by (with_reducible repeat (first|apply Kd.R_alloc|apply Kd.R_drewN|apply Kd.R_drew));exact HO356.out) hb);have n4_:=aK (bB (by (with_reducible repeat (first|apply bN|apply bD|apply bA));exact BK335.out) hb);have n5_:=aK (bB (by (with_reducible repeat (first|apply bN|apply bD|apply bA));exact BK336.out) hb);have n6_:=aK (bB (by (with_reducible repeat (first|apply bN|apply bD|apply bA));exact BK351.out) hb);have n7_:=aK (below_step (by repeat (first|(with_reducible first|exact HB.out|apply bL|apply bM|apply b1|refine bS ?_ GE335.out|refine bS ?_ GE336.out|refine bS ?_ GE351.out)|exact HB.out)) hb);have n8_:=aK (hbox);have n9_:=aK ((by rw [hg];exact (below_size (by repeat (first|(with_reducible first|exact HB.out|apply bL|apply bM|apply b1|refine bS ?_ GE335.out|refine bS ?_ GE336.out|refine bS ?_ GE351.out)|exact HB.out))) : w.heap.size ≤ gb357));have n10_:=aK ((by rw [hg];exact (below_size (by repeat (first|(with_reducible first|exact HB.out|apply bL|apply bM|apply b1|refine bS ?_ GE335.out|refine bS ?_ GE336.out|refine bS ?_ GE351.out)|exact HB.out))) : w.heap.size ≤ gb357));have n11_:=aK ((by rw [hg];exact Nat.ne_of_lt (blk_lt (by (with_reducible repeat (first|apply bN|apply bD|apply bA));exact BK335.out)) : gb335 ≠ gb357));have n12_:=aK ((by rw [hg];exact Nat.ne_of_gt (blk_lt (by (with_reducible repeat (first|apply bN|apply bD|apply bA));exact BK335.out)) : gb357 ≠ gb335));have n13_:=aK ((by rw [hg];exact Nat.ne_of_lt (blk_lt (by (with_reducible repeat (first|apply bN|apply bD|apply bA));exact BK336.out)) : gb336 ≠ gb357));have n14_:=aK ((by rw [hg];exact Nat.ne_of_gt (blk_lt (by (with_reducible repeat (first|apply bN|apply bD|apply bA));exact BK336.out)) : gb357 ≠ gb336));have n15_:=aK ((by rw [hg];exact Nat.ne_of_lt (blk_lt (by (with_reducible repeat (first|apply bN|apply bD|apply bA));exact BK351.out)) : gb351 ≠ gb357));have n16_:=aK ((by rw [hg];exact Nat.ne_of_gt (blk_lt (by (with_reducible repeat (first|apply bN|apply bD|apply bA));exact BK351.out)) : gb357 ≠ gb351));clear HO341;clear HO346;clear HO350;clear HO356;clear BK335;clear BK336;clear BK351;clear HB;have HO341:=n0_;have HO346:=n1_;have HO350:=n2_;have HO356:=n3_;have BK335:=n4_;have BK336:=n5_;have BK351:=n6_;have HB:=n7_;have BK357:=n8_;have GW357:=n9_;have GE357:=n10_;have NB335_357:=n11_;have NB357_335:=n12_;have NB336_357:=n13_;have NB357_336:=n14_;have NB351_357:=n15_;have NB357_351:=n16_;clear n0_ n1_ n2_ n3_ n4_ n5_ n6_ n7_ n8_ n9_ n10_ n11_ n12_ n13_ n14_ n15_ n16_;clear hb hbox hg;have hnb49:=NB357_335.out;have hnc49:=NB335_357.out;have hnb50:=NB357_336.out;have hnc50:=NB336_357.out;have hnb51:=NB357_351.out;have hnc51:=NB351_357.out;have hcz52_0 : w48.cell? ⟨gb357,0,none⟩ = some (.int .i64 0):=(bC BK357.out 0).trans rfl;have hcz52_1 : w48.cell? ⟨gb357,1,none⟩ = some (.int .i64 0):=(bC BK357.out 1).trans rfl;have hcz52_2 : w48.cell? ⟨gb357,2,none⟩ = some (.slice none 0 0):=(bC BK357.out 2).trans rfl;have hfz52_0:=blk_frozen BK357.out 0;have hfz52_1:=blk_frozen BK357.out 1;have hfz52_2:=blk_frozen BK357.out 2;obtain ⟨Ao53,co53,eo53⟩:=Kd.R_slice HO356.out;subst eo53;have hcz54_0 : w48.cell? ⟨gb351,0,none⟩ = some (.slice Ao42 t348.length co42):=(bC BK351.out 0).trans rfl;have hfz54_0:=blk_frozen BK351.out 0)|((with_reducible refine gate_callee (f:=46) rfl ?_);refine goesL_ (some 31) rfl rfl Try.func46 (by kernel_rfl) rfl #[.agg #[.slice Ao42 t348.length co42],.agg #[.int .i64 t352,.int .i64 t353,.slice Ao53 t354.length co53]] rfl (by (try simp only [mA,mC,mN]);first|done|rfl) ?_;(with_reducible refine (impl_IsPlay.calls k _ _ t348 t352 t353 _ _ t354 t358 _ ?side1 ?side2 ?side3 ?side4 A24.out).mono ?_);(case side1=>refine (Kd.S_reads' (e:=22) (base:=w.heap.size) (ok:=fun k_=>(((True ∧ some k_ ≠ (.slice Ao36 t339.length co36 : Value).ownBlock) ∧ some k_ ≠ (.slice Ao37 t344.length co37 : Value).ownBlock) ∧ some k_ ≠ (.slice Ao53 t354.length co53 : Value).ownBlock)) (n:=t348.length) (c:=co42) ?_).2.2;exact (by (with_reducible repeat (first|apply Kd.S_alloc|apply Kd.S_drewN|apply Kd.S_drew));exact (Kd.S_mono (Kd.S_far (p:=⟨gb357,2,none⟩) (Kd.S_far (p:=⟨gb357,1,none⟩) (Kd.S_far (p:=⟨gb357,0,none⟩) (Kd.S_types HO350.out BK357.out (by decide)) (fun _ hk=>by first|exact hk.2|(have h_:=hk;(try simp only [and_assoc,true_and] at h_);(repeat' apply And.intro) <;> first|with_reducible exact h_.1|with_reducible exact h_.2.1|with_reducible exact h_.2.2.1|with_reducible exact h_.2.2.2.1|with_reducible exact h_.2.2.2.2.1|with_reducible exact h_.2.2.2.2.2.1|with_reducible exact h_.2.2.2.2.2.2.1|with_reducible exact h_.2.2.2.2.2.2.2.1|with_reducible exact h_.2.2.2.2.2.2.2.2.1|with_reducible exact h_.2|with_reducible exact h_.2.2|with_reducible exact h_.2.2.2|with_reducible exact h_.2.2.2.2|with_reducible exact h_.2.2.2.2.2|with_reducible exact h_.2.2.2.2.2.2|with_reducible exact h_.2.2.2.2.2.2.2|with_reducible exact h_.2.2.2.2.2.2.2.2)) (.int .i64 t352)) (fun _ hk=>by first|exact hk.2|(have h_:=hk;(try simp only [and_assoc,true_and] at h_);(repeat' apply And.intro) <;> first|with_reducible exact h_.1|with_reducible exact h_.2.1|with_reducible exact h_.2.2.1|with_reducible exact h_.2.2.2.1|with_reducible exact h_.2.2.2.2.1|with_reducible exact h_.2.2.2.2.2.1|with_reducible exact h_.2.2.2.2.2.2.1|with_reducible exact h_.2.2.2.2.2.2.2.1|with_reducible exact h_.2.2.2.2.2.2.2.2.1|with_reducible exact h_.2|with_reducible exact h_.2.2|with_reducible exact h_.2.2.2|with_reducible exact h_.2.2.2.2|with_reducible exact h_.2.2.2.2.2|with_reducible exact h_.2.2.2.2.2.2|with_reducible exact h_.2.2.2.2.2.2.2|with_reducible exact h_.2.2.2.2.2.2.2.2)) (.int .i64 t353)) (fun _ hk=>by first|exact hk.2|(have h_:=hk;(try simp only [and_assoc,true_and] at h_);(repeat' apply And.intro) <;> first|with_reducible exact h_.1|with_reducible exact h_.2.1|with_reducible exact h_.2.2.1|with_reducible exact h_.2.2.2.1|with_reducible exact h_.2.2.2.2.1|with_reducible exact h_.2.2.2.2.2.1|with_reducible exact h_.2.2.2.2.2.2.1|with_reducible exact h_.2.2.2.2.2.2.2.1|with_reducible exact h_.2.2.2.2.2.2.2.2.1|with_reducible exact h_.2|with_reducible exact h_.2.2|with_reducible exact h_.2.2.2|with_reducible exact h_.2.2.2.2|with_reducible exact h_.2.2.2.2.2|with_reducible exact h_.2.2.2.2.2.2|with_reducible exact h_.2.2.2.2.2.2.2|with_reducible exact h_.2.2.2.2.2.2.2.2)) (.slice Ao53 t354.length co53)) (fun _ h_=>h_.1))));(case side2=>exact (Kd.S_reads' HO350.out).2.1);(case side3=>refine (Kd.R_reads' (e:=2) (base:=w.heap.size) (ok:=fun k_=>(True ∧ some k_ ≠ (.slice Ao37 t344.length co37 : Value).ownBlock)) (n:=t354.length) (c:=co53) ?_).2.2;exact (by (with_reducible repeat (first|apply Kd.R_alloc|apply Kd.R_drewN|apply Kd.R_drew));exact (Kd.R_mono (Kd.R_far (p:=⟨gb357,2,none⟩) (Kd.R_far (p:=⟨gb357,1,none⟩) (Kd.R_far (p:=⟨gb357,0,none⟩) (Kd.R_types HO356.out BK357.out (by decide)) (fun _ hk=>by first|exact hk.2|(have h_:=hk;(try simp only [and_assoc,true_and] at h_);(repeat' apply And.intro) <;> first|with_reducible exact h_.1|with_reducible exact h_.2.1|with_reducible exact h_.2.2.1|with_reducible exact h_.2.2.2.1|with_reducible exact h_.2.2.2.2.1|with_reducible exact h_.2.2.2.2.2.1|with_reducible exact h_.2.2.2.2.2.2.1|with_reducible exact h_.2.2.2.2.2.2.2.1|with_reducible exact h_.2.2.2.2.2.2.2.2.1|with_reducible exact h_.2|with_reducible exact h_.2.2|with_reducible exact h_.2.2.2|with_reducible exact h_.2.2.2.2|with_reducible exact h_.2.2.2.2.2|with_reducible exact h_.2.2.2.2.2.2|with_reducible exact h_.2.2.2.2.2.2.2|with_reducible exact h_.2.2.2.2.2.2.2.2)) (.int .i64 t352)) (fun _ hk=>by first|exact hk.2|(have h_:=hk;(try simp only [and_assoc,true_and] at h_);(repeat' apply And.intro) <;> first|with_reducible exact h_.1|with_reducible exact h_.2.1|with_reducible exact h_.2.2.1|with_reducible exact h_.2.2.2.1|with_reducible exact h_.2.2.2.2.1|with_reducible exact h_.2.2.2.2.2.1|with_reducible exact h_.2.2.2.2.2.2.1|with_reducible exact h_.2.2.2.2.2.2.2.1|with_reducible exact h_.2.2.2.2.2.2.2.2.1|with_reducible exact h_.2|with_reducible exact h_.2.2|with_reducible exact h_.2.2.2|with_reducible exact h_.2.2.2.2|with_reducible exact h_.2.2.2.2.2|with_reducible exact h_.2.2.2.2.2.2|with_reducible exact h_.2.2.2.2.2.2.2|with_reducible exact h_.2.2.2.2.2.2.2.2)) (.int .i64 t353)) (fun _ hk=>by first|exact hk.2|(have h_:=hk;(try simp only [and_assoc,true_and] at h_);(repeat' apply And.intro) <;> first|with_reducible exact h_.1|with_reducible exact h_.2.1|with_reducible exact h_.2.2.1|with_reducible exact h_.2.2.2.1|with_reducible exact h_.2.2.2.2.1|with_reducible exact h_.2.2.2.2.2.1|with_reducible exact h_.2.2.2.2.2.2.1|with_reducible exact h_.2.2.2.2.2.2.2.1|with_reducible exact h_.2.2.2.2.2.2.2.2.1|with_reducible exact h_.2|with_reducible exact h_.2.2|with_reducible exact h_.2.2.2|with_reducible exact h_.2.2.2.2|with_reducible exact h_.2.2.2.2.2|with_reducible exact h_.2.2.2.2.2.2|with_reducible exact h_.2.2.2.2.2.2.2|with_reducible exact h_.2.2.2.2.2.2.2.2)) (.slice Ao53 t354.length co53)) (fun _ h_=>h_.1))));(case side4=>exact (Kd.R_reads' HO356.out).2.1);rintro e w55 ⟨rfl,hb⟩;refine ⟨_,rfl,?_⟩;have n0_:=aK (Kd.S_below (by (with_reducible repeat (first|apply Kd.S_alloc|apply Kd.S_drewN|apply Kd.S_drew));exact (Kd.S_mono (Kd.S_far (p:=⟨gb357,2,none⟩) (Kd.S_far (p:=⟨gb357,1,none⟩) (Kd.S_far (p:=⟨gb357,0,none⟩) (Kd.S_types HO341.out BK357.out (by decide)) (fun _ hk=>by first|exact hk.2|(have h_:=hk;(try simp only [and_assoc,true_and] at h_);(repeat' apply And.intro) <;> first|with_reducible exact h_.1|with_reducible exact h_.2.1|with_reducible exact h_.2.2.1|with_reducible exact h_.2.2.2.1|with_reducible exact h_.2.2.2.2.1|with_reducible exact h_.2.2.2.2.2.1|with_reducible exact h_.2.2.2.2.2.2.1|with_reducible exact h_.2.2.2.2.2.2.2.1|with_reducible exact h_.2.2.2.2.2.2.2.2.1|with_reducible exact h_.2|with_reducible exact h_.2.2|with_reducible exact h_.2.2.2|with_reducible exact h_.2.2.2.2|with_reducible exact h_.2.2.2.2.2|with_reducible exact h_.2.2.2.2.2.2|with_reducible exact h_.2.2.2.2.2.2.2|with_reducible exact h_.2.2.2.2.2.2.2.2)) (.int .i64 t352)) (fun _ hk=>by first|exact hk.2|(have h_:=hk;(try simp only [and_assoc,true_and] at h_);(repeat' apply And.intro) <;> first|with_reducible exact h_.1|with_reducible exact h_.2.1|with_reducible exact h_.2.2.1|with_reducible exact h_.2.2.2.1|with_reducible exact h_.2.2.2.2.1|with_reducible exact h_.2.2.2.2.2.1|with_reducible exact h_.2.2.2.2.2.2.1|with_reducible exact h_.2.2.2.2.2.2.2.1|with_reducible exact h_.2.2.2.2.2.2.2.2.1|with_reducible exact h_.2|with_reducible exact h_.2.2|with_reducible exact h_.2.2.2|with_reducible exact h_.2.2.2.2|with_reducible exact h_.2.2.2.2.2|with_reducible exact h_.2.2.2.2.2.2|with_reducible exact h_.2.2.2.2.2.2.2|with_reducible exact h_.2.2.2.2.2.2.2.2)) (.int .i64 t353)) (fun _ hk=>by first|exact hk.2|(have h_:=hk;(try simp only [and_assoc,true_and] at h_);(repeat' apply And.intro) <;> first|with_reducible exact h_.1|with_reducible exact h_.2.1|with_reducible exact h_.2.2.1|with_reducible exact h_.2.2.2.1|with_reducible exact h_.2.2.2.2.1|with_reducible exact h_.2.2.2.2.2.1|with_reducible exact h_.2.2.2.2.2.2.1|with_reducible exact h_.2.2.2.2.2.2.2.1|with_reducible exact h_.2.2.2.2.2.2.2.2.1|with_reducible exact h_.2|with_reducible exact h_.2.2|with_reducible exact h_.2.2.2|with_reducible exact h_.2.2.2.2|with_reducible exact h_.2.2.2.2.2|with_reducible exact h_.2.2.2.2.2.2|with_reducible exact h_.2.2.2.2.2.2.2|with_reducible exact h_.2.2.2.2.2.2.2.2)) (.slice Ao53 t354.length co53)) (fun _ h_=>h_.1))) hb);have n1_:=aK (Kd.R_below (by (with_reducible repeat (first|apply Kd.R_alloc|apply Kd.R_drewN|apply Kd.R_drew));exact (Kd.R_mono (Kd.R_far (p:=⟨gb357,2,none⟩) (Kd.R_far (p:=⟨gb357,1,none⟩) (Kd.R_far (p:=⟨gb357,0,none⟩) (Kd.R_types HO346.out BK357.out (by decide)) (fun _ hk=>by first|exact hk.2|(have h_:=hk;(try simp only [and_assoc,true_and] at h_);(repeat' apply And.intro) <;> first|with_reducible exact h_.1|with_reducible exact h_.2.1|with_reducible exact h_.2.2.1|with_reducible exact h_.2.2.2.1|with_reducible exact h_.2.2.2.2.1|with_reducible exact h_.2.2.2.2.2.1|with_reducible exact h_.2.2.2.2.2.2.1|with_reducible exact h_.2.2.2.2.2.2.2.1|with_reducible exact h_.2.2.2.2.2.2.2.2.1|with_reducible exact h_.2|with_reducible exact h_.2.2|with_reducible exact h_.2.2.2|with_reducible exact h_.2.2.2.2|with_reducible exact h_.2.2.2.2.2|with_reducible exact h_.2.2.2.2.2.2|with_reducible exact h_.2.2.2.2.2.2.2|with_reducible exact h_.2.2.2.2.2.2.2.2)) (.int .i64 t352)) (fun _ hk=>by first|exact hk.2|(have h_:=hk;(try simp only [and_assoc,true_and] at h_);(repeat' apply And.intro) <;> first|with_reducible exact h_.1|with_reducible exact h_.2.1|with_reducible exact h_.2.2.1|with_reducible exact h_.2.2.2.1|with_reducible exact h_.2.2.2.2.1|with_reducible exact h_.2.2.2.2.2.1|with_reducible exact h_.2.2.2.2.2.2.1|with_reducible exact h_.2.2.2.2.2.2.2.1|with_reducible exact h_.2.2.2.2.2.2.2.2.1|with_reducible exact h_.2|with_reducible exact h_.2.2|with_reducible exact h_.2.2.2|with_reducible exact h_.2.2.2.2|with_reducible exact h_.2.2.2.2.2|with_reducible exact h_.2.2.2.2.2.2|with_reducible exact h_.2.2.2.2.2.2.2|with_reducible exact h_.2.2.2.2.2.2.2.2)) (.int .i64 t353)) (fun _ hk=>by first|exact hk.2|(have h_:=hk;(try simp only [and_assoc,true_and] at h_);(repeat' apply And.intro) <;> first|with_reducible exact h_.1|with_reducible exact h_.2.1|with_reducible exact h_.2.2.1|with_reducible exact h_.2.2.2.1|with_reducible exact h_.2.2.2.2.1|with_reducible exact h_.2.2.2.2.2.1|with_reducible exact h_.2.2.2.2.2.2.1|with_reducible exact h_.2.2.2.2.2.2.2.1|with_reducible exact h_.2.2.2.2.2.2.2.2.1|with_reducible exact h_.2|with_reducible exact h_.2.2|with_reducible exact h_.2.2.2|with_reducible exact h_.2.2.2.2|with_reducible exact h_.2.2.2.2.2|with_reducible exact h_.2.2.2.2.2.2|with_reducible exact h_.2.2.2.2.2.2.2|with_reducible exact h_.2.2.2.2.2.2.2.2)) (.slice Ao53 t354.length co53)) (fun _ h_=>h_.1))) hb);have n2_:=aK (Kd.S_below (by (with_reducible repeat (first|apply Kd.S_alloc|apply Kd.S_drewN|apply Kd.S_drew));exact (Kd.S_mono (Kd.S_far (p:=⟨gb357,2,none⟩) (Kd.S_far (p:=⟨gb357,1,none⟩) (Kd.S_far (p:=⟨gb357,0,none⟩) (Kd.S_types HO350.out BK357.out (by decide)) (fun _ hk=>by first|exact hk.2|(have h_:=hk;(try simp only [and_assoc,true_and] at h_);(repeat' apply And.intro) <;> first|with_reducible exact h_.1|with_reducible exact h_.2.1|with_reducible exact h_.2.2.1|with_reducible exact h_.2.2.2.1|with_reducible exact h_.2.2.2.2.1|with_reducible exact h_.2.2.2.2.2.1|with_reducible exact h_.2.2.2.2.2.2.1|with_reducible exact h_.2.2.2.2.2.2.2.1|with_reducible exact h_.2.2.2.2.2.2.2.2.1|with_reducible exact h_.2|with_reducible exact h_.2.2|with_reducible exact h_.2.2.2|with_reducible exact h_.2.2.2.2|with_reducible exact h_.2.2.2.2.2|with_reducible exact h_.2.2.2.2.2.2|with_reducible exact h_.2.2.2.2.2.2.2|with_reducible exact h_.2.2.2.2.2.2.2.2)) (.int .i64 t352)) (fun _ hk=>by first|exact hk.2|(have h_:=hk;(try simp only [and_assoc,true_and] at h_);(repeat' apply And.intro) <;> first|with_reducible exact h_.1|with_reducible exact h_.2.1|with_reducible exact h_.2.2.1|with_reducible exact h_.2.2.2.1|with_reducible exact h_.2.2.2.2.1|with_reducible exact h_.2.2.2.2.2.1|with_reducible exact h_.2.2.2.2.2.2.1|with_reducible exact h_.2.2.2.2.2.2.2.1|with_reducible exact h_.2.2.2.2.2.2.2.2.1|with_reducible exact h_.2|with_reducible exact h_.2.2|with_reducible exact h_.2.2.2|with_reducible exact h_.2.2.2.2|with_reducible exact h_.2.2.2.2.2|with_reducible exact h_.2.2.2.2.2.2|with_reducible exact h_.2.2.2.2.2.2.2|with_reducible exact h_.2.2.2.2.2.2.2.2)) (.int .i64 t353)) (fun _ hk=>by first|exact hk.2|(have h_:=hk;(try simp only [and_assoc,true_and] at h_);(repeat' apply And.intro) <;> first|with_reducible exact h_.1|with_reducible exact h_.2.1|with_reducible exact h_.2.2.1|with_reducible exact h_.2.2.2.1|with_reducible exact h_.2.2.2.2.1|with_reducible exact h_.2.2.2.2.2.1|with_reducible exact h_.2.2.2.2.2.2.1|with_reducible exact h_.2.2.2.2.2.2.2.1|with_reducible exact h_.2.2.2.2.2.2.2.2.1|with_reducible exact h_.2|with_reducible exact h_.2.2|with_reducible exact h_.2.2.2|with_reducible exact h_.2.2.2.2|with_reducible exact h_.2.2.2.2.2|with_reducible exact h_.2.2.2.2.2.2|with_reducible exact h_.2.2.2.2.2.2.2|with_reducible exact h_.2.2.2.2.2.2.2.2)) (.slice Ao53 t354.length co53)) (fun _ h_=>h_.1))) hb);have n3_:=aK (Kd.R_below (by (with_reducible repeat (first|apply Kd.R_alloc|apply Kd.R_drewN|apply Kd.R_drew));exact (Kd.R_mono (Kd.R_far (p:=⟨gb357,2,none⟩) (Kd.R_far (p:=⟨gb357,1,none⟩) (Kd.R_far (p:=⟨gb357,0,none⟩) (Kd.R_types HO356.out BK357.out (by decide)) (fun _ hk=>by first|exact hk.2|(have h_:=hk;(try simp only [and_assoc,true_and] at h_);(repeat' apply And.intro) <;> first|with_reducible exact h_.1|with_reducible exact h_.2.1|with_reducible exact h_.2.2.1|with_reducible exact h_.2.2.2.1|with_reducible exact h_.2.2.2.2.1|with_reducible exact h_.2.2.2.2.2.1|with_reducible exact h_.2.2.2.2.2.2.1|with_reducible exact h_.2.2.2.2.2.2.2.1|with_reducible exact h_.2.2.2.2.2.2.2.2.1|with_reducible exact h_.2|with_reducible exact h_.2.2|with_reducible exact h_.2.2.2|with_reducible exact h_.2.2.2.2|with_reducible exact h_.2.2.2.2.2|with_reducible exact h_.2.2.2.2.2.2|with_reducible exact h_.2.2.2.2.2.2.2|with_reducible exact h_.2.2.2.2.2.2.2.2)) (.int .i64 t352)) (fun _ hk=>by first|exact hk.2|(have h_:=hk;(try simp only [and_assoc,true_and] at h_);(repeat' apply And.intro) <;> first|with_reducible exact h_.1|with_reducible exact h_.2.1|with_reducible exact h_.2.2.1|with_reducible exact h_.2.2.2.1|with_reducible exact h_.2.2.2.2.1|with_reducible exact h_.2.2.2.2.2.1|with_reducible exact h_.2.2.2.2.2.2.1|with_reducible exact h_.2.2.2.2.2.2.2.1|with_reducible exact h_.2.2.2.2.2.2.2.2.1|with_reducible exact h_.2|with_reducible exact h_.2.2|with_reducible exact h_.2.2.2|with_reducible exact h_.2.2.2.2|with_reducible exact h_.2.2.2.2.2|with_reducible exact h_.2.2.2.2.2.2|with_reducible exact h_.2.2.2.2.2.2.2|with_reducible exact h_.2.2.2.2.2.2.2.2)) (.int .i64 t353)) (fun _ hk=>by first|exact hk.2|(have h_:=hk;(try simp only [and_assoc,true_and] at h_);(repeat' apply And.intro) <;> first|with_reducible exact h_.1|with_reducible exact h_.2.1|with_reducible exact h_.2.2.1|with_reducible exact h_.2.2.2.1|with_reducible exact h_.2.2.2.2.1|with_reducible exact h_.2.2.2.2.2.1|with_reducible exact h_.2.2.2.2.2.2.1|with_reducible exact h_.2.2.2.2.2.2.2.1|with_reducible exact h_.2.2.2.2.2.2.2.2.1|with_reducible exact h_.2|with_reducible exact h_.2.2|with_reducible exact h_.2.2.2|with_reducible exact h_.2.2.2.2|with_reducible exact h_.2.2.2.2.2|with_reducible exact h_.2.2.2.2.2.2|with_reducible exact h_.2.2.2.2.2.2.2|with_reducible exact h_.2.2.2.2.2.2.2.2)) (.slice Ao53 t354.length co53)) (fun _ h_=>h_.1))) hb);have n4_:=aK (bB (g:=gb335) (o:=.cells #[.slice A0_0 l0_0.length c0_0] 41 (0,0)) (by (with_reducible repeat (first|apply bN|apply bD|apply bA));refine blk_far ?_ NB335_357.out _;(with_reducible repeat (first|apply bN|apply bD|apply bA));refine blk_far ?_ NB335_357.out _;(with_reducible repeat (first|apply bN|apply bD|apply bA));refine blk_far ?_ NB335_357.out _;(with_reducible repeat (first|apply bN|apply bD|apply bA));exact BK335.out) hb);have n5_:=aK (bB (g:=gb336) (o:=.cells #[.int .i64 a1_0,.int .i64 a1_1,.slice A1_2 l1_2.length c1_2] 24 (0,0)) (by (with_reducible repeat (first|apply bN|apply bD|apply bA));refine blk_far ?_ NB336_357.out _;(with_reducible repeat (first|apply bN|apply bD|apply bA));refine blk_far ?_ NB336_357.out _;(with_reducible repeat (first|apply bN|apply bD|apply bA));refine blk_far ?_ NB336_357.out _;(with_reducible repeat (first|apply bN|apply bD|apply bA));exact BK336.out) hb);have n6_:=aK (bB (g:=gb351) (o:=.cells #[.slice Ao42 t348.length co42] 44 (0,0)) (by (with_reducible repeat (first|apply bN|apply bD|apply bA));refine blk_far ?_ NB351_357.out _;(with_reducible repeat (first|apply bN|apply bD|apply bA));refine blk_far ?_ NB351_357.out _;(with_reducible repeat (first|apply bN|apply bD|apply bA));refine blk_far ?_ NB351_357.out _;(with_reducible repeat (first|apply bN|apply bD|apply bA));exact BK351.out) hb);have n7_:=aK (bB (g:=gb357) (o:=.cells #[.int .i64 t352,.int .i64 t353,.slice Ao53 t354.length co53] 27 (0,0)) (by (with_reducible repeat (first|apply bN|apply bD|apply bA));refine blk_put (cs:=#[.int .i64 t352,.int .i64 t353,.slice none 0 0]) ?_ 2 _ rfl;(with_reducible repeat (first|apply bN|apply bD|apply bA));refine blk_put (cs:=#[.int .i64 t352,.int .i64 0,.slice none 0 0]) ?_ 1 _ rfl;(with_reducible repeat (first|apply bN|apply bD|apply bA));refine blk_put (cs:=#[.int .i64 0,.int .i64 0,.slice none 0 0]) ?_ 0 _ rfl;(with_reducible repeat (first|apply bN|apply bD|apply bA));exact BK357.out) hb);have n8_:=aK (below_step (by repeat (first|(with_reducible first|exact HB.out|apply bL|apply bM|apply b1|refine bS ?_ GE335.out|refine bS ?_ GE336.out|refine bS ?_ GE351.out|refine bS ?_ GE357.out)|exact HB.out)) hb);clear HO341;clear HO346;clear HO350;clear HO356;clear BK335;clear BK336;clear BK351;clear BK357;clear HB;have HO341:=n0_;have HO346:=n1_;have HO350:=n2_;have HO356:=n3_;have BK335:=n4_;have BK336:=n5_;have BK351:=n6_;have BK357:=n7_;have HB:=n8_;clear n0_ n1_ n2_ n3_ n4_ n5_ n6_ n7_ n8_;(try clear hb);(try clear hb2);(try clear hk);(try clear hi)))
    go_ret
    exact ⟨by first|rfl|(simp [errW_none,errW_some] <;> rfl)|(simp [*,errW_none,errW_some] <;> rfl),by repeat (first|(with_reducible first|exact HB.out|apply bL|apply bM|apply b1|refine bS ?_ GE335.out|refine bS ?_ GE336.out|refine bS ?_ GE351.out|refine bS ?_ GE357.out)|exact HB.out)⟩
   ·rw [if_neg c25] at H
    have c25b0 : (t358 != t347) = false:=by simpa using c25
    (try (have c25b1 : decide (t358 = t347) = true:=by simpa using c25))
    (try (have c25b2 : (t358 == t347) = true:=by simpa using c25))
    clear c25
    replace H:=Option.bind_eq_some_iff.mp H
    obtain ⟨t359,A560,H⟩:=H
    replace H : ((laws_eqDeal.f k t348 t359).bind fun t362=>(if t362 = true then ((laws_toPlay.f k a1_0 a1_1 l1_2).bind fun bt363=>((laws_eqPlay.f k t352 t353 t354 bt363.1 bt363.2.1 bt363.2.2).bind fun t368=>(if t368 = true then (some true) else (some false)))) else (some false))) = some r:=H
    have A56:=aK A560
    clear A560
    replace H:=Option.bind_eq_some_iff.mp H
    obtain ⟨t362,A570,H⟩:=H
    replace H : (if t362 = true then ((laws_toPlay.f k a1_0 a1_1 l1_2).bind fun bt363=>((laws_eqPlay.f k t352 t353 t354 bt363.1 bt363.2.1 bt363.2.2).bind fun t368=>(if t368 = true then (some true) else (some false)))) else (some false)) = some r:=H
    have A57:=aK A570
    clear A570
    by_cases c58 : t362 = true
    ·subst c58
     have H1 : ((laws_toPlay.f k a1_0 a1_1 l1_2).bind fun bt363=>((laws_eqPlay.f k t352 t353 t354 bt363.1 bt363.2.1 bt363.2.2).bind fun t368=>(if t368 = true then (some true) else (some false)))) = some r:=by rw [if_pos rfl] at H;exact H
     clear H
     have H:=H1
     clear H1
     replace H:=Option.bind_eq_some_iff.mp H
     obtain ⟨⟨t363,t364,t365⟩,A590,H⟩:=H
     replace H : ((laws_eqPlay.f k t352 t353 t354 t363 t364 t365).bind fun t368=>(if t368 = true then (some true) else (some false))) = some r:=H
     have A59:=aK A590
     clear A590
     replace H:=Option.bind_eq_some_iff.mp H
     obtain ⟨t368,A600,H⟩:=H
     replace H : (if t368 = true then (some true) else (some false)) = some r:=H
     have A60:=aK A600
     clear A600
     by_cases c61 : t368 = true
     ·subst c61
      have H1 : (some true) = some r:=by rw [if_pos rfl] at H;exact H
      clear H
      have H:=H1
      clear H1
      obtain rfl:=Option.some.inj H
      go_enter Try.func9,Try.ntmps9
      try go_wp2_with (first|((with_reducible refine gate_dst (N:=2) rfl ?_);refine box_event ?hg (N:=2) ?hd (cs:=#[.slice A0_0 l0_0.length c0_0]) (t:=41) ?hr ?_;(case hd=>rfl);(case hg=>rfl);(case hr=>first|(go_simp;done)|(go_simp;rfl));intro gb335 hg w62 hbox hb;have n0_:=aK (below_step (by repeat (first|(with_reducible first|exact HB.out|apply bL|apply bM|apply b1)|exact HB.out)) hb);have n1_:=aK (hbox);have n2_:=aK ((by rw [hg];exact (below_size (by repeat (first|(with_reducible first|exact HB.out|apply bL|apply bM|apply b1)|exact HB.out))) : w.heap.size ≤ gb335));have n3_:=aK ((by rw [hg];exact (below_size (by repeat (first|(with_reducible first|exact HB.out|apply bL|apply bM|apply b1)|exact HB.out))) : w.heap.size ≤ gb335));clear HB;have HB:=n0_;have BK335:=n1_;have GW335:=n2_;have GE335:=n3_;clear n0_ n1_ n2_ n3_;clear hb hbox hg)|((with_reducible refine gate_dst (N:=3) rfl ?_);refine box_event ?hg (N:=3) ?hd (cs:=#[.int .i64 a1_0,.int .i64 a1_1,.slice A1_2 l1_2.length c1_2]) (t:=24) ?hr ?_;(case hd=>rfl);(case hg=>rfl);(case hr=>first|(go_simp;done)|(go_simp;rfl));intro gb336 hg w63 hbox hb;have n0_:=aK (bB (by (with_reducible repeat (first|apply bN|apply bD|apply bA));exact BK335.out) hb);have n1_:=aK (below_step (by repeat (first|(with_reducible first|exact HB.out|apply bL|apply bM|apply b1|refine bS ?_ GE335.out)|exact HB.out)) hb);have n2_:=aK (hbox);have n3_:=aK ((by rw [hg];exact (below_size (by repeat (first|(with_reducible first|exact HB.out|apply bL|apply bM|apply b1|refine bS ?_ GE335.out)|exact HB.out))) : w.heap.size ≤ gb336));have n4_:=aK ((by rw [hg];exact (below_size (by repeat (first|(with_reducible first|exact HB.out|apply bL|apply bM|apply b1|refine bS ?_ GE335.out)|exact HB.out))) : w.heap.size ≤ gb336));have n5_:=aK ((by rw [hg];exact Nat.ne_of_lt (blk_lt (by (with_reducible repeat (first|apply bN|apply bD|apply bA));exact BK335.out)) : gb335 ≠ gb336));have n6_:=aK ((by rw [hg];exact Nat.ne_of_gt (blk_lt (by (with_reducible repeat (first|apply bN|apply bD|apply bA));exact BK335.out)) : gb336 ≠ gb335));clear BK335;clear HB;have BK335:=n0_;have HB:=n1_;have BK336:=n2_;have GW336:=n3_;have GE336:=n4_;have NB335_336:=n5_;have NB336_335:=n6_;clear n0_ n1_ n2_ n3_ n4_ n5_ n6_;clear hb hbox hg;have hnb64:=NB335_336.out;have hnc64:=NB336_335.out;have hcz65_0 : w63.cell? ⟨gb335,0,none⟩ = some (.slice A0_0 l0_0.length c0_0):=(bC BK335.out 0).trans rfl;have hfz65_0:=blk_frozen BK335.out 0)|((with_reducible refine gate_callee (f:=40) rfl ?_);refine goesL_ (some 12) rfl rfl Try.func40 (by kernel_rfl) rfl #[.agg #[.slice A0_0 l0_0.length c0_0],.int .i64 1048576] rfl (by (try simp only [mA,mC,mN]);first|done|rfl) ?_;(with_reducible refine (laws_szDeal.calls k _ _ l0_0 1048576 t337 _ ?side1 ?side2 A3.out).mono ?_);(case side1=>repeat (first|exact (Kd.C_below HR0_0.out HB.out)|(with_reducible refine Kd.C_alloc ?_ _)|(with_reducible refine Kd.C_drewN ?_ _)|(with_reducible refine Kd.C_drew ?_)));(case side2=>exact HC0_0.out);rintro e w66 ⟨rfl,hb⟩;refine ⟨_,rfl,?_⟩;have n0_:=aK (bB (by (with_reducible repeat (first|apply bN|apply bD|apply bA));exact BK335.out) hb);have n1_:=aK (bB (by (with_reducible repeat (first|apply bN|apply bD|apply bA));exact BK336.out) hb);have n2_:=aK (below_step (by repeat (first|(with_reducible first|exact HB.out|apply bL|apply bM|apply b1|refine bS ?_ GE335.out|refine bS ?_ GE336.out)|exact HB.out)) hb);clear BK335;clear BK336;clear HB;have BK335:=n0_;have BK336:=n1_;have HB:=n2_;clear n0_ n1_ n2_;(try clear hb);(try clear hb2);(try clear hk);(try clear hi);have hcz67_0 : w66.cell? ⟨gb336,0,none⟩ = some (.int .i64 a1_0):=(bC BK336.out 0).trans rfl;have hcz67_1 : w66.cell? ⟨gb336,1,none⟩ = some (.int .i64 a1_1):=(bC BK336.out 1).trans rfl;have hcz67_2 : w66.cell? ⟨gb336,2,none⟩ = some (.slice A1_2 l1_2.length c1_2):=(bC BK336.out 2).trans rfl;have hfz67_0:=blk_frozen BK336.out 0;have hfz67_1:=blk_frozen BK336.out 1;have hfz67_2:=blk_frozen BK336.out 2)|((with_reducible refine gate_callee (f:=22) rfl ?_);refine goesL_ (some 17) rfl rfl Try.func22 (by kernel_rfl) rfl #[.agg #[.int .i64 a1_0,.int .i64 a1_1,.slice A1_2 l1_2.length c1_2],.int .i64 t337] rfl (by (try simp only [mA,mC,mN]);first|done|rfl) ?_;(with_reducible refine (laws_szPlay.calls a1_0 a1_1 _ _ l1_2 t337 t338 _ ?side1 ?side2 A10.out).mono ?_);(case side1=>repeat (first|exact (Kd.C_below HR1_2.out HB.out)|(with_reducible refine Kd.C_alloc ?_ _)|(with_reducible refine Kd.C_drewN ?_ _)|(with_reducible refine Kd.C_drew ?_)));(case side2=>exact HC1_2.out);rintro e w68 ⟨rfl,hb⟩;refine ⟨_,rfl,?_⟩;have n0_:=aK (bB (by (with_reducible repeat (first|apply bN|apply bD|apply bA));exact BK335.out) hb);have n1_:=aK (bB (by (with_reducible repeat (first|apply bN|apply bD|apply bA));exact BK336.out) hb);have n2_:=aK (below_step (by repeat (first|(with_reducible first|exact HB.out|apply bL|apply bM|apply b1|refine bS ?_ GE335.out|refine bS ?_ GE336.out)|exact HB.out)) hb);clear BK335;clear BK336;clear HB;have BK335:=n0_;have BK336:=n1_;have HB:=n2_;clear n0_ n1_ n2_;(try clear hb);(try clear hb2);(try clear hk);(try clear hi)))
      have n0_:=aK (bD BK335.out)
      have n1_:=aK (bD BK336.out)
      have n2_:=aK (b1 HB.out)
      clear BK335
      clear BK336
      clear HB
      have BK335:=n0_
      have BK336:=n1_
      have HB:=n2_
      clear n0_ n1_ n2_
      refine start_ (n:=6) (S:=fun w'=>w'.cell? ⟨gb335,0,none⟩ = some (.slice A0_0 l0_0.length c0_0) ∧ w'.cell? ⟨gb336,0,none⟩ = some (.int .i64 a1_0) ∧ w'.cell? ⟨gb336,1,none⟩ = some (.int .i64 a1_1) ∧ w'.cell? ⟨gb336,2,none⟩ = some (.slice A1_2 l1_2.length c1_2)) (ds:=[]) #[false,false,false,false,false,false] (by kernel_rfl) rfl rfl ⟨(bC BK335.out 0).trans rfl,(bC BK336.out 0).trans rfl,(bC BK336.out 1).trans rfl,(bC BK336.out 2).trans rfl⟩ (fun hHeld=>?_)
      generalize w68.drew = w69 at BK335 BK336 HB hHeld ⊢
      refine take_ (i:=0) (N:=some 20) (v:=?_) (a':=?_) #[true,false,false,false,false,false] rfl rfl (by kernel_rfl) (fun _ _ _ h=>h) (Or.inl ⟨by rfl,?_⟩) hHeld ?_ ?_
      rotate_left
      ·rintro w' ⟨s0,s1,s2,s3⟩
       go_simp
       with_reducible rfl
      rotate_left
      ·simp only [Act.put,lA,l0',lS,i64_w,i32_w]
       rfl
      refine take_ (i:=2) (N:=some 22) (v:=?_) (a':=?_) #[true,false,true,false,false,false] rfl rfl (by kernel_rfl) (fun _ _ _ h=>h) (Or.inl ⟨by rfl,?_⟩) hHeld ?_ ?_
      rotate_left
      ·rintro w' ⟨s0,s1,s2,s3⟩
       go_simp
       with_reducible rfl
      rotate_left
      ·simp only [Act.put,lA,l0',lS,i64_w,i32_w]
       rfl
      refine one_ (i:=1) (N:=some 21) #[true,true,true,false,false,false] rfl rfl (by kernel_rfl) (by decide) (fun K hK=>?_)
      refine goes_ Try.func42 (by kernel_rfl) rfl #[.agg #[.slice A0_0 l0_0.length c0_0]] (by rfl) rfl rfl (by (try simp only [mA,mC,mN]);first|done|rfl) ?_
      with_reducible refine (laws_toDeal.calls k _ _ l0_0 t339 _ ?side1 ?side2 A19.out).mono ?_
      (case side1=>repeat (first|exact (Kd.C_below HR0_0.out HB.out)|(with_reducible refine Kd.C_alloc ?_ _)|(with_reducible refine Kd.C_drewN ?_ _)|(with_reducible refine Kd.C_drew ?_)))
      (case side2=>exact HC0_0.out)
      rintro e w70 ⟨v340,rfl,ho0,hb⟩
      refine ⟨_,rfl,?_⟩
      have n0_:=aK (Kd.S_lower ho0 (below_size (by repeat (first|(with_reducible first|exact HB.out|apply bL|apply bM|apply b1|refine bS ?_ GE335.out|refine bS ?_ GE336.out)|exact HB.out))))
      have n1_:=aK (bB (by (with_reducible repeat (first|apply bN|apply bD|apply bA));exact BK335.out) hb)
      have n2_:=aK (bB (by (with_reducible repeat (first|apply bN|apply bD|apply bA));exact BK336.out) hb)
      have n3_:=aK (below_step (by repeat (first|(with_reducible first|exact HB.out|apply bL|apply bM|apply b1|refine bS ?_ GE335.out|refine bS ?_ GE336.out)|exact HB.out)) hb)
      clear BK335
      clear BK336
      clear HB
      have HO341:=n0_
      have BK335:=n1_
      have BK336:=n2_
      have HB:=n3_
      clear n0_ n1_ n2_ n3_
      (try clear hb)
      (try clear hb2)
      (try clear hk)
      (try clear hi)
      (try clear ho0)
      refine hK.out _ _ ⟨(bC BK335.out 0).trans rfl,(bC BK336.out 0).trans rfl,(bC BK336.out 1).trans rfl,(bC BK336.out 2).trans rfl⟩ (fun hHeld=>?_)
      clear hK K
      refine norm_ (a':=?_) ?_ ?_
      rotate_left
      ·show Act.put _ (some 21) _ = _
       simp only [Act.put,lA,l0',lS,i64_w,i32_w]
       rfl
      refine one_ (i:=3) (N:=some 23) #[true,true,true,true,false,false] rfl rfl (by kernel_rfl) (by decide) (fun K hK=>?_)
      refine goes_ Try.func24 (by kernel_rfl) rfl #[.agg #[.int .i64 a1_0,.int .i64 a1_1,.slice A1_2 l1_2.length c1_2]] (by rfl) rfl rfl (by (try simp only [mA,mC,mN]);first|done|rfl) ?_
      with_reducible refine (laws_toPlay.calls k a1_0 a1_1 _ _ l1_2 t342 t343 t344 _ ?side1 ?side2 A20.out).mono ?_
      (case side1=>repeat (first|exact (Kd.C_below HR1_2.out HB.out)|(with_reducible refine Kd.C_alloc ?_ _)|(with_reducible refine Kd.C_drewN ?_ _)|(with_reducible refine Kd.C_drew ?_)))
      (case side2=>exact HC1_2.out)
      rintro e w71 ⟨v345,rfl,ho0,hb⟩
      refine ⟨_,rfl,?_⟩
      have n0_:=aK (Kd.S_elder' (by (with_reducible repeat (first|apply Kd.S_alloc|apply Kd.S_drewN|apply Kd.S_drew));exact HO341.out) (Kd.R_base ho0) hb)
      have n1_:=aK (Kd.R_lower ho0 (below_size (by repeat (first|(with_reducible first|exact HB.out|apply bL|apply bM|apply b1|refine bS ?_ GE335.out|refine bS ?_ GE336.out)|exact HB.out))))
      have n2_:=aK (bB (by (with_reducible repeat (first|apply bN|apply bD|apply bA));exact BK335.out) hb)
      have n3_:=aK (bB (by (with_reducible repeat (first|apply bN|apply bD|apply bA));exact BK336.out) hb)
      have n4_:=aK (below_step (by repeat (first|(with_reducible first|exact HB.out|apply bL|apply bM|apply b1|refine bS ?_ GE335.out|refine bS ?_ GE336.out)|exact HB.out)) hb)
      clear HO341
      clear BK335
      clear BK336
      clear HB
      have HO341:=n0_
      have HO346:=n1_
      have BK335:=n2_
      have BK336:=n3_
      have HB:=n4_
      clear n0_ n1_ n2_ n3_ n4_
      (try clear hb)
      (try clear hb2)
      (try clear hk)
      (try clear hi)
      (try clear ho0)
      obtain ⟨Ao72,co72,eo72⟩:=Kd.S_slice HO341.out
      (first|subst eo72|(injection eo72 with f1_ f2_ f3_;have f4_:=f1_.symm;have f5_:=f3_.symm;clear f1_ f2_ f3_;subst f4_;subst f5_))
      obtain ⟨Ao73,co73,eo73⟩:=Kd.R_slice HO346.out
      (first|subst eo73|(injection eo73 with f1_ f2_ f3_;have f4_:=f1_.symm;have f5_:=f3_.symm;clear f1_ f2_ f3_;subst f4_;subst f5_))
      refine hK.out _ _ ⟨(bC BK335.out 0).trans rfl,(bC BK336.out 0).trans rfl,(bC BK336.out 1).trans rfl,(bC BK336.out 2).trans rfl⟩ (fun hHeld=>?_)
      clear hK K
      refine norm_ (a':=?_) ?_ ?_
      rotate_left
      ·show Act.put _ (some 23) _ = _
       simp only [Act.put,lA,l0',lS,i64_w,i32_w]
       rfl
      refine one_ (i:=4) (N:=some 24) #[true,true,true,true,true,false] rfl rfl (by kernel_rfl) (by decide) (fun K hK=>?_)
      refine goes_ Try.func45 (by kernel_rfl) rfl #[.agg #[.slice Ao72 t339.length co72],.agg #[.int .i64 t342,.int .i64 t343,.slice Ao73 t344.length co73]] (by rfl) rfl rfl (by (try simp only [mA,mC,mN]);first|done|rfl) ?_
      with_reducible refine (spec_IsPlay.calls k _ _ t339 t342 t343 _ _ t344 t347 _ ?side1 ?side2 ?side3 ?side4 A21.out).mono ?_
      (case side1=>repeat (first|exact (Kd.S_reads' HO341.out).2.2|(with_reducible refine Kd.C_alloc ?_ _)|(with_reducible refine Kd.C_drewN ?_ _)|(with_reducible refine Kd.C_drew ?_)))
      (case side2=>exact (Kd.S_reads' HO341.out).2.1)
      (case side3=>repeat (first|exact (Kd.R_reads' HO346.out).2.2|(with_reducible refine Kd.C_alloc ?_ _)|(with_reducible refine Kd.C_drewN ?_ _)|(with_reducible refine Kd.C_drew ?_)))
      (case side4=>exact (Kd.R_reads' HO346.out).2.1)
      rintro e w74 ⟨rfl,hb⟩
      refine ⟨_,rfl,?_⟩
      have n0_:=aK (Kd.S_below (by (with_reducible repeat (first|apply Kd.S_alloc|apply Kd.S_drewN|apply Kd.S_drew));exact HO341.out) hb)
      have n1_:=aK (Kd.R_below (by (with_reducible repeat (first|apply Kd.R_alloc|apply Kd.R_drewN|apply Kd.R_drew));exact HO346.out) hb)
      have n2_:=aK (bB (by (with_reducible repeat (first|apply bN|apply bD|apply bA));exact BK335.out) hb)
      have n3_:=aK (bB (by (with_reducible repeat (first|apply bN|apply bD|apply bA));exact BK336.out) hb)
      have n4_:=aK (below_step (by repeat (first|(with_reducible first|exact HB.out|apply bL|apply bM|apply b1|refine bS ?_ GE335.out|refine bS ?_ GE336.out)|exact HB.out)) hb)
      clear HO341
      clear HO346
      clear BK335
      clear BK336
      clear HB
      have HO341:=n0_
      have HO346:=n1_
      have BK335:=n2_
      have BK336:=n3_
      have HB:=n4_
      clear n0_ n1_ n2_ n3_ n4_
      (try clear hb)
      (try clear hb2)
      (try clear hk)
      (try clear hi)
      refine hK.out _ _ ⟨(bC BK335.out 0).trans rfl,(bC BK336.out 0).trans rfl,(bC BK336.out 1).trans rfl,(bC BK336.out 2).trans rfl⟩ (fun hHeld=>?_)
      clear hK K
      refine norm_ (a':=?_) ?_ ?_
      rotate_left
      ·show Act.put _ (some 24) _ = _
       simp only [Act.put,lA,l0',lS,i64_w,i32_w]
       rfl
      refine pure_ (i:=5) (N:=some 6) (v:=?_) (a':=?_) #[true,true,true,true,true,true] rfl rfl (by kernel_rfl) (fun _ _ _ h=>h) (Or.inl ⟨by rfl,?_⟩) ?_ ?_
      rotate_left
      ·intro w'
       go_simp
       with_reducible rfl
      rotate_left
      ·simp only [Act.put,lA,l0',lS,i64_w,i32_w]
       rfl
      refine done_ (by kernel_rfl) ?_
      have hcz75_0 : w74.cell? ⟨gb335,0,none⟩ = some (.slice A0_0 l0_0.length c0_0):=(bC BK335.out 0).trans rfl
      have hfz75_0:=blk_frozen BK335.out 0
      try go_wp2_with (first|((with_reducible refine gate_callee (f:=42) rfl ?_);refine goesL_ (some 26) rfl rfl Try.func42 (by kernel_rfl) rfl #[.agg #[.slice A0_0 l0_0.length c0_0]] rfl (by (try simp only [mA,mC,mN]);first|done|rfl) ?_;(with_reducible refine (laws_toDeal.calls k _ _ l0_0 t348 _ ?side1 ?side2 A22.out).mono ?_);(case side1=>repeat (first|exact (Kd.C_below HR0_0.out HB.out)|(with_reducible refine Kd.C_alloc ?_ _)|(with_reducible refine Kd.C_drewN ?_ _)|(with_reducible refine Kd.C_drew ?_)));(case side2=>exact HC0_0.out);rintro e w76 ⟨v349,rfl,ho0,hb⟩;refine ⟨_,rfl,?_⟩;have n0_:=aK (Kd.S_elder' (by (with_reducible repeat (first|apply Kd.S_alloc|apply Kd.S_drewN|apply Kd.S_drew));exact HO341.out) (Kd.S_base ho0) hb);have n1_:=aK (Kd.R_below (by (with_reducible repeat (first|apply Kd.R_alloc|apply Kd.R_drewN|apply Kd.R_drew));exact HO346.out) hb);have n2_:=aK (Kd.S_lower (Kd.S_new' (Kd.S_new' ho0 (Kd.S_lt (by (with_reducible repeat (first|apply Kd.S_alloc|apply Kd.S_drewN|apply Kd.S_drew));exact HO341.out))) (Kd.R_lt (by (with_reducible repeat (first|apply Kd.R_alloc|apply Kd.R_drewN|apply Kd.R_drew));exact HO346.out))) (below_size (by repeat (first|(with_reducible first|exact HB.out|apply bL|apply bM|apply b1|refine bS ?_ GE335.out|refine bS ?_ GE336.out)|exact HB.out))));have n3_:=aK (bB (by (with_reducible repeat (first|apply bN|apply bD|apply bA));exact BK335.out) hb);have n4_:=aK (bB (by (with_reducible repeat (first|apply bN|apply bD|apply bA));exact BK336.out) hb);have n5_:=aK (below_step (by repeat (first|(with_reducible first|exact HB.out|apply bL|apply bM|apply b1|refine bS ?_ GE335.out|refine bS ?_ GE336.out)|exact HB.out)) hb);clear HO341;clear HO346;clear BK335;clear BK336;clear HB;have HO341:=n0_;have HO346:=n1_;have HO350:=n2_;have BK335:=n3_;have BK336:=n4_;have HB:=n5_;clear n0_ n1_ n2_ n3_ n4_ n5_;(try clear hb);(try clear hb2);(try clear hk);(try clear hi);(try clear ho0))|((with_reducible refine gate_dst (N:=7) rfl ?_);refine box_event ?hg (N:=7) ?hd (cs:=#[.slice none 0 0]) (t:=44) ?hr ?_;(case hd=>rfl);(case hg=>rfl);(case hr=>first|(go_simp;done)|(go_simp;rfl));intro gb351 hg w77 hbox hb;have n0_:=aK (Kd.S_below (by (with_reducible repeat (first|apply Kd.S_alloc|apply Kd.S_drewN|apply Kd.S_drew));exact HO341.out) hb);have n1_:=aK (Kd.R_below (by (with_reducible repeat (first|apply Kd.R_alloc|apply Kd.R_drewN|apply Kd.R_drew));exact HO346.out) hb);have n2_:=aK (Kd.S_below (by (with_reducible repeat (first|apply Kd.S_alloc|apply Kd.S_drewN|apply Kd.S_drew));exact HO350.out) hb);have n3_:=aK (bB (by (with_reducible repeat (first|apply bN|apply bD|apply bA));exact BK335.out) hb);have n4_:=aK (bB (by (with_reducible repeat (first|apply bN|apply bD|apply bA));exact BK336.out) hb);have n5_:=aK (below_step (by repeat (first|(with_reducible first|exact HB.out|apply bL|apply bM|apply b1|refine bS ?_ GE335.out|refine bS ?_ GE336.out)|exact HB.out)) hb);have n6_:=aK (hbox);have n7_:=aK ((by rw [hg];exact (below_size (by repeat (first|(with_reducible first|exact HB.out|apply bL|apply bM|apply b1|refine bS ?_ GE335.out|refine bS ?_ GE336.out)|exact HB.out))) : w.heap.size ≤ gb351));have n8_:=aK ((by rw [hg];exact (below_size (by repeat (first|(with_reducible first|exact HB.out|apply bL|apply bM|apply b1|refine bS ?_ GE335.out|refine bS ?_ GE336.out)|exact HB.out))) : w.heap.size ≤ gb351));have n9_:=aK ((by rw [hg];exact Nat.ne_of_lt (blk_lt (by (with_reducible repeat (first|apply bN|apply bD|apply bA));exact BK335.out)) : gb335 ≠ gb351));have n10_:=aK ((by rw [hg];exact Nat.ne_of_gt (blk_lt (by (with_reducible repeat (first|apply bN|apply bD|apply bA));exact BK335.out)) : gb351 ≠ gb335));have n11_:=aK ((by rw [hg];exact Nat.ne_of_lt (blk_lt (by (with_reducible repeat (first|apply bN|apply bD|apply bA));exact BK336.out)) : gb336 ≠ gb351));have n12_:=aK ((by rw [hg];exact Nat.ne_of_gt (blk_lt (by (with_reducible repeat (first|apply bN|apply bD|apply bA));exact BK336.out)) : gb351 ≠ gb336));clear HO341;clear HO346;clear HO350;clear BK335;clear BK336;clear HB;have HO341:=n0_;have HO346:=n1_;have HO350:=n2_;have BK335:=n3_;have BK336:=n4_;have HB:=n5_;have BK351:=n6_;have GW351:=n7_;have GE351:=n8_;have NB335_351:=n9_;have NB351_335:=n10_;have NB336_351:=n11_;have NB351_336:=n12_;clear n0_ n1_ n2_ n3_ n4_ n5_ n6_ n7_ n8_ n9_ n10_ n11_ n12_;clear hb hbox hg;obtain ⟨Ao78,co78,eo78⟩:=Kd.S_slice HO350.out;subst eo78;have hnb79:=NB351_335.out;have hnc79:=NB335_351.out;have hnb80:=NB351_336.out;have hnc80:=NB336_351.out;have hcz81_0 : w77.cell? ⟨gb351,0,none⟩ = some (.slice none 0 0):=(bC BK351.out 0).trans rfl;have hfz81_0:=blk_frozen BK351.out 0;have hcz82_0 : w77.cell? ⟨gb336,0,none⟩ = some (.int .i64 a1_0):=(bC BK336.out 0).trans rfl;have hcz82_1 : w77.cell? ⟨gb336,1,none⟩ = some (.int .i64 a1_1):=(bC BK336.out 1).trans rfl;have hcz82_2 : w77.cell? ⟨gb336,2,none⟩ = some (.slice A1_2 l1_2.length c1_2):=(bC BK336.out 2).trans rfl;have hfz82_0:=blk_frozen BK336.out 0;have hfz82_1:=blk_frozen BK336.out 1;have hfz82_2:=blk_frozen BK336.out 2)|((with_reducible refine gate_callee (f:=24) rfl ?_);refine goesL_ (some 28) rfl rfl Try.func24 (by kernel_rfl) rfl #[.agg #[.int .i64 a1_0,.int .i64 a1_1,.slice A1_2 l1_2.length c1_2]] rfl (by (try simp only [mA,mC,mN]);first|done|rfl) ?_;(with_reducible refine (laws_toPlay.calls k a1_0 a1_1 _ _ l1_2 t352 t353 t354 _ ?side1 ?side2 A23.out).mono ?_);(case side1=>exact Kd.C_below HR1_2.out (by repeat (first|(with_reducible first|exact HB.out|apply bL|apply bM|apply b1|refine bS ?_ GE335.out|refine bS ?_ GE336.out|refine bS ?_ GE351.out)|exact HB.out)));(case side2=>exact HC1_2.out);rintro e w83 ⟨v355,rfl,ho0,hb⟩;refine ⟨_,rfl,?_⟩;have n0_:=aK (Kd.S_elder' (by (with_reducible repeat (first|apply Kd.S_alloc|apply Kd.S_drewN|apply Kd.S_drew));exact (Kd.S_mono (Kd.S_far (p:=⟨gb351,0,none⟩) (Kd.S_types HO341.out BK351.out (by decide)) (fun _ hk=>by first|exact hk.2|(have h_:=hk;(try simp only [and_assoc,true_and] at h_);(repeat' apply And.intro) <;> first|with_reducible exact h_.1|with_reducible exact h_.2.1|with_reducible exact h_.2.2.1|with_reducible exact h_.2.2.2.1|with_reducible exact h_.2.2.2.2.1|with_reducible exact h_.2.2.2.2.2.1|with_reducible exact h_.2.2.2.2.2.2.1|with_reducible exact h_.2.2.2.2.2.2.2.1|with_reducible exact h_.2.2.2.2.2.2.2.2.1|with_reducible exact h_.2|with_reducible exact h_.2.2|with_reducible exact h_.2.2.2|with_reducible exact h_.2.2.2.2|with_reducible exact h_.2.2.2.2.2|with_reducible exact h_.2.2.2.2.2.2|with_reducible exact h_.2.2.2.2.2.2.2|with_reducible exact h_.2.2.2.2.2.2.2.2)) (.slice Ao78 t348.length co78)) (fun _ h_=>h_.1))) (Kd.R_base ho0) hb);have n1_:=aK (Kd.R_elder' (by (with_reducible repeat (first|apply Kd.R_alloc|apply Kd.R_drewN|apply Kd.R_drew));exact (Kd.R_mono (Kd.R_far (p:=⟨gb351,0,none⟩) (Kd.R_types HO346.out BK351.out (by decide)) (fun _ hk=>by first|exact hk.2|(have h_:=hk;(try simp only [and_assoc,true_and] at h_);(repeat' apply And.intro) <;> first|with_reducible exact h_.1|with_reducible exact h_.2.1|with_reducible exact h_.2.2.1|with_reducible exact h_.2.2.2.1|with_reducible exact h_.2.2.2.2.1|with_reducible exact h_.2.2.2.2.2.1|with_reducible exact h_.2.2.2.2.2.2.1|with_reducible exact h_.2.2.2.2.2.2.2.1|with_reducible exact h_.2.2.2.2.2.2.2.2.1|with_reducible exact h_.2|with_reducible exact h_.2.2|with_reducible exact h_.2.2.2|with_reducible exact h_.2.2.2.2|with_reducible exact h_.2.2.2.2.2|with_reducible exact h_.2.2.2.2.2.2|with_reducible exact h_.2.2.2.2.2.2.2|with_reducible exact h_.2.2.2.2.2.2.2.2)) (.slice Ao78 t348.length co78)) (fun _ h_=>h_.1))) (Kd.R_base ho0) hb);have n2_:=aK (Kd.S_elder' (by (with_reducible repeat (first|apply Kd.S_alloc|apply Kd.S_drewN|apply Kd.S_drew));exact (Kd.S_mono (Kd.S_far (p:=⟨gb351,0,none⟩) (Kd.S_types HO350.out BK351.out (by decide)) (fun _ hk=>by first|exact hk.2|(have h_:=hk;(try simp only [and_assoc,true_and] at h_);(repeat' apply And.intro) <;> first|with_reducible exact h_.1|with_reducible exact h_.2.1|with_reducible exact h_.2.2.1|with_reducible exact h_.2.2.2.1|with_reducible exact h_.2.2.2.2.1|with_reducible exact h_.2.2.2.2.2.1|with_reducible exact h_.2.2.2.2.2.2.1|with_reducible exact h_.2.2.2.2.2.2.2.1|with_reducible exact h_.2.2.2.2.2.2.2.2.1|with_reducible exact h_.2|with_reducible exact h_.2.2|with_reducible exact h_.2.2.2|with_reducible exact h_.2.2.2.2|with_reducible exact h_.2.2.2.2.2|with_reducible exact h_.2.2.2.2.2.2|with_reducible exact h_.2.2.2.2.2.2.2|with_reducible exact h_.2.2.2.2.2.2.2.2)) (.slice Ao78 t348.length co78)) (fun _ h_=>h_.1))) (Kd.R_base ho0) hb);have n3_:=aK (Kd.R_lower (Kd.R_new' ho0 (Kd.R_lt (by (with_reducible repeat (first|apply Kd.R_alloc|apply Kd.R_drewN|apply Kd.R_drew));exact (Kd.R_mono (Kd.R_far (p:=⟨gb351,0,none⟩) (Kd.R_types HO346.out BK351.out (by decide)) (fun _ hk=>by first|exact hk.2|(have h_:=hk;(try simp only [and_assoc,true_and] at h_);(repeat' apply And.intro) <;> first|with_reducible exact h_.1|with_reducible exact h_.2.1|with_reducible exact h_.2.2.1|with_reducible exact h_.2.2.2.1|with_reducible exact h_.2.2.2.2.1|with_reducible exact h_.2.2.2.2.2.1|with_reducible exact h_.2.2.2.2.2.2.1|with_reducible exact h_.2.2.2.2.2.2.2.1|with_reducible exact h_.2.2.2.2.2.2.2.2.1|with_reducible exact h_.2|with_reducible exact h_.2.2|with_reducible exact h_.2.2.2|with_reducible exact h_.2.2.2.2|with_reducible exact h_.2.2.2.2.2|with_reducible exact h_.2.2.2.2.2.2|with_reducible exact h_.2.2.2.2.2.2.2|with_reducible exact h_.2.2.2.2.2.2.2.2)) (.slice Ao78 t348.length co78)) (fun _ h_=>h_.1))))) (below_size (by repeat (first|(with_reducible first|exact HB.out|apply bL|apply bM|apply b1|refine bS ?_ GE335.out|refine bS ?_ GE336.out|refine bS ?_ GE351.out)|exact HB.out))));have n4_:=aK (bB (g:=gb335) (o:=.cells #[.slice A0_0 l0_0.length c0_0] 41 (0,0)) (by (with_reducible repeat (first|apply bN|apply bD|apply bA));refine blk_far ?_ NB335_351.out _;(with_reducible repeat (first|apply bN|apply bD|apply bA));exact BK335.out) hb);have n5_:=aK (bB (g:=gb336) (o:=.cells #[.int .i64 a1_0,.int .i64 a1_1,.slice A1_2 l1_2.length c1_2] 24 (0,0)) (by (with_reducible repeat (first|apply bN|apply bD|apply bA));refine blk_far ?_ NB336_351.out _;(with_reducible repeat (first|apply bN|apply bD|apply bA));exact BK336.out) hb);have n6_:=aK (bB (g:=gb351) (o:=.cells #[.slice Ao78 t348.length co78] 44 (0,0)) (by (with_reducible repeat (first|apply bN|apply bD|apply bA));refine blk_put (cs:=#[.slice none 0 0]) ?_ 0 _ rfl;(with_reducible repeat (first|apply bN|apply bD|apply bA));exact BK351.out) hb);have n7_:=aK (below_step (by repeat (first|(with_reducible first|exact HB.out|apply bL|apply bM|apply b1|refine bS ?_ GE335.out|refine bS ?_ GE336.out|refine bS ?_ GE351.out)|exact HB.out)) hb);clear HO341;clear HO346;clear HO350;clear BK335;clear BK336;clear BK351;clear HB;have HO341:=n0_;have HO346:=n1_;have HO350:=n2_;have HO356:=n3_;have BK335:=n4_;have BK336:=n5_;have BK351:=n6_;have HB:=n7_;clear n0_ n1_ n2_ n3_ n4_ n5_ n6_ n7_;(try clear hb);(try clear hb2);(try clear hk);(try clear hi);(try clear ho0))|((with_reducible refine gate_dst (N:=8) rfl ?_);refine box_event ?hg (N:=8) ?hd (cs:=#[.int .i64 0,.int .i64 0,.slice none 0 0]) (t:=27) ?hr ?_;(case hd=>rfl);(case hg=>rfl);(case hr=>first|(go_simp;done)|(go_simp;rfl));intro gb357 hg w84 hbox hb;have n0_:=aK (Kd.S_below (by (with_reducible repeat (first|apply Kd.S_alloc|apply Kd.S_drewN|apply Kd.S_drew));exact HO341.out) hb);have n1_:=aK (Kd.R_below (by (with_reducible repeat (first|apply Kd.R_alloc|apply Kd.R_drewN|apply Kd.R_drew));exact HO346.out) hb);have n2_:=aK (Kd.S_below (by (with_reducible repeat (first|apply Kd.S_alloc|apply Kd.S_drewN|apply Kd.S_drew));exact HO350.out) hb);have n3_:=aK (Kd.R_below (by (with_reducible repeat (first|apply Kd.R_alloc|apply Kd.R_drewN|apply Kd.R_drew));exact HO356.out) hb);have n4_:=aK (bB (by (with_reducible repeat (first|apply bN|apply bD|apply bA));exact BK335.out) hb);have n5_:=aK (bB (by (with_reducible repeat (first|apply bN|apply bD|apply bA));exact BK336.out) hb);have n6_:=aK (bB (by (with_reducible repeat (first|apply bN|apply bD|apply bA));exact BK351.out) hb);have n7_:=aK (below_step (by repeat (first|(with_reducible first|exact HB.out|apply bL|apply bM|apply b1|refine bS ?_ GE335.out|refine bS ?_ GE336.out|refine bS ?_ GE351.out)|exact HB.out)) hb);have n8_:=aK (hbox);have n9_:=aK ((by rw [hg];exact (below_size (by repeat (first|(with_reducible first|exact HB.out|apply bL|apply bM|apply b1|refine bS ?_ GE335.out|refine bS ?_ GE336.out|refine bS ?_ GE351.out)|exact HB.out))) : w.heap.size ≤ gb357));have n10_:=aK ((by rw [hg];exact (below_size (by repeat (first|(with_reducible first|exact HB.out|apply bL|apply bM|apply b1|refine bS ?_ GE335.out|refine bS ?_ GE336.out|refine bS ?_ GE351.out)|exact HB.out))) : w.heap.size ≤ gb357));have n11_:=aK ((by rw [hg];exact Nat.ne_of_lt (blk_lt (by (with_reducible repeat (first|apply bN|apply bD|apply bA));exact BK335.out)) : gb335 ≠ gb357));have n12_:=aK ((by rw [hg];exact Nat.ne_of_gt (blk_lt (by (with_reducible repeat (first|apply bN|apply bD|apply bA));exact BK335.out)) : gb357 ≠ gb335));have n13_:=aK ((by rw [hg];exact Nat.ne_of_lt (blk_lt (by (with_reducible repeat (first|apply bN|apply bD|apply bA));exact BK336.out)) : gb336 ≠ gb357));have n14_:=aK ((by rw [hg];exact Nat.ne_of_gt (blk_lt (by (with_reducible repeat (first|apply bN|apply bD|apply bA));exact BK336.out)) : gb357 ≠ gb336));have n15_:=aK ((by rw [hg];exact Nat.ne_of_lt (blk_lt (by (with_reducible repeat (first|apply bN|apply bD|apply bA));exact BK351.out)) : gb351 ≠ gb357));have n16_:=aK ((by rw [hg];exact Nat.ne_of_gt (blk_lt (by (with_reducible repeat (first|apply bN|apply bD|apply bA));exact BK351.out)) : gb357 ≠ gb351));clear HO341;clear HO346;clear HO350;clear HO356;clear BK335;clear BK336;clear BK351;clear HB;have HO341:=n0_;have HO346:=n1_;have HO350:=n2_;have HO356:=n3_;have BK335:=n4_;have BK336:=n5_;have BK351:=n6_;have HB:=n7_;have BK357:=n8_;have GW357:=n9_;have GE357:=n10_;have NB335_357:=n11_;have NB357_335:=n12_;have NB336_357:=n13_;have NB357_336:=n14_;have NB351_357:=n15_;have NB357_351:=n16_;clear n0_ n1_ n2_ n3_ n4_ n5_ n6_ n7_ n8_ n9_ n10_ n11_ n12_ n13_ n14_ n15_ n16_;clear hb hbox hg;have hnb85:=NB357_335.out;have hnc85:=NB335_357.out;have hnb86:=NB357_336.out;have hnc86:=NB336_357.out;have hnb87:=NB357_351.out;have hnc87:=NB351_357.out;have hcz88_0 : w84.cell? ⟨gb357,0,none⟩ = some (.int .i64 0):=(bC BK357.out 0).trans rfl;have hcz88_1 : w84.cell? ⟨gb357,1,none⟩ = some (.int .i64 0):=(bC BK357.out 1).trans rfl;have hcz88_2 : w84.cell? ⟨gb357,2,none⟩ = some (.slice none 0 0):=(bC BK357.out 2).trans rfl;have hfz88_0:=blk_frozen BK357.out 0;have hfz88_1:=blk_frozen BK357.out 1;have hfz88_2:=blk_frozen BK357.out 2;obtain ⟨Ao89,co89,eo89⟩:=Kd.R_slice HO356.out;subst eo89;have hcz90_0 : w84.cell? ⟨gb351,0,none⟩ = some (.slice Ao78 t348.length co78):=(bC BK351.out 0).trans rfl;have hfz90_0:=blk_frozen BK351.out 0)|((with_reducible refine gate_callee (f:=46) rfl ?_);refine goesL_ (some 31) rfl rfl Try.func46 (by kernel_rfl) rfl #[.agg #[.slice Ao78 t348.length co78],.agg #[.int .i64 t352,.int .i64 t353,.slice Ao89 t354.length co89]] rfl (by (try simp only [mA,mC,mN]);first|done|rfl) ?_;(with_reducible refine (impl_IsPlay.calls k _ _ t348 t352 t353 _ _ t354 t358 _ ?side1 ?side2 ?side3 ?side4 A24.out).mono ?_);(case side1=>refine (Kd.S_reads' (e:=22) (base:=w.heap.size) (ok:=fun k_=>(((True ∧ some k_ ≠ (.slice Ao72 t339.length co72 : Value).ownBlock) ∧ some k_ ≠ (.slice Ao73 t344.length co73 : Value).ownBlock) ∧ some k_ ≠ (.slice Ao89 t354.length co89 : Value).ownBlock)) (n:=t348.length) (c:=co78) ?_).2.2;exact (by (with_reducible repeat (first|apply Kd.S_alloc|apply Kd.S_drewN|apply Kd.S_drew));exact (Kd.S_mono (Kd.S_far (p:=⟨gb357,2,none⟩) (Kd.S_far (p:=⟨gb357,1,none⟩) (Kd.S_far (p:=⟨gb357,0,none⟩) (Kd.S_types HO350.out BK357.out (by decide)) (fun _ hk=>by first|exact hk.2|(have h_:=hk;(try simp only [and_assoc,true_and] at h_);(repeat' apply And.intro) <;> first|with_reducible exact h_.1|with_reducible exact h_.2.1|with_reducible exact h_.2.2.1|with_reducible exact h_.2.2.2.1|with_reducible exact h_.2.2.2.2.1|with_reducible exact h_.2.2.2.2.2.1|with_reducible exact h_.2.2.2.2.2.2.1|with_reducible exact h_.2.2.2.2.2.2.2.1|with_reducible exact h_.2.2.2.2.2.2.2.2.1|with_reducible exact h_.2|with_reducible exact h_.2.2|with_reducible exact h_.2.2.2|with_reducible exact h_.2.2.2.2|with_reducible exact h_.2.2.2.2.2|with_reducible exact h_.2.2.2.2.2.2|with_reducible exact h_.2.2.2.2.2.2.2|with_reducible exact h_.2.2.2.2.2.2.2.2)) (.int .i64 t352)) (fun _ hk=>by first|exact hk.2|(have h_:=hk;(try simp only [and_assoc,true_and] at h_);(repeat' apply And.intro) <;> first|with_reducible exact h_.1|with_reducible exact h_.2.1|with_reducible exact h_.2.2.1|with_reducible exact h_.2.2.2.1|with_reducible exact h_.2.2.2.2.1|with_reducible exact h_.2.2.2.2.2.1|with_reducible exact h_.2.2.2.2.2.2.1|with_reducible exact h_.2.2.2.2.2.2.2.1|with_reducible exact h_.2.2.2.2.2.2.2.2.1|with_reducible exact h_.2|with_reducible exact h_.2.2|with_reducible exact h_.2.2.2|with_reducible exact h_.2.2.2.2|with_reducible exact h_.2.2.2.2.2|with_reducible exact h_.2.2.2.2.2.2|with_reducible exact h_.2.2.2.2.2.2.2|with_reducible exact h_.2.2.2.2.2.2.2.2)) (.int .i64 t353)) (fun _ hk=>by first|exact hk.2|(have h_:=hk;(try simp only [and_assoc,true_and] at h_);(repeat' apply And.intro) <;> first|with_reducible exact h_.1|with_reducible exact h_.2.1|with_reducible exact h_.2.2.1|with_reducible exact h_.2.2.2.1|with_reducible exact h_.2.2.2.2.1|with_reducible exact h_.2.2.2.2.2.1|with_reducible exact h_.2.2.2.2.2.2.1|with_reducible exact h_.2.2.2.2.2.2.2.1|with_reducible exact h_.2.2.2.2.2.2.2.2.1|with_reducible exact h_.2|with_reducible exact h_.2.2|with_reducible exact h_.2.2.2|with_reducible exact h_.2.2.2.2|with_reducible exact h_.2.2.2.2.2|with_reducible exact h_.2.2.2.2.2.2|with_reducible exact h_.2.2.2.2.2.2.2|with_reducible exact h_.2.2.2.2.2.2.2.2)) (.slice Ao89 t354.length co89)) (fun _ h_=>h_.1))));(case side2=>exact (Kd.S_reads' HO350.out).2.1);(case side3=>refine (Kd.R_reads' (e:=2) (base:=w.heap.size) (ok:=fun k_=>(True ∧ some k_ ≠ (.slice Ao73 t344.length co73 : Value).ownBlock)) (n:=t354.length) (c:=co89) ?_).2.2;exact (by (with_reducible repeat (first|apply Kd.R_alloc|apply Kd.R_drewN|apply Kd.R_drew));exact (Kd.R_mono (Kd.R_far (p:=⟨gb357,2,none⟩) (Kd.R_far (p:=⟨gb357,1,none⟩) (Kd.R_far (p:=⟨gb357,0,none⟩) (Kd.R_types HO356.out BK357.out (by decide)) (fun _ hk=>by first|exact hk.2|(have h_:=hk;(try simp only [and_assoc,true_and] at h_);(repeat' apply And.intro) <;> first|with_reducible exact h_.1|with_reducible exact h_.2.1|with_reducible exact h_.2.2.1|with_reducible exact h_.2.2.2.1|with_reducible exact h_.2.2.2.2.1|with_reducible exact h_.2.2.2.2.2.1|with_reducible exact h_.2.2.2.2.2.2.1|with_reducible exact h_.2.2.2.2.2.2.2.1|with_reducible exact h_.2.2.2.2.2.2.2.2.1|with_reducible exact h_.2|with_reducible exact h_.2.2|with_reducible exact h_.2.2.2|with_reducible exact h_.2.2.2.2|with_reducible exact h_.2.2.2.2.2|with_reducible exact h_.2.2.2.2.2.2|with_reducible exact h_.2.2.2.2.2.2.2|with_reducible exact h_.2.2.2.2.2.2.2.2)) (.int .i64 t352)) (fun _ hk=>by first|exact hk.2|(have h_:=hk;(try simp only [and_assoc,true_and] at h_);(repeat' apply And.intro) <;> first|with_reducible exact h_.1|with_reducible exact h_.2.1|with_reducible exact h_.2.2.1|with_reducible exact h_.2.2.2.1|with_reducible exact h_.2.2.2.2.1|with_reducible exact h_.2.2.2.2.2.1|with_reducible exact h_.2.2.2.2.2.2.1|with_reducible exact h_.2.2.2.2.2.2.2.1|with_reducible exact h_.2.2.2.2.2.2.2.2.1|with_reducible exact h_.2|with_reducible exact h_.2.2|with_reducible exact h_.2.2.2|with_reducible exact h_.2.2.2.2|with_reducible exact h_.2.2.2.2.2|with_reducible exact h_.2.2.2.2.2.2|with_reducible exact h_.2.2.2.2.2.2.2|with_reducible exact h_.2.2.2.2.2.2.2.2)) (.int .i64 t353)) (fun _ hk=>by first|exact hk.2|(have h_:=hk;(try simp only [and_assoc,true_and] at h_);(repeat' apply And.intro) <;> first|with_reducible exact h_.1|with_reducible exact h_.2.1|with_reducible exact h_.2.2.1|with_reducible exact h_.2.2.2.1|with_reducible exact h_.2.2.2.2.1|with_reducible exact h_.2.2.2.2.2.1|with_reducible exact h_.2.2.2.2.2.2.1|with_reducible exact h_.2.2.2.2.2.2.2.1|with_reducible exact h_.2.2.2.2.2.2.2.2.1|with_reducible exact h_.2|with_reducible exact h_.2.2|with_reducible exact h_.2.2.2|with_reducible exact h_.2.2.2.2|with_reducible exact h_.2.2.2.2.2|with_reducible exact h_.2.2.2.2.2.2|with_reducible exact h_.2.2.2.2.2.2.2|with_reducible exact h_.2.2.2.2.2.2.2.2)) (.slice Ao89 t354.length co89)) (fun _ h_=>h_.1))));(case side4=>exact (Kd.R_reads' HO356.out).2.1);rintro e w91 ⟨rfl,hb⟩;refine ⟨_,rfl,?_⟩;have n0_:=aK (Kd.S_below (by (with_reducible repeat (first|apply Kd.S_alloc|apply Kd.S_drewN|apply Kd.S_drew));exact (Kd.S_mono (Kd.S_far (p:=⟨gb357,2,none⟩) (Kd.S_far (p:=⟨gb357,1,none⟩) (Kd.S_far (p:=⟨gb357,0,none⟩) (Kd.S_types HO341.out BK357.out (by decide)) (fun _ hk=>by first|exact hk.2|(have h_:=hk;(try simp only [and_assoc,true_and] at h_);(repeat' apply And.intro) <;> first|with_reducible exact h_.1|with_reducible exact h_.2.1|with_reducible exact h_.2.2.1|with_reducible exact h_.2.2.2.1|with_reducible exact h_.2.2.2.2.1|with_reducible exact h_.2.2.2.2.2.1|with_reducible exact h_.2.2.2.2.2.2.1|with_reducible exact h_.2.2.2.2.2.2.2.1|with_reducible exact h_.2.2.2.2.2.2.2.2.1|with_reducible exact h_.2|with_reducible exact h_.2.2|with_reducible exact h_.2.2.2|with_reducible exact h_.2.2.2.2|with_reducible exact h_.2.2.2.2.2|with_reducible exact h_.2.2.2.2.2.2|with_reducible exact h_.2.2.2.2.2.2.2|with_reducible exact h_.2.2.2.2.2.2.2.2)) (.int .i64 t352)) (fun _ hk=>by first|exact hk.2|(have h_:=hk;(try simp only [and_assoc,true_and] at h_);(repeat' apply And.intro) <;> first|with_reducible exact h_.1|with_reducible exact h_.2.1|with_reducible exact h_.2.2.1|with_reducible exact h_.2.2.2.1|with_reducible exact h_.2.2.2.2.1|with_reducible exact h_.2.2.2.2.2.1|with_reducible exact h_.2.2.2.2.2.2.1|with_reducible exact h_.2.2.2.2.2.2.2.1|with_reducible exact h_.2.2.2.2.2.2.2.2.1|with_reducible exact h_.2|with_reducible exact h_.2.2|with_reducible exact h_.2.2.2|with_reducible exact h_.2.2.2.2|with_reducible exact h_.2.2.2.2.2|with_reducible exact h_.2.2.2.2.2.2|with_reducible exact h_.2.2.2.2.2.2.2|with_reducible exact h_.2.2.2.2.2.2.2.2)) (.int .i64 t353)) (fun _ hk=>by first|exact hk.2|(have h_:=hk;(try simp only [and_assoc,true_and] at h_);(repeat' apply And.intro) <;> first|with_reducible exact h_.1|with_reducible exact h_.2.1|with_reducible exact h_.2.2.1|with_reducible exact h_.2.2.2.1|with_reducible exact h_.2.2.2.2.1|with_reducible exact h_.2.2.2.2.2.1|with_reducible exact h_.2.2.2.2.2.2.1|with_reducible exact h_.2.2.2.2.2.2.2.1|with_reducible exact h_.2.2.2.2.2.2.2.2.1|with_reducible exact h_.2|with_reducible exact h_.2.2|with_reducible exact h_.2.2.2|with_reducible exact h_.2.2.2.2|with_reducible exact h_.2.2.2.2.2|with_reducible exact h_.2.2.2.2.2.2|with_reducible exact h_.2.2.2.2.2.2.2|with_reducible exact h_.2.2.2.2.2.2.2.2)) (.slice Ao89 t354.length co89)) (fun _ h_=>h_.1))) hb);have n1_:=aK (Kd.R_below (by (with_reducible repeat (first|apply Kd.R_alloc|apply Kd.R_drewN|apply Kd.R_drew));exact (Kd.R_mono (Kd.R_far (p:=⟨gb357,2,none⟩) (Kd.R_far (p:=⟨gb357,1,none⟩) (Kd.R_far (p:=⟨gb357,0,none⟩) (Kd.R_types HO346.out BK357.out (by decide)) (fun _ hk=>by first|exact hk.2|(have h_:=hk;(try simp only [and_assoc,true_and] at h_);(repeat' apply And.intro) <;> first|with_reducible exact h_.1|with_reducible exact h_.2.1|with_reducible exact h_.2.2.1|with_reducible exact h_.2.2.2.1|with_reducible exact h_.2.2.2.2.1|with_reducible exact h_.2.2.2.2.2.1|with_reducible exact h_.2.2.2.2.2.2.1|with_reducible exact h_.2.2.2.2.2.2.2.1|with_reducible exact h_.2.2.2.2.2.2.2.2.1|with_reducible exact h_.2|with_reducible exact h_.2.2|with_reducible exact h_.2.2.2|with_reducible exact h_.2.2.2.2|with_reducible exact h_.2.2.2.2.2|with_reducible exact h_.2.2.2.2.2.2|with_reducible exact h_.2.2.2.2.2.2.2|with_reducible exact h_.2.2.2.2.2.2.2.2)) (.int .i64 t352)) (fun _ hk=>by first|exact hk.2|(have h_:=hk;(try simp only [and_assoc,true_and] at h_);(repeat' apply And.intro) <;> first|with_reducible exact h_.1|with_reducible exact h_.2.1|with_reducible exact h_.2.2.1|with_reducible exact h_.2.2.2.1|with_reducible exact h_.2.2.2.2.1|with_reducible exact h_.2.2.2.2.2.1|with_reducible exact h_.2.2.2.2.2.2.1|with_reducible exact h_.2.2.2.2.2.2.2.1|with_reducible exact h_.2.2.2.2.2.2.2.2.1|with_reducible exact h_.2|with_reducible exact h_.2.2|with_reducible exact h_.2.2.2|with_reducible exact h_.2.2.2.2|with_reducible exact h_.2.2.2.2.2|with_reducible exact h_.2.2.2.2.2.2|with_reducible exact h_.2.2.2.2.2.2.2|with_reducible exact h_.2.2.2.2.2.2.2.2)) (.int .i64 t353)) (fun _ hk=>by first|exact hk.2|(have h_:=hk;(try simp only [and_assoc,true_and] at h_);(repeat' apply And.intro) <;> first|with_reducible exact h_.1|with_reducible exact h_.2.1|with_reducible exact h_.2.2.1|with_reducible exact h_.2.2.2.1|with_reducible exact h_.2.2.2.2.1|with_reducible exact h_.2.2.2.2.2.1|with_reducible exact h_.2.2.2.2.2.2.1|with_reducible exact h_.2.2.2.2.2.2.2.1|with_reducible exact h_.2.2.2.2.2.2.2.2.1|with_reducible exact h_.2|with_reducible exact h_.2.2|with_reducible exact h_.2.2.2|with_reducible exact h_.2.2.2.2|with_reducible exact h_.2.2.2.2.2|with_reducible exact h_.2.2.2.2.2.2|with_reducible exact h_.2.2.2.2.2.2.2|with_reducible exact h_.2.2.2.2.2.2.2.2)) (.slice Ao89 t354.length co89)) (fun _ h_=>h_.1))) hb);have n2_:=aK (Kd.S_below (by (with_reducible repeat (first|apply Kd.S_alloc|apply Kd.S_drewN|apply Kd.S_drew));exact (Kd.S_mono (Kd.S_far (p:=⟨gb357,2,none⟩) (Kd.S_far (p:=⟨gb357,1,none⟩) (Kd.S_far (p:=⟨gb357,0,none⟩) (Kd.S_types HO350.out BK357.out (by decide)) (fun _ hk=>by first|exact hk.2|(have h_:=hk;(try simp only [and_assoc,true_and] at h_);(repeat' apply And.intro) <;> first|with_reducible exact h_.1|with_reducible exact h_.2.1|with_reducible exact h_.2.2.1|with_reducible exact h_.2.2.2.1|with_reducible exact h_.2.2.2.2.1|with_reducible exact h_.2.2.2.2.2.1|with_reducible exact h_.2.2.2.2.2.2.1|with_reducible exact h_.2.2.2.2.2.2.2.1|with_reducible exact h_.2.2.2.2.2.2.2.2.1|with_reducible exact h_.2|with_reducible exact h_.2.2|with_reducible exact h_.2.2.2|with_reducible exact h_.2.2.2.2|with_reducible exact h_.2.2.2.2.2|with_reducible exact h_.2.2.2.2.2.2|with_reducible exact h_.2.2.2.2.2.2.2|with_reducible exact h_.2.2.2.2.2.2.2.2)) (.int .i64 t352)) (fun _ hk=>by first|exact hk.2|(have h_:=hk;(try simp only [and_assoc,true_and] at h_);(repeat' apply And.intro) <;> first|with_reducible exact h_.1|with_reducible exact h_.2.1|with_reducible exact h_.2.2.1|with_reducible exact h_.2.2.2.1|with_reducible exact h_.2.2.2.2.1|with_reducible exact h_.2.2.2.2.2.1|with_reducible exact h_.2.2.2.2.2.2.1|with_reducible exact h_.2.2.2.2.2.2.2.1|with_reducible exact h_.2.2.2.2.2.2.2.2.1|with_reducible exact h_.2|with_reducible exact h_.2.2|with_reducible exact h_.2.2.2|with_reducible exact h_.2.2.2.2|with_reducible exact h_.2.2.2.2.2|with_reducible exact h_.2.2.2.2.2.2|with_reducible exact h_.2.2.2.2.2.2.2|with_reducible exact h_.2.2.2.2.2.2.2.2)) (.int .i64 t353)) (fun _ hk=>by first|exact hk.2|(have h_:=hk;(try simp only [and_assoc,true_and] at h_);(repeat' apply And.intro) <;> first|with_reducible exact h_.1|with_reducible exact h_.2.1|with_reducible exact h_.2.2.1|with_reducible exact h_.2.2.2.1|with_reducible exact h_.2.2.2.2.1|with_reducible exact h_.2.2.2.2.2.1|with_reducible exact h_.2.2.2.2.2.2.1|with_reducible exact h_.2.2.2.2.2.2.2.1|with_reducible exact h_.2.2.2.2.2.2.2.2.1|with_reducible exact h_.2|with_reducible exact h_.2.2|with_reducible exact h_.2.2.2|with_reducible exact h_.2.2.2.2|with_reducible exact h_.2.2.2.2.2|with_reducible exact h_.2.2.2.2.2.2|with_reducible exact h_.2.2.2.2.2.2.2|with_reducible exact h_.2.2.2.2.2.2.2.2)) (.slice Ao89 t354.length co89)) (fun _ h_=>h_.1))) hb);have n3_:=aK (Kd.R_below (by (with_reducible repeat (first|apply Kd.R_alloc|apply Kd.R_drewN|apply Kd.R_drew));exact (Kd.R_mono (Kd.R_far (p:=⟨gb357,2,none⟩) (Kd.R_far (p:=⟨gb357,1,none⟩) (Kd.R_far (p:=⟨gb357,0,none⟩) (Kd.R_types HO356.out BK357.out (by decide)) (fun _ hk=>by first|exact hk.2|(have h_:=hk;(try simp only [and_assoc,true_and] at h_);(repeat' apply And.intro) <;> first|with_reducible exact h_.1|with_reducible exact h_.2.1|with_reducible exact h_.2.2.1|with_reducible exact h_.2.2.2.1|with_reducible exact h_.2.2.2.2.1|with_reducible exact h_.2.2.2.2.2.1|with_reducible exact h_.2.2.2.2.2.2.1|with_reducible exact h_.2.2.2.2.2.2.2.1|with_reducible exact h_.2.2.2.2.2.2.2.2.1|with_reducible exact h_.2|with_reducible exact h_.2.2|with_reducible exact h_.2.2.2|with_reducible exact h_.2.2.2.2|with_reducible exact h_.2.2.2.2.2|with_reducible exact h_.2.2.2.2.2.2|with_reducible exact h_.2.2.2.2.2.2.2|with_reducible exact h_.2.2.2.2.2.2.2.2)) (.int .i64 t352)) (fun _ hk=>by first|exact hk.2|(have h_:=hk;(try simp only [and_assoc,true_and] at h_);(repeat' apply And.intro) <;> first|with_reducible exact h_.1|with_reducible exact h_.2.1|with_reducible exact h_.2.2.1|with_reducible exact h_.2.2.2.1|with_reducible exact h_.2.2.2.2.1|with_reducible exact h_.2.2.2.2.2.1|with_reducible exact h_.2.2.2.2.2.2.1|with_reducible exact h_.2.2.2.2.2.2.2.1|with_reducible exact h_.2.2.2.2.2.2.2.2.1|with_reducible exact h_.2|with_reducible exact h_.2.2|with_reducible exact h_.2.2.2|with_reducible exact h_.2.2.2.2|with_reducible exact h_.2.2.2.2.2|with_reducible exact h_.2.2.2.2.2.2|with_reducible exact h_.2.2.2.2.2.2.2|with_reducible exact h_.2.2.2.2.2.2.2.2)) (.int .i64 t353)) (fun _ hk=>by first|exact hk.2|(have h_:=hk;(try simp only [and_assoc,true_and] at h_);(repeat' apply And.intro) <;> first|with_reducible exact h_.1|with_reducible exact h_.2.1|with_reducible exact h_.2.2.1|with_reducible exact h_.2.2.2.1|with_reducible exact h_.2.2.2.2.1|with_reducible exact h_.2.2.2.2.2.1|with_reducible exact h_.2.2.2.2.2.2.1|with_reducible exact h_.2.2.2.2.2.2.2.1|with_reducible exact h_.2.2.2.2.2.2.2.2.1|with_reducible exact h_.2|with_reducible exact h_.2.2|with_reducible exact h_.2.2.2|with_reducible exact h_.2.2.2.2|with_reducible exact h_.2.2.2.2.2|with_reducible exact h_.2.2.2.2.2.2|with_reducible exact h_.2.2.2.2.2.2.2|with_reducible exact h_.2.2.2.2.2.2.2.2)) (.slice Ao89 t354.length co89)) (fun _ h_=>h_.1))) hb);have n4_:=aK (bB (g:=gb335) (o:=.cells #[.slice A0_0 l0_0.length c0_0] 41 (0,0)) (by (with_reducible repeat (first|apply bN|apply bD|apply bA));refine blk_far ?_ NB335_357.out _;(with_reducible repeat (first|apply bN|apply bD|apply bA));refine blk_far ?_ NB335_357.out _;(with_reducible repeat (first|apply bN|apply bD|apply bA));refine blk_far ?_ NB335_357.out _;(with_reducible repeat (first|apply bN|apply bD|apply bA));exact BK335.out) hb);have n5_:=aK (bB (g:=gb336) (o:=.cells #[.int .i64 a1_0,.int .i64 a1_1,.slice A1_2 l1_2.length c1_2] 24 (0,0)) (by (with_reducible repeat (first|apply bN|apply bD|apply bA));refine blk_far ?_ NB336_357.out _;(with_reducible repeat (first|apply bN|apply bD|apply bA));refine blk_far ?_ NB336_357.out _;(with_reducible repeat (first|apply bN|apply bD|apply bA));refine blk_far ?_ NB336_357.out _;(with_reducible repeat (first|apply bN|apply bD|apply bA));exact BK336.out) hb);have n6_:=aK (bB (g:=gb351) (o:=.cells #[.slice Ao78 t348.length co78] 44 (0,0)) (by (with_reducible repeat (first|apply bN|apply bD|apply bA));refine blk_far ?_ NB351_357.out _;(with_reducible repeat (first|apply bN|apply bD|apply bA));refine blk_far ?_ NB351_357.out _;(with_reducible repeat (first|apply bN|apply bD|apply bA));refine blk_far ?_ NB351_357.out _;(with_reducible repeat (first|apply bN|apply bD|apply bA));exact BK351.out) hb);have n7_:=aK (bB (g:=gb357) (o:=.cells #[.int .i64 t352,.int .i64 t353,.slice Ao89 t354.length co89] 27 (0,0)) (by (with_reducible repeat (first|apply bN|apply bD|apply bA));refine blk_put (cs:=#[.int .i64 t352,.int .i64 t353,.slice none 0 0]) ?_ 2 _ rfl;(with_reducible repeat (first|apply bN|apply bD|apply bA));refine blk_put (cs:=#[.int .i64 t352,.int .i64 0,.slice none 0 0]) ?_ 1 _ rfl;(with_reducible repeat (first|apply bN|apply bD|apply bA));refine blk_put (cs:=#[.int .i64 0,.int .i64 0,.slice none 0 0]) ?_ 0 _ rfl;(with_reducible repeat (first|apply bN|apply bD|apply bA));exact BK357.out) hb);have n8_:=aK (below_step (by repeat (first|(with_reducible first|exact HB.out|apply bL|apply bM|apply b1|refine bS ?_ GE335.out|refine bS ?_ GE336.out|refine bS ?_ GE351.out|refine bS ?_ GE357.out)|exact HB.out)) hb);clear HO341;clear HO346;clear HO350;clear HO356;clear BK335;clear BK336;clear BK351;clear BK357;clear HB;have HO341:=n0_;have HO346:=n1_;have HO350:=n2_;have HO356:=n3_;have BK335:=n4_;have BK336:=n5_;have BK351:=n6_;have BK357:=n7_;have HB:=n8_;clear n0_ n1_ n2_ n3_ n4_ n5_ n6_ n7_ n8_;(try clear hb);(try clear hb2);(try clear hk);(try clear hi)))
      have n0_:=aK (Kd.S_drew HO341.out)
      have n1_:=aK (Kd.R_drew HO346.out)
      have n2_:=aK (Kd.S_drew HO350.out)
      have n3_:=aK (Kd.R_drew HO356.out)
      have n4_:=aK (bD BK335.out)
      have n5_:=aK (bD BK336.out)
      have n6_:=aK (bD BK351.out)
      have n7_:=aK (bD BK357.out)
      have n8_:=aK (b1 HB.out)
      clear HO341
      clear HO346
      clear HO350
      clear HO356
      clear BK335
      clear BK336
      clear BK351
      clear BK357
      clear HB
      have HO341:=n0_
      have HO346:=n1_
      have HO350:=n2_
      have HO356:=n3_
      have BK335:=n4_
      have BK336:=n5_
      have BK351:=n6_
      have BK357:=n7_
      have HB:=n8_
      clear n0_ n1_ n2_ n3_ n4_ n5_ n6_ n7_ n8_
      refine start_ (n:=5) (S:=fun w'=>w'.cell? ⟨gb351,0,none⟩ = some (.slice Ao78 t348.length co78) ∧ w'.cell? ⟨gb335,0,none⟩ = some (.slice A0_0 l0_0.length c0_0)) (ds:=[]) #[false,false,false,false,false] (by kernel_rfl) rfl rfl ⟨(bC BK351.out 0).trans rfl,(bC BK335.out 0).trans rfl⟩ (fun hHeld=>?_)
      generalize w91.drew = w92 at HO341 HO346 HO350 HO356 BK335 BK336 BK351 BK357 HB hHeld ⊢
      refine take_ (i:=0) (N:=some 35) (v:=?_) (a':=?_) #[true,false,false,false,false] rfl rfl (by kernel_rfl) (fun _ _ _ h=>h) (Or.inl ⟨by rfl,?_⟩) hHeld ?_ ?_
      rotate_left
      ·rintro w' ⟨s0,s1⟩
       go_simp
       with_reducible rfl
      rotate_left
      ·simp only [Act.put,lA,l0',lS,i64_w,i32_w]
       rfl
      refine take_ (i:=1) (N:=some 36) (v:=?_) (a':=?_) #[true,true,false,false,false] rfl rfl (by kernel_rfl) (fun _ _ _ h=>h) (Or.inl ⟨by rfl,?_⟩) hHeld ?_ ?_
      rotate_left
      ·rintro w' ⟨s0,s1⟩
       go_simp
       with_reducible rfl
      rotate_left
      ·simp only [Act.put,lA,l0',lS,i64_w,i32_w]
       rfl
      refine one_ (i:=2) (N:=some 37) #[true,true,true,false,false] rfl rfl (by kernel_rfl) (by decide) (fun K hK=>?_)
      refine goes_ Try.func42 (by kernel_rfl) rfl #[.agg #[.slice A0_0 l0_0.length c0_0]] (by rfl) rfl rfl (by (try simp only [mA,mC,mN]);first|done|rfl) ?_
      with_reducible refine (laws_toDeal.calls k _ _ l0_0 t359 _ ?side1 ?side2 A56.out).mono ?_
      (case side1=>repeat (first|exact (Kd.C_below HR0_0.out HB.out)|(with_reducible refine Kd.C_alloc ?_ _)|(with_reducible refine Kd.C_drewN ?_ _)|(with_reducible refine Kd.C_drew ?_)))
      (case side2=>exact HC0_0.out)
      rintro e w93 ⟨v360,rfl,ho0,hb⟩
      refine ⟨_,rfl,?_⟩
      have n0_:=aK (Kd.S_elder' (by (with_reducible repeat (first|apply Kd.S_alloc|apply Kd.S_drewN|apply Kd.S_drew));exact HO341.out) (Kd.S_base ho0) hb)
      have n1_:=aK (Kd.R_below (by (with_reducible repeat (first|apply Kd.R_alloc|apply Kd.R_drewN|apply Kd.R_drew));exact HO346.out) hb)
      have n2_:=aK (Kd.S_elder' (by (with_reducible repeat (first|apply Kd.S_alloc|apply Kd.S_drewN|apply Kd.S_drew));exact HO350.out) (Kd.S_base ho0) hb)
      have n3_:=aK (Kd.R_below (by (with_reducible repeat (first|apply Kd.R_alloc|apply Kd.R_drewN|apply Kd.R_drew));exact HO356.out) hb)
      have n4_:=aK (Kd.S_lower (Kd.S_new' (Kd.S_new' (Kd.S_new' (Kd.S_new' ho0 (Kd.S_lt (by (with_reducible repeat (first|apply Kd.S_alloc|apply Kd.S_drewN|apply Kd.S_drew));exact HO341.out))) (Kd.R_lt (by (with_reducible repeat (first|apply Kd.R_alloc|apply Kd.R_drewN|apply Kd.R_drew));exact HO346.out))) (Kd.S_lt (by (with_reducible repeat (first|apply Kd.S_alloc|apply Kd.S_drewN|apply Kd.S_drew));exact HO350.out))) (Kd.R_lt (by (with_reducible repeat (first|apply Kd.R_alloc|apply Kd.R_drewN|apply Kd.R_drew));exact HO356.out))) (below_size (by repeat (first|(with_reducible first|exact HB.out|apply bL|apply bM|apply b1|refine bS ?_ GE335.out|refine bS ?_ GE336.out|refine bS ?_ GE351.out|refine bS ?_ GE357.out)|exact HB.out))))
      have n5_:=aK (bB (by (with_reducible repeat (first|apply bN|apply bD|apply bA));exact BK335.out) hb)
      have n6_:=aK (bB (by (with_reducible repeat (first|apply bN|apply bD|apply bA));exact BK336.out) hb)
      have n7_:=aK (bB (by (with_reducible repeat (first|apply bN|apply bD|apply bA));exact BK351.out) hb)
      have n8_:=aK (bB (by (with_reducible repeat (first|apply bN|apply bD|apply bA));exact BK357.out) hb)
      have n9_:=aK (below_step (by repeat (first|(with_reducible first|exact HB.out|apply bL|apply bM|apply b1|refine bS ?_ GE335.out|refine bS ?_ GE336.out|refine bS ?_ GE351.out|refine bS ?_ GE357.out)|exact HB.out)) hb)
      clear HO341
      clear HO346
      clear HO350
      clear HO356
      clear BK335
      clear BK336
      clear BK351
      clear BK357
      clear HB
      have HO341:=n0_
      have HO346:=n1_
      have HO350:=n2_
      have HO356:=n3_
      have HO361:=n4_
      have BK335:=n5_
      have BK336:=n6_
      have BK351:=n7_
      have BK357:=n8_
      have HB:=n9_
      clear n0_ n1_ n2_ n3_ n4_ n5_ n6_ n7_ n8_ n9_
      (try clear hb)
      (try clear hb2)
      (try clear hk)
      (try clear hi)
      (try clear ho0)
      obtain ⟨Ao94,co94,eo94⟩:=Kd.S_slice HO361.out
      (first|subst eo94|(injection eo94 with f1_ f2_ f3_;have f4_:=f1_.symm;have f5_:=f3_.symm;clear f1_ f2_ f3_;subst f4_;subst f5_))
      refine hK.out _ _ ⟨(bC BK351.out 0).trans rfl,(bC BK335.out 0).trans rfl⟩ (fun hHeld=>?_)
      clear hK K
      refine norm_ (a':=?_) ?_ ?_
      rotate_left
      ·show Act.put _ (some 37) _ = _
       simp only [Act.put,lA,l0',lS,i64_w,i32_w]
       rfl
      refine one_ (i:=3) (N:=some 38) #[true,true,true,true,false] rfl rfl (by kernel_rfl) (by decide) (fun K hK=>?_)
      refine goes_ Try.func44 (by kernel_rfl) rfl #[.agg #[.slice Ao78 t348.length co78],.agg #[.slice Ao94 t359.length co94]] (by rfl) rfl rfl (by (try simp only [mA,mC,mN]);first|done|rfl) ?_
      with_reducible refine (laws_eqDeal.calls k _ _ t348 _ _ t359 true _ ?side1 ?side2 ?side3 ?side4 A57.out).mono ?_
      (case side1=>repeat (first|exact (Kd.S_reads' HO350.out).2.2|(with_reducible refine Kd.C_alloc ?_ _)|(with_reducible refine Kd.C_drewN ?_ _)|(with_reducible refine Kd.C_drew ?_)))
      (case side2=>exact (Kd.S_reads' HO350.out).2.1)
      (case side3=>repeat (first|exact (Kd.S_reads' HO361.out).2.2|(with_reducible refine Kd.C_alloc ?_ _)|(with_reducible refine Kd.C_drewN ?_ _)|(with_reducible refine Kd.C_drew ?_)))
      (case side4=>exact (Kd.S_reads' HO361.out).2.1)
      rintro e w95 ⟨rfl,hb⟩
      refine ⟨_,rfl,?_⟩
      have n0_:=aK (Kd.S_below (by (with_reducible repeat (first|apply Kd.S_alloc|apply Kd.S_drewN|apply Kd.S_drew));exact HO341.out) hb)
      have n1_:=aK (Kd.R_below (by (with_reducible repeat (first|apply Kd.R_alloc|apply Kd.R_drewN|apply Kd.R_drew));exact HO346.out) hb)
      have n2_:=aK (Kd.S_below (by (with_reducible repeat (first|apply Kd.S_alloc|apply Kd.S_drewN|apply Kd.S_drew));exact HO350.out) hb)
      have n3_:=aK (Kd.R_below (by (with_reducible repeat (first|apply Kd.R_alloc|apply Kd.R_drewN|apply Kd.R_drew));exact HO356.out) hb)
      have n4_:=aK (Kd.S_below (by (with_reducible repeat (first|apply Kd.S_alloc|apply Kd.S_drewN|apply Kd.S_drew));exact HO361.out) hb)
      have n5_:=aK (bB (by (with_reducible repeat (first|apply bN|apply bD|apply bA));exact BK335.out) hb)
      have n6_:=aK (bB (by (with_reducible repeat (first|apply bN|apply bD|apply bA));exact BK336.out) hb)
      have n7_:=aK (bB (by (with_reducible repeat (first|apply bN|apply bD|apply bA));exact BK351.out) hb)
      have n8_:=aK (bB (by (with_reducible repeat (first|apply bN|apply bD|apply bA));exact BK357.out) hb)
      have n9_:=aK (below_step (by repeat (first|(with_reducible first|exact HB.out|apply bL|apply bM|apply b1|refine bS ?_ GE335.out|refine bS ?_ GE336.out|refine bS ?_ GE351.out|refine bS ?_ GE357.out)|exact HB.out)) hb)
      clear HO341
      clear HO346
      clear HO350
      clear HO356
      clear HO361
      clear BK335
      clear BK336
      clear BK351
      clear BK357
      clear HB
      have HO341:=n0_
      have HO346:=n1_
      have HO350:=n2_
      have HO356:=n3_
      have HO361:=n4_
      have BK335:=n5_
      have BK336:=n6_
      have BK351:=n7_
      have BK357:=n8_
      have HB:=n9_
      clear n0_ n1_ n2_ n3_ n4_ n5_ n6_ n7_ n8_ n9_
      (try clear hb)
      (try clear hb2)
      (try clear hk)
      (try clear hi)
      refine hK.out _ _ ⟨(bC BK351.out 0).trans rfl,(bC BK335.out 0).trans rfl⟩ (fun hHeld=>?_)
      clear hK K
      refine norm_ (a':=?_) ?_ ?_
      rotate_left
      ·show Act.put _ (some 38) _ = _
       simp only [Act.put,lA,l0',lS,i64_w,i32_w]
       rfl
      refine pure_ (i:=4) (N:=some 39) (v:=?_) (a':=?_) #[true,true,true,true,true] rfl rfl (by kernel_rfl) (fun _ _ _ h=>h) (Or.inl ⟨by rfl,?_⟩) ?_ ?_
      rotate_left
      ·intro w'
       go_simp
       with_reducible rfl
      rotate_left
      ·simp only [Act.put,lA,l0',lS,i64_w,i32_w]
       rfl
      refine done_ (by kernel_rfl) ?_
      try go_wp2
      have n0_:=aK (Kd.S_drew HO341.out)
      have n1_:=aK (Kd.R_drew HO346.out)
      have n2_:=aK (Kd.S_drew HO350.out)
      have n3_:=aK (Kd.R_drew HO356.out)
      have n4_:=aK (Kd.S_drew HO361.out)
      have n5_:=aK (bD BK335.out)
      have n6_:=aK (bD BK336.out)
      have n7_:=aK (bD BK351.out)
      have n8_:=aK (bD BK357.out)
      have n9_:=aK (b1 HB.out)
      clear HO341
      clear HO346
      clear HO350
      clear HO356
      clear HO361
      clear BK335
      clear BK336
      clear BK351
      clear BK357
      clear HB
      have HO341:=n0_
      have HO346:=n1_
      have HO350:=n2_
      have HO356:=n3_
      have HO361:=n4_
      have BK335:=n5_
      have BK336:=n6_
      have BK351:=n7_
      have BK357:=n8_
      have HB:=n9_
      clear n0_ n1_ n2_ n3_ n4_ n5_ n6_ n7_ n8_ n9_
      refine start_ (n:=5) (S:=fun w'=>w'.cell? ⟨gb357,0,none⟩ = some (.int .i64 t352) ∧ w'.cell? ⟨gb357,1,none⟩ = some (.int .i64 t353) ∧ w'.cell? ⟨gb357,2,none⟩ = some (.slice Ao89 t354.length co89) ∧ w'.cell? ⟨gb336,0,none⟩ = some (.int .i64 a1_0) ∧ w'.cell? ⟨gb336,1,none⟩ = some (.int .i64 a1_1) ∧ w'.cell? ⟨gb336,2,none⟩ = some (.slice A1_2 l1_2.length c1_2)) (ds:=[]) #[false,false,false,false,false] (by kernel_rfl) rfl rfl ⟨(bC BK357.out 0).trans rfl,(bC BK357.out 1).trans rfl,(bC BK357.out 2).trans rfl,(bC BK336.out 0).trans rfl,(bC BK336.out 1).trans rfl,(bC BK336.out 2).trans rfl⟩ (fun hHeld=>?_)
      generalize w95.drew = w96 at HO341 HO346 HO350 HO356 HO361 BK335 BK336 BK351 BK357 HB hHeld ⊢
      refine take_ (i:=0) (N:=some 40) (v:=?_) (a':=?_) #[true,false,false,false,false] rfl rfl (by kernel_rfl) (fun _ _ _ h=>h) (Or.inl ⟨by rfl,?_⟩) hHeld ?_ ?_
      rotate_left
      ·rintro w' ⟨s0,s1,s2,s3,s4,s5⟩
       go_simp
       with_reducible rfl
      rotate_left
      ·simp only [Act.put,lA,l0',lS,i64_w,i32_w]
       rfl
      refine take_ (i:=1) (N:=some 41) (v:=?_) (a':=?_) #[true,true,false,false,false] rfl rfl (by kernel_rfl) (fun _ _ _ h=>h) (Or.inl ⟨by rfl,?_⟩) hHeld ?_ ?_
      rotate_left
      ·rintro w' ⟨s0,s1,s2,s3,s4,s5⟩
       go_simp
       with_reducible rfl
      rotate_left
      ·simp only [Act.put,lA,l0',lS,i64_w,i32_w]
       rfl
      refine one_ (i:=2) (N:=some 42) #[true,true,true,false,false] rfl rfl (by kernel_rfl) (by decide) (fun K hK=>?_)
      refine goes_ Try.func24 (by kernel_rfl) rfl #[.agg #[.int .i64 a1_0,.int .i64 a1_1,.slice A1_2 l1_2.length c1_2]] (by rfl) rfl rfl (by (try simp only [mA,mC,mN]);first|done|rfl) ?_
      with_reducible refine (laws_toPlay.calls k a1_0 a1_1 _ _ l1_2 t363 t364 t365 _ ?side1 ?side2 A59.out).mono ?_
      (case side1=>repeat (first|exact (Kd.C_below HR1_2.out HB.out)|(with_reducible refine Kd.C_alloc ?_ _)|(with_reducible refine Kd.C_drewN ?_ _)|(with_reducible refine Kd.C_drew ?_)))
      (case side2=>exact HC1_2.out)
      rintro e w97 ⟨v366,rfl,ho0,hb⟩
      refine ⟨_,rfl,?_⟩
      have n0_:=aK (Kd.S_elder' (by (with_reducible repeat (first|apply Kd.S_alloc|apply Kd.S_drewN|apply Kd.S_drew));exact HO341.out) (Kd.R_base ho0) hb)
      have n1_:=aK (Kd.R_elder' (by (with_reducible repeat (first|apply Kd.R_alloc|apply Kd.R_drewN|apply Kd.R_drew));exact HO346.out) (Kd.R_base ho0) hb)
      have n2_:=aK (Kd.S_elder' (by (with_reducible repeat (first|apply Kd.S_alloc|apply Kd.S_drewN|apply Kd.S_drew));exact HO350.out) (Kd.R_base ho0) hb)
      have n3_:=aK (Kd.R_elder' (by (with_reducible repeat (first|apply Kd.R_alloc|apply Kd.R_drewN|apply Kd.R_drew));exact HO356.out) (Kd.R_base ho0) hb)
      have n4_:=aK (Kd.S_elder' (by (with_reducible repeat (first|apply Kd.S_alloc|apply Kd.S_drewN|apply Kd.S_drew));exact HO361.out) (Kd.R_base ho0) hb)
      have n5_:=aK (Kd.R_lower (Kd.R_new' (Kd.R_new' ho0 (Kd.R_lt (by (with_reducible repeat (first|apply Kd.R_alloc|apply Kd.R_drewN|apply Kd.R_drew));exact HO346.out))) (Kd.R_lt (by (with_reducible repeat (first|apply Kd.R_alloc|apply Kd.R_drewN|apply Kd.R_drew));exact HO356.out))) (below_size (by repeat (first|(with_reducible first|exact HB.out|apply bL|apply bM|apply b1|refine bS ?_ GE335.out|refine bS ?_ GE336.out|refine bS ?_ GE351.out|refine bS ?_ GE357.out)|exact HB.out))))
      have n6_:=aK (bB (by (with_reducible repeat (first|apply bN|apply bD|apply bA));exact BK335.out) hb)
      have n7_:=aK (bB (by (with_reducible repeat (first|apply bN|apply bD|apply bA));exact BK336.out) hb)
      have n8_:=aK (bB (by (with_reducible repeat (first|apply bN|apply bD|apply bA));exact BK351.out) hb)
      have n9_:=aK (bB (by (with_reducible repeat (first|apply bN|apply bD|apply bA));exact BK357.out) hb)
      have n10_:=aK (below_step (by repeat (first|(with_reducible first|exact HB.out|apply bL|apply bM|apply b1|refine bS ?_ GE335.out|refine bS ?_ GE336.out|refine bS ?_ GE351.out|refine bS ?_ GE357.out)|exact HB.out)) hb)
      clear HO341
      clear HO346
      clear HO350
      clear HO356
      clear HO361
      clear BK335
      clear BK336
      clear BK351
      clear BK357
      clear HB
      have HO341:=n0_
      have HO346:=n1_
      have HO350:=n2_
      have HO356:=n3_
      have HO361:=n4_
      have HO367:=n5_
      have BK335:=n6_
      have BK336:=n7_
      have BK351:=n8_
      have BK357:=n9_
      have HB:=n10_
      clear n0_ n1_ n2_ n3_ n4_ n5_ n6_ n7_ n8_ n9_ n10_
      (try clear hb)
      (try clear hb2)
      (try clear hk)
      (try clear hi)
      (try clear ho0)
      obtain ⟨Ao98,co98,eo98⟩:=Kd.R_slice HO367.out
      (first|subst eo98|(injection eo98 with f1_ f2_ f3_;have f4_:=f1_.symm;have f5_:=f3_.symm;clear f1_ f2_ f3_;subst f4_;subst f5_))
      refine hK.out _ _ ⟨(bC BK357.out 0).trans rfl,(bC BK357.out 1).trans rfl,(bC BK357.out 2).trans rfl,(bC BK336.out 0).trans rfl,(bC BK336.out 1).trans rfl,(bC BK336.out 2).trans rfl⟩ (fun hHeld=>?_)
      clear hK K
      refine norm_ (a':=?_) ?_ ?_
      rotate_left
      ·show Act.put _ (some 42) _ = _
       simp only [Act.put,lA,l0',lS,i64_w,i32_w]
       rfl
      refine one_ (i:=3) (N:=some 43) #[true,true,true,true,false] rfl rfl (by kernel_rfl) (by decide) (fun K hK=>?_)
      refine goes_ Try.func26 (by kernel_rfl) rfl #[.agg #[.int .i64 t352,.int .i64 t353,.slice Ao89 t354.length co89],.agg #[.int .i64 t363,.int .i64 t364,.slice Ao98 t365.length co98]] (by rfl) rfl rfl (by (try simp only [mA,mC,mN]);first|done|rfl) ?_
      with_reducible refine (laws_eqPlay.calls k t352 t353 _ _ t354 t363 t364 _ _ t365 true _ ?side1 ?side2 ?side3 ?side4 A60.out).mono ?_
      (case side1=>repeat (first|exact (Kd.R_reads' HO356.out).2.2|(with_reducible refine Kd.C_alloc ?_ _)|(with_reducible refine Kd.C_drewN ?_ _)|(with_reducible refine Kd.C_drew ?_)))
      (case side2=>exact (Kd.R_reads' HO356.out).2.1)
      (case side3=>repeat (first|exact (Kd.R_reads' HO367.out).2.2|(with_reducible refine Kd.C_alloc ?_ _)|(with_reducible refine Kd.C_drewN ?_ _)|(with_reducible refine Kd.C_drew ?_)))
      (case side4=>exact (Kd.R_reads' HO367.out).2.1)
      rintro e w99 ⟨rfl,hb⟩
      refine ⟨_,rfl,?_⟩
      have n0_:=aK (Kd.S_below (by (with_reducible repeat (first|apply Kd.S_alloc|apply Kd.S_drewN|apply Kd.S_drew));exact HO341.out) hb)
      have n1_:=aK (Kd.R_below (by (with_reducible repeat (first|apply Kd.R_alloc|apply Kd.R_drewN|apply Kd.R_drew));exact HO346.out) hb)
      have n2_:=aK (Kd.S_below (by (with_reducible repeat (first|apply Kd.S_alloc|apply Kd.S_drewN|apply Kd.S_drew));exact HO350.out) hb)
      have n3_:=aK (Kd.R_below (by (with_reducible repeat (first|apply Kd.R_alloc|apply Kd.R_drewN|apply Kd.R_drew));exact HO356.out) hb)
      have n4_:=aK (Kd.S_below (by (with_reducible repeat (first|apply Kd.S_alloc|apply Kd.S_drewN|apply Kd.S_drew));exact HO361.out) hb)
      have n5_:=aK (Kd.R_below (by (with_reducible repeat (first|apply Kd.R_alloc|apply Kd.R_drewN|apply Kd.R_drew));exact HO367.out) hb)
      have n6_:=aK (bB (by (with_reducible repeat (first|apply bN|apply bD|apply bA));exact BK335.out) hb)
      have n7_:=aK (bB (by (with_reducible repeat (first|apply bN|apply bD|apply bA));exact BK336.out) hb)
      have n8_:=aK (bB (by (with_reducible repeat (first|apply bN|apply bD|apply bA));exact BK351.out) hb)
      have n9_:=aK (bB (by (with_reducible repeat (first|apply bN|apply bD|apply bA));exact BK357.out) hb)
      have n10_:=aK (below_step (by repeat (first|(with_reducible first|exact HB.out|apply bL|apply bM|apply b1|refine bS ?_ GE335.out|refine bS ?_ GE336.out|refine bS ?_ GE351.out|refine bS ?_ GE357.out)|exact HB.out)) hb)
      clear HO341
      clear HO346
      clear HO350
      clear HO356
      clear HO361
      clear HO367
      clear BK335
      clear BK336
      clear BK351
      clear BK357
      clear HB
      have HO341:=n0_
      have HO346:=n1_
      have HO350:=n2_
      have HO356:=n3_
      have HO361:=n4_
      have HO367:=n5_
      have BK335:=n6_
      have BK336:=n7_
      have BK351:=n8_
      have BK357:=n9_
      have HB:=n10_
      clear n0_ n1_ n2_ n3_ n4_ n5_ n6_ n7_ n8_ n9_ n10_
      (try clear hb)
      (try clear hb2)
      (try clear hk)
      (try clear hi)
      refine hK.out _ _ ⟨(bC BK357.out 0).trans rfl,(bC BK357.out 1).trans rfl,(bC BK357.out 2).trans rfl,(bC BK336.out 0).trans rfl,(bC BK336.out 1).trans rfl,(bC BK336.out 2).trans rfl⟩ (fun hHeld=>?_)
      clear hK K
      refine norm_ (a':=?_) ?_ ?_
      rotate_left
      ·show Act.put _ (some 43) _ = _
       simp only [Act.put,lA,l0',lS,i64_w,i32_w]
       rfl
      refine pure_ (i:=4) (N:=some 44) (v:=?_) (a':=?_) #[true,true,true,true,true] rfl rfl (by kernel_rfl) (fun _ _ _ h=>h) (Or.inl ⟨by rfl,?_⟩) ?_ ?_
      rotate_left
      ·intro w'
       go_simp
       with_reducible rfl
      rotate_left
      ·simp only [Act.put,lA,l0',lS,i64_w,i32_w]
       rfl
      refine done_ (by kernel_rfl) ?_
      try go_wp2
      go_ret
      exact ⟨by first|rfl|(simp [errW_none,errW_some] <;> rfl)|(simp [*,errW_none,errW_some] <;> rfl),by repeat (first|(with_reducible first|exact HB.out|apply bL|apply bM|apply b1|refine bS ?_ GE335.out|refine bS ?_ GE336.out|refine bS ?_ GE351.out|refine bS ?_ GE357.out)|exact HB.out)⟩
     ·replace c61:=Bool.eq_false_iff.mpr c61
      subst c61
      have H1 : (some false) = some r:=by rw [if_neg (show ¬ (false = true) by decide)] at H;exact H
      clear H
      have H:=H1
      clear H1
      obtain rfl:=Option.some.inj H
      go_enter Try.func9,Try.ntmps9
      try go_wp2_with (first|((with_reducible refine gate_dst (N:=2) rfl ?_);refine box_event ?hg (N:=2) ?hd (cs:=#[.slice A0_0 l0_0.length c0_0]) (t:=41) ?hr ?_;(case hd=>rfl);(case hg=>rfl);(case hr=>first|(go_simp;done)|(go_simp;rfl));intro gb335 hg w100 hbox hb;have n0_:=aK (below_step (by repeat (first|(with_reducible first|exact HB.out|apply bL|apply bM|apply b1)|exact HB.out)) hb);have n1_:=aK (hbox);have n2_:=aK ((by rw [hg];exact (below_size (by repeat (first|(with_reducible first|exact HB.out|apply bL|apply bM|apply b1)|exact HB.out))) : w.heap.size ≤ gb335));have n3_:=aK ((by rw [hg];exact (below_size (by repeat (first|(with_reducible first|exact HB.out|apply bL|apply bM|apply b1)|exact HB.out))) : w.heap.size ≤ gb335));clear HB;have HB:=n0_;have BK335:=n1_;have GW335:=n2_;have GE335:=n3_;clear n0_ n1_ n2_ n3_;clear hb hbox hg)|((with_reducible refine gate_dst (N:=3) rfl ?_);refine box_event ?hg (N:=3) ?hd (cs:=#[.int .i64 a1_0,.int .i64 a1_1,.slice A1_2 l1_2.length c1_2]) (t:=24) ?hr ?_;(case hd=>rfl);(case hg=>rfl);(case hr=>first|(go_simp;done)|(go_simp;rfl));intro gb336 hg w101 hbox hb;have n0_:=aK (bB (by (with_reducible repeat (first|apply bN|apply bD|apply bA));exact BK335.out) hb);have n1_:=aK (below_step (by repeat (first|(with_reducible first|exact HB.out|apply bL|apply bM|apply b1|refine bS ?_ GE335.out)|exact HB.out)) hb);have n2_:=aK (hbox);have n3_:=aK ((by rw [hg];exact (below_size (by repeat (first|(with_reducible first|exact HB.out|apply bL|apply bM|apply b1|refine bS ?_ GE335.out)|exact HB.out))) : w.heap.size ≤ gb336));have n4_:=aK ((by rw [hg];exact (below_size (by repeat (first|(with_reducible first|exact HB.out|apply bL|apply bM|apply b1|refine bS ?_ GE335.out)|exact HB.out))) : w.heap.size ≤ gb336));have n5_:=aK ((by rw [hg];exact Nat.ne_of_lt (blk_lt (by (with_reducible repeat (first|apply bN|apply bD|apply bA));exact BK335.out)) : gb335 ≠ gb336));have n6_:=aK ((by rw [hg];exact Nat.ne_of_gt (blk_lt (by (with_reducible repeat (first|apply bN|apply bD|apply bA));exact BK335.out)) : gb336 ≠ gb335));clear BK335;clear HB;have BK335:=n0_;have HB:=n1_;have BK336:=n2_;have GW336:=n3_;have GE336:=n4_;have NB335_336:=n5_;have NB336_335:=n6_;clear n0_ n1_ n2_ n3_ n4_ n5_ n6_;clear hb hbox hg;have hnb102:=NB335_336.out;have hnc102:=NB336_335.out;have hcz103_0 : w101.cell? ⟨gb335,0,none⟩ = some (.slice A0_0 l0_0.length c0_0):=(bC BK335.out 0).trans rfl;have hfz103_0:=blk_frozen BK335.out 0)|((with_reducible refine gate_callee (f:=40) rfl ?_);refine goesL_ (some 12) rfl rfl Try.func40 (by kernel_rfl) rfl #[.agg #[.slice A0_0 l0_0.length c0_0],.int .i64 1048576] rfl (by (try simp only [mA,mC,mN]);first|done|rfl) ?_;(with_reducible refine (laws_szDeal.calls k _ _ l0_0 1048576 t337 _ ?side1 ?side2 A3.out).mono ?_);(case side1=>repeat (first|exact (Kd.C_below HR0_0.out HB.out)|(with_reducible refine Kd.C_alloc ?_ _)|(with_reducible refine Kd.C_drewN ?_ _)|(with_reducible refine Kd.C_drew ?_)));(case side2=>exact HC0_0.out);rintro e w104 ⟨rfl,hb⟩;refine ⟨_,rfl,?_⟩;have n0_:=aK (bB (by (with_reducible repeat (first|apply bN|apply bD|apply bA));exact BK335.out) hb);have n1_:=aK (bB (by (with_reducible repeat (first|apply bN|apply bD|apply bA));exact BK336.out) hb);have n2_:=aK (below_step (by repeat (first|(with_reducible first|exact HB.out|apply bL|apply bM|apply b1|refine bS ?_ GE335.out|refine bS ?_ GE336.out)|exact HB.out)) hb);clear BK335;clear BK336;clear HB;have BK335:=n0_;have BK336:=n1_;have HB:=n2_;clear n0_ n1_ n2_;(try clear hb);(try clear hb2);(try clear hk);(try clear hi);have hcz105_0 : w104.cell? ⟨gb336,0,none⟩ = some (.int .i64 a1_0):=(bC BK336.out 0).trans rfl;have hcz105_1 : w104.cell? ⟨gb336,1,none⟩ = some (.int .i64 a1_1):=(bC BK336.out 1).trans rfl;have hcz105_2 : w104.cell? ⟨gb336,2,none⟩ = some (.slice A1_2 l1_2.length c1_2):=(bC BK336.out 2).trans rfl;have hfz105_0:=blk_frozen BK336.out 0;have hfz105_1:=blk_frozen BK336.out 1;have hfz105_2:=blk_frozen BK336.out 2)|((with_reducible refine gate_callee (f:=22) rfl ?_);refine goesL_ (some 17) rfl rfl Try.func22 (by kernel_rfl) rfl #[.agg #[.int .i64 a1_0,.int .i64 a1_1,.slice A1_2 l1_2.length c1_2],.int .i64 t337] rfl (by (try simp only [mA,mC,mN]);first|done|rfl) ?_;(with_reducible refine (laws_szPlay.calls a1_0 a1_1 _ _ l1_2 t337 t338 _ ?side1 ?side2 A10.out).mono ?_);(case side1=>repeat (first|exact (Kd.C_below HR1_2.out HB.out)|(with_reducible refine Kd.C_alloc ?_ _)|(with_reducible refine Kd.C_drewN ?_ _)|(with_reducible refine Kd.C_drew ?_)));(case side2=>exact HC1_2.out);rintro e w106 ⟨rfl,hb⟩;refine ⟨_,rfl,?_⟩;have n0_:=aK (bB (by (with_reducible repeat (first|apply bN|apply bD|apply bA));exact BK335.out) hb);have n1_:=aK (bB (by (with_reducible repeat (first|apply bN|apply bD|apply bA));exact BK336.out) hb);have n2_:=aK (below_step (by repeat (first|(with_reducible first|exact HB.out|apply bL|apply bM|apply b1|refine bS ?_ GE335.out|refine bS ?_ GE336.out)|exact HB.out)) hb);clear BK335;clear BK336;clear HB;have BK335:=n0_;have BK336:=n1_;have HB:=n2_;clear n0_ n1_ n2_;(try clear hb);(try clear hb2);(try clear hk);(try clear hi)))
      have n0_:=aK (bD BK335.out)
      have n1_:=aK (bD BK336.out)
      have n2_:=aK (b1 HB.out)
      clear BK335
      clear BK336
      clear HB
      have BK335:=n0_
      have BK336:=n1_
      have HB:=n2_
      clear n0_ n1_ n2_
      refine start_ (n:=6) (S:=fun w'=>w'.cell? ⟨gb335,0,none⟩ = some (.slice A0_0 l0_0.length c0_0) ∧ w'.cell? ⟨gb336,0,none⟩ = some (.int .i64 a1_0) ∧ w'.cell? ⟨gb336,1,none⟩ = some (.int .i64 a1_1) ∧ w'.cell? ⟨gb336,2,none⟩ = some (.slice A1_2 l1_2.length c1_2)) (ds:=[]) #[false,false,false,false,false,false] (by kernel_rfl) rfl rfl ⟨(bC BK335.out 0).trans rfl,(bC BK336.out 0).trans rfl,(bC BK336.out 1).trans rfl,(bC BK336.out 2).trans rfl⟩ (fun hHeld=>?_)
      generalize w106.drew = w107 at BK335 BK336 HB hHeld ⊢
      refine take_ (i:=0) (N:=some 20) (v:=?_) (a':=?_) #[true,false,false,false,false,false] rfl rfl (by kernel_rfl) (fun _ _ _ h=>h) (Or.inl ⟨by rfl,?_⟩) hHeld ?_ ?_
      rotate_left
      ·rintro w' ⟨s0,s1,s2,s3⟩
       go_simp
       with_reducible rfl
      rotate_left
      ·simp only [Act.put,lA,l0',lS,i64_w,i32_w]
       rfl
      refine take_ (i:=2) (N:=some 22) (v:=?_) (a':=?_) #[true,false,true,false,false,false] rfl rfl (by kernel_rfl) (fun _ _ _ h=>h) (Or.inl ⟨by rfl,?_⟩) hHeld ?_ ?_
      rotate_left
      ·rintro w' ⟨s0,s1,s2,s3⟩
       go_simp
       with_reducible rfl
      rotate_left
      ·simp only [Act.put,lA,l0',lS,i64_w,i32_w]
       rfl
      refine one_ (i:=1) (N:=some 21) #[true,true,true,false,false,false] rfl rfl (by kernel_rfl) (by decide) (fun K hK=>?_)
      refine goes_ Try.func42 (by kernel_rfl) rfl #[.agg #[.slice A0_0 l0_0.length c0_0]] (by rfl) rfl rfl (by (try simp only [mA,mC,mN]);first|done|rfl) ?_
      with_reducible refine (laws_toDeal.calls k _ _ l0_0 t339 _ ?side1 ?side2 A19.out).mono ?_
      (case side1=>repeat (first|exact (Kd.C_below HR0_0.out HB.out)|(with_reducible refine Kd.C_alloc ?_ _)|(with_reducible refine Kd.C_drewN ?_ _)|(with_reducible refine Kd.C_drew ?_)))
      (case side2=>exact HC0_0.out)
      rintro e w108 ⟨v340,rfl,ho0,hb⟩
      refine ⟨_,rfl,?_⟩
      have n0_:=aK (Kd.S_lower ho0 (below_size (by repeat (first|(with_reducible first|exact HB.out|apply bL|apply bM|apply b1|refine bS ?_ GE335.out|refine bS ?_ GE336.out)|exact HB.out))))
      have n1_:=aK (bB (by (with_reducible repeat (first|apply bN|apply bD|apply bA));exact BK335.out) hb)
      have n2_:=aK (bB (by (with_reducible repeat (first|apply bN|apply bD|apply bA));exact BK336.out) hb)
      have n3_:=aK (below_step (by repeat (first|(with_reducible first|exact HB.out|apply bL|apply bM|apply b1|refine bS ?_ GE335.out|refine bS ?_ GE336.out)|exact HB.out)) hb)
      clear BK335
      clear BK336
      clear HB
      have HO341:=n0_
      have BK335:=n1_
      have BK336:=n2_
      have HB:=n3_
      clear n0_ n1_ n2_ n3_
      (try clear hb)
      (try clear hb2)
      (try clear hk)
      (try clear hi)
      (try clear ho0)
      refine hK.out _ _ ⟨(bC BK335.out 0).trans rfl,(bC BK336.out 0).trans rfl,(bC BK336.out 1).trans rfl,(bC BK336.out 2).trans rfl⟩ (fun hHeld=>?_)
      clear hK K
      refine norm_ (a':=?_) ?_ ?_
      rotate_left
      ·show Act.put _ (some 21) _ = _
       simp only [Act.put,lA,l0',lS,i64_w,i32_w]
       rfl
      refine one_ (i:=3) (N:=some 23) #[true,true,true,true,false,false] rfl rfl (by kernel_rfl) (by decide) (fun K hK=>?_)
      refine goes_ Try.func24 (by kernel_rfl) rfl #[.agg #[.int .i64 a1_0,.int .i64 a1_1,.slice A1_2 l1_2.length c1_2]] (by rfl) rfl rfl (by (try simp only [mA,mC,mN]);first|done|rfl) ?_
      with_reducible refine (laws_toPlay.calls k a1_0 a1_1 _ _ l1_2 t342 t343 t344 _ ?side1 ?side2 A20.out).mono ?_
      (case side1=>repeat (first|exact (Kd.C_below HR1_2.out HB.out)|(with_reducible refine Kd.C_alloc ?_ _)|(with_reducible refine Kd.C_drewN ?_ _)|(with_reducible refine Kd.C_drew ?_)))
      (case side2=>exact HC1_2.out)
      rintro e w109 ⟨v345,rfl,ho0,hb⟩
      refine ⟨_,rfl,?_⟩
      have n0_:=aK (Kd.S_elder' (by (with_reducible repeat (first|apply Kd.S_alloc|apply Kd.S_drewN|apply Kd.S_drew));exact HO341.out) (Kd.R_base ho0) hb)
      have n1_:=aK (Kd.R_lower ho0 (below_size (by repeat (first|(with_reducible first|exact HB.out|apply bL|apply bM|apply b1|refine bS ?_ GE335.out|refine bS ?_ GE336.out)|exact HB.out))))
      have n2_:=aK (bB (by (with_reducible repeat (first|apply bN|apply bD|apply bA));exact BK335.out) hb)
      have n3_:=aK (bB (by (with_reducible repeat (first|apply bN|apply bD|apply bA));exact BK336.out) hb)
      have n4_:=aK (below_step (by repeat (first|(with_reducible first|exact HB.out|apply bL|apply bM|apply b1|refine bS ?_ GE335.out|refine bS ?_ GE336.out)|exact HB.out)) hb)
      clear HO341
      clear BK335
      clear BK336
      clear HB
      have HO341:=n0_
      have HO346:=n1_
      have BK335:=n2_
      have BK336:=n3_
      have HB:=n4_
      clear n0_ n1_ n2_ n3_ n4_
      (try clear hb)
      (try clear hb2)
      (try clear hk)
      (try clear hi)
      (try clear ho0)
      obtain ⟨Ao110,co110,eo110⟩:=Kd.S_slice HO341.out
      (first|subst eo110|(injection eo110 with f1_ f2_ f3_;have f4_:=f1_.symm;have f5_:=f3_.symm;clear f1_ f2_ f3_;subst f4_;subst f5_))
      obtain ⟨Ao111,co111,eo111⟩:=Kd.R_slice HO346.out
      (first|subst eo111|(injection eo111 with f1_ f2_ f3_;have f4_:=f1_.symm;have f5_:=f3_.symm;clear f1_ f2_ f3_;subst f4_;subst f5_))
      refine hK.out _ _ ⟨(bC BK335.out 0).trans rfl,(bC BK336.out 0).trans rfl,(bC BK336.out 1).trans rfl,(bC BK336.out 2).trans rfl⟩ (fun hHeld=>?_)
      clear hK K
      refine norm_ (a':=?_) ?_ ?_
      rotate_left
      ·show Act.put _ (some 23) _ = _
       simp only [Act.put,lA,l0',lS,i64_w,i32_w]
       rfl
      refine one_ (i:=4) (N:=some 24) #[true,true,true,true,true,false] rfl rfl (by kernel_rfl) (by decide) (fun K hK=>?_)
      refine goes_ Try.func45 (by kernel_rfl) rfl #[.agg #[.slice Ao110 t339.length co110],.agg #[.int .i64 t342,.int .i64 t343,.slice Ao111 t344.length co111]] (by rfl) rfl rfl (by (try simp only [mA,mC,mN]);first|done|rfl) ?_
      with_reducible refine (spec_IsPlay.calls k _ _ t339 t342 t343 _ _ t344 t347 _ ?side1 ?side2 ?side3 ?side4 A21.out).mono ?_
      (case side1=>repeat (first|exact (Kd.S_reads' HO341.out).2.2|(with_reducible refine Kd.C_alloc ?_ _)|(with_reducible refine Kd.C_drewN ?_ _)|(with_reducible refine Kd.C_drew ?_)))
      (case side2=>exact (Kd.S_reads' HO341.out).2.1)
      (case side3=>repeat (first|exact (Kd.R_reads' HO346.out).2.2|(with_reducible refine Kd.C_alloc ?_ _)|(with_reducible refine Kd.C_drewN ?_ _)|(with_reducible refine Kd.C_drew ?_)))
      (case side4=>exact (Kd.R_reads' HO346.out).2.1)
      rintro e w112 ⟨rfl,hb⟩
      refine ⟨_,rfl,?_⟩
      have n0_:=aK (Kd.S_below (by (with_reducible repeat (first|apply Kd.S_alloc|apply Kd.S_drewN|apply Kd.S_drew));exact HO341.out) hb)
      have n1_:=aK (Kd.R_below (by (with_reducible repeat (first|apply Kd.R_alloc|apply Kd.R_drewN|apply Kd.R_drew));exact HO346.out) hb)
      have n2_:=aK (bB (by (with_reducible repeat (first|apply bN|apply bD|apply bA));exact BK335.out) hb)
      have n3_:=aK (bB (by (with_reducible repeat (first|apply bN|apply bD|apply bA));exact BK336.out) hb)
      have n4_:=aK (below_step (by repeat (first|(with_reducible first|exact HB.out|apply bL|apply bM|apply b1|refine bS ?_ GE335.out|refine bS ?_ GE336.out)|exact HB.out)) hb)
      clear HO341
      clear HO346
      clear BK335
      clear BK336
      clear HB
      have HO341:=n0_
      have HO346:=n1_
      have BK335:=n2_
      have BK336:=n3_
      have HB:=n4_
      clear n0_ n1_ n2_ n3_ n4_
      (try clear hb)
      (try clear hb2)
      (try clear hk)
      (try clear hi)
      refine hK.out _ _ ⟨(bC BK335.out 0).trans rfl,(bC BK336.out 0).trans rfl,(bC BK336.out 1).trans rfl,(bC BK336.out 2).trans rfl⟩ (fun hHeld=>?_)
      clear hK K
      refine norm_ (a':=?_) ?_ ?_
      rotate_left
      ·show Act.put _ (some 24) _ = _
       simp only [Act.put,lA,l0',lS,i64_w,i32_w]
       rfl
      refine pure_ (i:=5) (N:=some 6) (v:=?_) (a':=?_) #[true,true,true,true,true,true] rfl rfl (by kernel_rfl) (fun _ _ _ h=>h) (Or.inl ⟨by rfl,?_⟩) ?_ ?_
      rotate_left
      ·intro w'
       go_simp
       with_reducible rfl
      rotate_left
      ·simp only [Act.put,lA,l0',lS,i64_w,i32_w]
       rfl
      refine done_ (by kernel_rfl) ?_
      have hcz113_0 : w112.cell? ⟨gb335,0,none⟩ = some (.slice A0_0 l0_0.length c0_0):=(bC BK335.out 0).trans rfl
      have hfz113_0:=blk_frozen BK335.out 0
      try go_wp2_with (first|((with_reducible refine gate_callee (f:=42) rfl ?_);refine goesL_ (some 26) rfl rfl Try.func42 (by kernel_rfl) rfl #[.agg #[.slice A0_0 l0_0.length c0_0]] rfl (by (try simp only [mA,mC,mN]);first|done|rfl) ?_;(with_reducible refine (laws_toDeal.calls k _ _ l0_0 t348 _ ?side1 ?side2 A22.out).mono ?_);(case side1=>repeat (first|exact (Kd.C_below HR0_0.out HB.out)|(with_reducible refine Kd.C_alloc ?_ _)|(with_reducible refine Kd.C_drewN ?_ _)|(with_reducible refine Kd.C_drew ?_)));(case side2=>exact HC0_0.out);rintro e w114 ⟨v349,rfl,ho0,hb⟩;refine ⟨_,rfl,?_⟩;have n0_:=aK (Kd.S_elder' (by (with_reducible repeat (first|apply Kd.S_alloc|apply Kd.S_drewN|apply Kd.S_drew));exact HO341.out) (Kd.S_base ho0) hb);have n1_:=aK (Kd.R_below (by (with_reducible repeat (first|apply Kd.R_alloc|apply Kd.R_drewN|apply Kd.R_drew));exact HO346.out) hb);have n2_:=aK (Kd.S_lower (Kd.S_new' (Kd.S_new' ho0 (Kd.S_lt (by (with_reducible repeat (first|apply Kd.S_alloc|apply Kd.S_drewN|apply Kd.S_drew));exact HO341.out))) (Kd.R_lt (by (with_reducible repeat (first|apply Kd.R_alloc|apply Kd.R_drewN|apply Kd.R_drew));exact HO346.out))) (below_size (by repeat (first|(with_reducible first|exact HB.out|apply bL|apply bM|apply b1|refine bS ?_ GE335.out|refine bS ?_ GE336.out)|exact HB.out))));have n3_:=aK (bB (by (with_reducible repeat (first|apply bN|apply bD|apply bA));exact BK335.out) hb);have n4_:=aK (bB (by (with_reducible repeat (first|apply bN|apply bD|apply bA));exact BK336.out) hb);have n5_:=aK (below_step (by repeat (first|(with_reducible first|exact HB.out|apply bL|apply bM|apply b1|refine bS ?_ GE335.out|refine bS ?_ GE336.out)|exact HB.out)) hb);clear HO341;clear HO346;clear BK335;clear BK336;clear HB;have HO341:=n0_;have HO346:=n1_;have HO350:=n2_;have BK335:=n3_;have BK336:=n4_;have HB:=n5_;clear n0_ n1_ n2_ n3_ n4_ n5_;(try clear hb);(try clear hb2);(try clear hk);(try clear hi);(try clear ho0))|((with_reducible refine gate_dst (N:=7) rfl ?_);refine box_event ?hg (N:=7) ?hd (cs:=#[.slice none 0 0]) (t:=44) ?hr ?_;(case hd=>rfl);(case hg=>rfl);(case hr=>first|(go_simp;done)|(go_simp;rfl));intro gb351 hg w115 hbox hb;have n0_:=aK (Kd.S_below (by (with_reducible repeat (first|apply Kd.S_alloc|apply Kd.S_drewN|apply Kd.S_drew));exact HO341.out) hb);have n1_:=aK (Kd.R_below (by (with_reducible repeat (first|apply Kd.R_alloc|apply Kd.R_drewN|apply Kd.R_drew));exact HO346.out) hb);have n2_:=aK (Kd.S_below (by (with_reducible repeat (first|apply Kd.S_alloc|apply Kd.S_drewN|apply Kd.S_drew));exact HO350.out) hb);have n3_:=aK (bB (by (with_reducible repeat (first|apply bN|apply bD|apply bA));exact BK335.out) hb);have n4_:=aK (bB (by (with_reducible repeat (first|apply bN|apply bD|apply bA));exact BK336.out) hb);have n5_:=aK (below_step (by repeat (first|(with_reducible first|exact HB.out|apply bL|apply bM|apply b1|refine bS ?_ GE335.out|refine bS ?_ GE336.out)|exact HB.out)) hb);have n6_:=aK (hbox);have n7_:=aK ((by rw [hg];exact (below_size (by repeat (first|(with_reducible first|exact HB.out|apply bL|apply bM|apply b1|refine bS ?_ GE335.out|refine bS ?_ GE336.out)|exact HB.out))) : w.heap.size ≤ gb351));have n8_:=aK ((by rw [hg];exact (below_size (by repeat (first|(with_reducible first|exact HB.out|apply bL|apply bM|apply b1|refine bS ?_ GE335.out|refine bS ?_ GE336.out)|exact HB.out))) : w.heap.size ≤ gb351));have n9_:=aK ((by rw [hg];exact Nat.ne_of_lt (blk_lt (by (with_reducible repeat (first|apply bN|apply bD|apply bA));exact BK335.out)) : gb335 ≠ gb351));have n10_:=aK ((by rw [hg];exact Nat.ne_of_gt (blk_lt (by (with_reducible repeat (first|apply bN|apply bD|apply bA));exact BK335.out)) : gb351 ≠ gb335));have n11_:=aK ((by rw [hg];exact Nat.ne_of_lt (blk_lt (by (with_reducible repeat (first|apply bN|apply bD|apply bA));exact BK336.out)) : gb336 ≠ gb351));have n12_:=aK ((by rw [hg];exact Nat.ne_of_gt (blk_lt (by (with_reducible repeat (first|apply bN|apply bD|apply bA));exact BK336.out)) : gb351 ≠ gb336));clear HO341;clear HO346;clear HO350;clear BK335;clear BK336;clear HB;have HO341:=n0_;have HO346:=n1_;have HO350:=n2_;have BK335:=n3_;have BK336:=n4_;have HB:=n5_;have BK351:=n6_;have GW351:=n7_;have GE351:=n8_;have NB335_351:=n9_;have NB351_335:=n10_;have NB336_351:=n11_;have NB351_336:=n12_;clear n0_ n1_ n2_ n3_ n4_ n5_ n6_ n7_ n8_ n9_ n10_ n11_ n12_;clear hb hbox hg;obtain ⟨Ao116,co116,eo116⟩:=Kd.S_slice HO350.out;subst eo116;have hnb117:=NB351_335.out;have hnc117:=NB335_351.out;have hnb118:=NB351_336.out;have hnc118:=NB336_351.out;have hcz119_0 : w115.cell? ⟨gb351,0,none⟩ = some (.slice none 0 0):=(bC BK351.out 0).trans rfl;have hfz119_0:=blk_frozen BK351.out 0;have hcz120_0 : w115.cell? ⟨gb336,0,none⟩ = some (.int .i64 a1_0):=(bC BK336.out 0).trans rfl;have hcz120_1 : w115.cell? ⟨gb336,1,none⟩ = some (.int .i64 a1_1):=(bC BK336.out 1).trans rfl;have hcz120_2 : w115.cell? ⟨gb336,2,none⟩ = some (.slice A1_2 l1_2.length c1_2):=(bC BK336.out 2).trans rfl;have hfz120_0:=blk_frozen BK336.out 0;have hfz120_1:=blk_frozen BK336.out 1;have hfz120_2:=blk_frozen BK336.out 2)|((with_reducible refine gate_callee (f:=24) rfl ?_);refine goesL_ (some 28) rfl rfl Try.func24 (by kernel_rfl) rfl #[.agg #[.int .i64 a1_0,.int .i64 a1_1,.slice A1_2 l1_2.length c1_2]] rfl (by (try simp only [mA,mC,mN]);first|done|rfl) ?_;(with_reducible refine (laws_toPlay.calls k a1_0 a1_1 _ _ l1_2 t352 t353 t354 _ ?side1 ?side2 A23.out).mono ?_);(case side1=>exact Kd.C_below HR1_2.out (by repeat (first|(with_reducible first|exact HB.out|apply bL|apply bM|apply b1|refine bS ?_ GE335.out|refine bS ?_ GE336.out|refine bS ?_ GE351.out)|exact HB.out)));(case side2=>exact HC1_2.out);rintro e w121 ⟨v355,rfl,ho0,hb⟩;refine ⟨_,rfl,?_⟩;have n0_:=aK (Kd.S_elder' (by (with_reducible repeat (first|apply Kd.S_alloc|apply Kd.S_drewN|apply Kd.S_drew));exact (Kd.S_mono (Kd.S_far (p:=⟨gb351,0,none⟩) (Kd.S_types HO341.out BK351.out (by decide)) (fun _ hk=>by first|exact hk.2|(have h_:=hk;(try simp only [and_assoc,true_and] at h_);(repeat' apply And.intro) <;> first|with_reducible exact h_.1|with_reducible exact h_.2.1|with_reducible exact h_.2.2.1|with_reducible exact h_.2.2.2.1|with_reducible exact h_.2.2.2.2.1|with_reducible exact h_.2.2.2.2.2.1|with_reducible exact h_.2.2.2.2.2.2.1|with_reducible exact h_.2.2.2.2.2.2.2.1|with_reducible exact h_.2.2.2.2.2.2.2.2.1|with_reducible exact h_.2|with_reducible exact h_.2.2|with_reducible exact h_.2.2.2|with_reducible exact h_.2.2.2.2|with_reducible exact h_.2.2.2.2.2|with_reducible exact h_.2.2.2.2.2.2|with_reducible exact h_.2.2.2.2.2.2.2|with_reducible exact h_.2.2.2.2.2.2.2.2)) (.slice Ao116 t348.length co116)) (fun _ h_=>h_.1))) (Kd.R_base ho0) hb);have n1_:=aK (Kd.R_elder' (by (with_reducible repeat (first|apply Kd.R_alloc|apply Kd.R_drewN|apply Kd.R_drew));exact (Kd.R_mono (Kd.R_far (p:=⟨gb351,0,none⟩) (Kd.R_types HO346.out BK351.out (by decide)) (fun _ hk=>by first|exact hk.2|(have h_:=hk;(try simp only [and_assoc,true_and] at h_);(repeat' apply And.intro) <;> first|with_reducible exact h_.1|with_reducible exact h_.2.1|with_reducible exact h_.2.2.1|with_reducible exact h_.2.2.2.1|with_reducible exact h_.2.2.2.2.1|with_reducible exact h_.2.2.2.2.2.1|with_reducible exact h_.2.2.2.2.2.2.1|with_reducible exact h_.2.2.2.2.2.2.2.1|with_reducible exact h_.2.2.2.2.2.2.2.2.1|with_reducible exact h_.2|with_reducible exact h_.2.2|with_reducible exact h_.2.2.2|with_reducible exact h_.2.2.2.2|with_reducible exact h_.2.2.2.2.2|with_reducible exact h_.2.2.2.2.2.2|with_reducible exact h_.2.2.2.2.2.2.2|with_reducible exact h_.2.2.2.2.2.2.2.2)) (.slice Ao116 t348.length co116)) (fun _ h_=>h_.1))) (Kd.R_base ho0) hb);have n2_:=aK (Kd.S_elder' (by (with_reducible repeat (first|apply Kd.S_alloc|apply Kd.S_drewN|apply Kd.S_drew));exact (Kd.S_mono (Kd.S_far (p:=⟨gb351,0,none⟩) (Kd.S_types HO350.out BK351.out (by decide)) (fun _ hk=>by first|exact hk.2|(have h_:=hk;(try simp only [and_assoc,true_and] at h_);(repeat' apply And.intro) <;> first|with_reducible exact h_.1|with_reducible exact h_.2.1|with_reducible exact h_.2.2.1|with_reducible exact h_.2.2.2.1|with_reducible exact h_.2.2.2.2.1|with_reducible exact h_.2.2.2.2.2.1|with_reducible exact h_.2.2.2.2.2.2.1|with_reducible exact h_.2.2.2.2.2.2.2.1|with_reducible exact h_.2.2.2.2.2.2.2.2.1|with_reducible exact h_.2|with_reducible exact h_.2.2|with_reducible exact h_.2.2.2|with_reducible exact h_.2.2.2.2|with_reducible exact h_.2.2.2.2.2|with_reducible exact h_.2.2.2.2.2.2|with_reducible exact h_.2.2.2.2.2.2.2|with_reducible exact h_.2.2.2.2.2.2.2.2)) (.slice Ao116 t348.length co116)) (fun _ h_=>h_.1))) (Kd.R_base ho0) hb);have n3_:=aK (Kd.R_lower (Kd.R_new' ho0 (Kd.R_lt (by (with_reducible repeat (first|apply Kd.R_alloc|apply Kd.R_drewN|apply Kd.R_drew));exact (Kd.R_mono (Kd.R_far (p:=⟨gb351,0,none⟩) (Kd.R_types HO346.out BK351.out (by decide)) (fun _ hk=>by first|exact hk.2|(have h_:=hk;(try simp only [and_assoc,true_and] at h_);(repeat' apply And.intro) <;> first|with_reducible exact h_.1|with_reducible exact h_.2.1|with_reducible exact h_.2.2.1|with_reducible exact h_.2.2.2.1|with_reducible exact h_.2.2.2.2.1|with_reducible exact h_.2.2.2.2.2.1|with_reducible exact h_.2.2.2.2.2.2.1|with_reducible exact h_.2.2.2.2.2.2.2.1|with_reducible exact h_.2.2.2.2.2.2.2.2.1|with_reducible exact h_.2|with_reducible exact h_.2.2|with_reducible exact h_.2.2.2|with_reducible exact h_.2.2.2.2|with_reducible exact h_.2.2.2.2.2|with_reducible exact h_.2.2.2.2.2.2|with_reducible exact h_.2.2.2.2.2.2.2|with_reducible exact h_.2.2.2.2.2.2.2.2)) (.slice Ao116 t348.length co116)) (fun _ h_=>h_.1))))) (below_size (by repeat (first|(with_reducible first|exact HB.out|apply bL|apply bM|apply b1|refine bS ?_ GE335.out|refine bS ?_ GE336.out|refine bS ?_ GE351.out)|exact HB.out))));have n4_:=aK (bB (g:=gb335) (o:=.cells #[.slice A0_0 l0_0.length c0_0] 41 (0,0)) (by (with_reducible repeat (first|apply bN|apply bD|apply bA));refine blk_far ?_ NB335_351.out _;(with_reducible repeat (first|apply bN|apply bD|apply bA));exact BK335.out) hb);have n5_:=aK (bB (g:=gb336) (o:=.cells #[.int .i64 a1_0,.int .i64 a1_1,.slice A1_2 l1_2.length c1_2] 24 (0,0)) (by (with_reducible repeat (first|apply bN|apply bD|apply bA));refine blk_far ?_ NB336_351.out _;(with_reducible repeat (first|apply bN|apply bD|apply bA));exact BK336.out) hb);have n6_:=aK (bB (g:=gb351) (o:=.cells #[.slice Ao116 t348.length co116] 44 (0,0)) (by (with_reducible repeat (first|apply bN|apply bD|apply bA));refine blk_put (cs:=#[.slice none 0 0]) ?_ 0 _ rfl;(with_reducible repeat (first|apply bN|apply bD|apply bA));exact BK351.out) hb);have n7_:=aK (below_step (by repeat (first|(with_reducible first|exact HB.out|apply bL|apply bM|apply b1|refine bS ?_ GE335.out|refine bS ?_ GE336.out|refine bS ?_ GE351.out)|exact HB.out)) hb);clear HO341;clear HO346;clear HO350;clear BK335;clear BK336;clear BK351;clear HB;have HO341:=n0_;have HO346:=n1_;have HO350:=n2_;have HO356:=n3_;have BK335:=n4_;have BK336:=n5_;have BK351:=n6_;have HB:=n7_;clear n0_ n1_ n2_ n3_ n4_ n5_ n6_ n7_;(try clear hb);(try clear hb2);(try clear hk);(try clear hi);(try clear ho0))|((with_reducible refine gate_dst (N:=8) rfl ?_);refine box_event ?hg (N:=8) ?hd (cs:=#[.int .i64 0,.int .i64 0,.slice none 0 0]) (t:=27) ?hr ?_;(case hd=>rfl);(case hg=>rfl);(case hr=>first|(go_simp;done)|(go_simp;rfl));intro gb357 hg w122 hbox hb;have n0_:=aK (Kd.S_below (by (with_reducible repeat (first|apply Kd.S_alloc|apply Kd.S_drewN|apply Kd.S_drew));exact HO341.out) hb);have n1_:=aK (Kd.R_below (by (with_reducible repeat (first|apply Kd.R_alloc|apply Kd.R_drewN|apply Kd.R_drew));exact HO346.out) hb);have n2_:=aK (Kd.S_below (by (with_reducible repeat (first|apply Kd.S_alloc|apply Kd.S_drewN|apply Kd.S_drew));exact HO350.out) hb);have n3_:=aK (Kd.R_below (by (with_reducible repeat (first|apply Kd.R_alloc|apply Kd.R_drewN|apply Kd.R_drew));exact HO356.out) hb);have n4_:=aK (bB (by (with_reducible repeat (first|apply bN|apply bD|apply bA));exact BK335.out) hb);have n5_:=aK (bB (by (with_reducible repeat (first|apply bN|apply bD|apply bA));exact BK336.out) hb);have n6_:=aK (bB (by (with_reducible repeat (first|apply bN|apply bD|apply bA));exact BK351.out) hb);have n7_:=aK (below_step (by repeat (first|(with_reducible first|exact HB.out|apply bL|apply bM|apply b1|refine bS ?_ GE335.out|refine bS ?_ GE336.out|refine bS ?_ GE351.out)|exact HB.out)) hb);have n8_:=aK (hbox);have n9_:=aK ((by rw [hg];exact (below_size (by repeat (first|(with_reducible first|exact HB.out|apply bL|apply bM|apply b1|refine bS ?_ GE335.out|refine bS ?_ GE336.out|refine bS ?_ GE351.out)|exact HB.out))) : w.heap.size ≤ gb357));have n10_:=aK ((by rw [hg];exact (below_size (by repeat (first|(with_reducible first|exact HB.out|apply bL|apply bM|apply b1|refine bS ?_ GE335.out|refine bS ?_ GE336.out|refine bS ?_ GE351.out)|exact HB.out))) : w.heap.size ≤ gb357));have n11_:=aK ((by rw [hg];exact Nat.ne_of_lt (blk_lt (by (with_reducible repeat (first|apply bN|apply bD|apply bA));exact BK335.out)) : gb335 ≠ gb357));have n12_:=aK ((by rw [hg];exact Nat.ne_of_gt (blk_lt (by (with_reducible repeat (first|apply bN|apply bD|apply bA));exact BK335.out)) : gb357 ≠ gb335));have n13_:=aK ((by rw [hg];exact Nat.ne_of_lt (blk_lt (by (with_reducible repeat (first|apply bN|apply bD|apply bA));exact BK336.out)) : gb336 ≠ gb357));have n14_:=aK ((by rw [hg];exact Nat.ne_of_gt (blk_lt (by (with_reducible repeat (first|apply bN|apply bD|apply bA));exact BK336.out)) : gb357 ≠ gb336));have n15_:=aK ((by rw [hg];exact Nat.ne_of_lt (blk_lt (by (with_reducible repeat (first|apply bN|apply bD|apply bA));exact BK351.out)) : gb351 ≠ gb357));have n16_:=aK ((by rw [hg];exact Nat.ne_of_gt (blk_lt (by (with_reducible repeat (first|apply bN|apply bD|apply bA));exact BK351.out)) : gb357 ≠ gb351));clear HO341;clear HO346;clear HO350;clear HO356;clear BK335;clear BK336;clear BK351;clear HB;have HO341:=n0_;have HO346:=n1_;have HO350:=n2_;have HO356:=n3_;have BK335:=n4_;have BK336:=n5_;have BK351:=n6_;have HB:=n7_;have BK357:=n8_;have GW357:=n9_;have GE357:=n10_;have NB335_357:=n11_;have NB357_335:=n12_;have NB336_357:=n13_;have NB357_336:=n14_;have NB351_357:=n15_;have NB357_351:=n16_;clear n0_ n1_ n2_ n3_ n4_ n5_ n6_ n7_ n8_ n9_ n10_ n11_ n12_ n13_ n14_ n15_ n16_;clear hb hbox hg;have hnb123:=NB357_335.out;have hnc123:=NB335_357.out;have hnb124:=NB357_336.out;have hnc124:=NB336_357.out;have hnb125:=NB357_351.out;have hnc125:=NB351_357.out;have hcz126_0 : w122.cell? ⟨gb357,0,none⟩ = some (.int .i64 0):=(bC BK357.out 0).trans rfl;have hcz126_1 : w122.cell? ⟨gb357,1,none⟩ = some (.int .i64 0):=(bC BK357.out 1).trans rfl;have hcz126_2 : w122.cell? ⟨gb357,2,none⟩ = some (.slice none 0 0):=(bC BK357.out 2).trans rfl;have hfz126_0:=blk_frozen BK357.out 0;have hfz126_1:=blk_frozen BK357.out 1;have hfz126_2:=blk_frozen BK357.out 2;obtain ⟨Ao127,co127,eo127⟩:=Kd.R_slice HO356.out;subst eo127;have hcz128_0 : w122.cell? ⟨gb351,0,none⟩ = some (.slice Ao116 t348.length co116):=(bC BK351.out 0).trans rfl;have hfz128_0:=blk_frozen BK351.out 0)|((with_reducible refine gate_callee (f:=46) rfl ?_);refine goesL_ (some 31) rfl rfl Try.func46 (by kernel_rfl) rfl #[.agg #[.slice Ao116 t348.length co116],.agg #[.int .i64 t352,.int .i64 t353,.slice Ao127 t354.length co127]] rfl (by (try simp only [mA,mC,mN]);first|done|rfl) ?_;(with_reducible refine (impl_IsPlay.calls k _ _ t348 t352 t353 _ _ t354 t358 _ ?side1 ?side2 ?side3 ?side4 A24.out).mono ?_);(case side1=>refine (Kd.S_reads' (e:=22) (base:=w.heap.size) (ok:=fun k_=>(((True ∧ some k_ ≠ (.slice Ao110 t339.length co110 : Value).ownBlock) ∧ some k_ ≠ (.slice Ao111 t344.length co111 : Value).ownBlock) ∧ some k_ ≠ (.slice Ao127 t354.length co127 : Value).ownBlock)) (n:=t348.length) (c:=co116) ?_).2.2;exact (by (with_reducible repeat (first|apply Kd.S_alloc|apply Kd.S_drewN|apply Kd.S_drew));exact (Kd.S_mono (Kd.S_far (p:=⟨gb357,2,none⟩) (Kd.S_far (p:=⟨gb357,1,none⟩) (Kd.S_far (p:=⟨gb357,0,none⟩) (Kd.S_types HO350.out BK357.out (by decide)) (fun _ hk=>by first|exact hk.2|(have h_:=hk;(try simp only [and_assoc,true_and] at h_);(repeat' apply And.intro) <;> first|with_reducible exact h_.1|with_reducible exact h_.2.1|with_reducible exact h_.2.2.1|with_reducible exact h_.2.2.2.1|with_reducible exact h_.2.2.2.2.1|with_reducible exact h_.2.2.2.2.2.1|with_reducible exact h_.2.2.2.2.2.2.1|with_reducible exact h_.2.2.2.2.2.2.2.1|with_reducible exact h_.2.2.2.2.2.2.2.2.1|with_reducible exact h_.2|with_reducible exact h_.2.2|with_reducible exact h_.2.2.2|with_reducible exact h_.2.2.2.2|with_reducible exact h_.2.2.2.2.2|with_reducible exact h_.2.2.2.2.2.2|with_reducible exact h_.2.2.2.2.2.2.2|with_reducible exact h_.2.2.2.2.2.2.2.2)) (.int .i64 t352)) (fun _ hk=>by first|exact hk.2|(have h_:=hk;(try simp only [and_assoc,true_and] at h_);(repeat' apply And.intro) <;> first|with_reducible exact h_.1|with_reducible exact h_.2.1|with_reducible exact h_.2.2.1|with_reducible exact h_.2.2.2.1|with_reducible exact h_.2.2.2.2.1|with_reducible exact h_.2.2.2.2.2.1|with_reducible exact h_.2.2.2.2.2.2.1|with_reducible exact h_.2.2.2.2.2.2.2.1|with_reducible exact h_.2.2.2.2.2.2.2.2.1|with_reducible exact h_.2|with_reducible exact h_.2.2|with_reducible exact h_.2.2.2|with_reducible exact h_.2.2.2.2|with_reducible exact h_.2.2.2.2.2|with_reducible exact h_.2.2.2.2.2.2|with_reducible exact h_.2.2.2.2.2.2.2|with_reducible exact h_.2.2.2.2.2.2.2.2)) (.int .i64 t353)) (fun _ hk=>by first|exact hk.2|(have h_:=hk;(try simp only [and_assoc,true_and] at h_);(repeat' apply And.intro) <;> first|with_reducible exact h_.1|with_reducible exact h_.2.1|with_reducible exact h_.2.2.1|with_reducible exact h_.2.2.2.1|with_reducible exact h_.2.2.2.2.1|with_reducible exact h_.2.2.2.2.2.1|with_reducible exact h_.2.2.2.2.2.2.1|with_reducible exact h_.2.2.2.2.2.2.2.1|with_reducible exact h_.2.2.2.2.2.2.2.2.1|with_reducible exact h_.2|with_reducible exact h_.2.2|with_reducible exact h_.2.2.2|with_reducible exact h_.2.2.2.2|with_reducible exact h_.2.2.2.2.2|with_reducible exact h_.2.2.2.2.2.2|with_reducible exact h_.2.2.2.2.2.2.2|with_reducible exact h_.2.2.2.2.2.2.2.2)) (.slice Ao127 t354.length co127)) (fun _ h_=>h_.1))));(case side2=>exact (Kd.S_reads' HO350.out).2.1);(case side3=>refine (Kd.R_reads' (e:=2) (base:=w.heap.size) (ok:=fun k_=>(True ∧ some k_ ≠ (.slice Ao111 t344.length co111 : Value).ownBlock)) (n:=t354.length) (c:=co127) ?_).2.2;exact (by (with_reducible repeat (first|apply Kd.R_alloc|apply Kd.R_drewN|apply Kd.R_drew));exact (Kd.R_mono (Kd.R_far (p:=⟨gb357,2,none⟩) (Kd.R_far (p:=⟨gb357,1,none⟩) (Kd.R_far (p:=⟨gb357,0,none⟩) (Kd.R_types HO356.out BK357.out (by decide)) (fun _ hk=>by first|exact hk.2|(have h_:=hk;(try simp only [and_assoc,true_and] at h_);(repeat' apply And.intro) <;> first|with_reducible exact h_.1|with_reducible exact h_.2.1|with_reducible exact h_.2.2.1|with_reducible exact h_.2.2.2.1|with_reducible exact h_.2.2.2.2.1|with_reducible exact h_.2.2.2.2.2.1|with_reducible exact h_.2.2.2.2.2.2.1|with_reducible exact h_.2.2.2.2.2.2.2.1|with_reducible exact h_.2.2.2.2.2.2.2.2.1|with_reducible exact h_.2|with_reducible exact h_.2.2|with_reducible exact h_.2.2.2|with_reducible exact h_.2.2.2.2|with_reducible exact h_.2.2.2.2.2|with_reducible exact h_.2.2.2.2.2.2|with_reducible exact h_.2.2.2.2.2.2.2|with_reducible exact h_.2.2.2.2.2.2.2.2)) (.int .i64 t352)) (fun _ hk=>by first|exact hk.2|(have h_:=hk;(try simp only [and_assoc,true_and] at h_);(repeat' apply And.intro) <;> first|with_reducible exact h_.1|with_reducible exact h_.2.1|with_reducible exact h_.2.2.1|with_reducible exact h_.2.2.2.1|with_reducible exact h_.2.2.2.2.1|with_reducible exact h_.2.2.2.2.2.1|with_reducible exact h_.2.2.2.2.2.2.1|with_reducible exact h_.2.2.2.2.2.2.2.1|with_reducible exact h_.2.2.2.2.2.2.2.2.1|with_reducible exact h_.2|with_reducible exact h_.2.2|with_reducible exact h_.2.2.2|with_reducible exact h_.2.2.2.2|with_reducible exact h_.2.2.2.2.2|with_reducible exact h_.2.2.2.2.2.2|with_reducible exact h_.2.2.2.2.2.2.2|with_reducible exact h_.2.2.2.2.2.2.2.2)) (.int .i64 t353)) (fun _ hk=>by first|exact hk.2|(have h_:=hk;(try simp only [and_assoc,true_and] at h_);(repeat' apply And.intro) <;> first|with_reducible exact h_.1|with_reducible exact h_.2.1|with_reducible exact h_.2.2.1|with_reducible exact h_.2.2.2.1|with_reducible exact h_.2.2.2.2.1|with_reducible exact h_.2.2.2.2.2.1|with_reducible exact h_.2.2.2.2.2.2.1|with_reducible exact h_.2.2.2.2.2.2.2.1|with_reducible exact h_.2.2.2.2.2.2.2.2.1|with_reducible exact h_.2|with_reducible exact h_.2.2|with_reducible exact h_.2.2.2|with_reducible exact h_.2.2.2.2|with_reducible exact h_.2.2.2.2.2|with_reducible exact h_.2.2.2.2.2.2|with_reducible exact h_.2.2.2.2.2.2.2|with_reducible exact h_.2.2.2.2.2.2.2.2)) (.slice Ao127 t354.length co127)) (fun _ h_=>h_.1))));(case side4=>exact (Kd.R_reads' HO356.out).2.1);rintro e w129 ⟨rfl,hb⟩;refine ⟨_,rfl,?_⟩;have n0_:=aK (Kd.S_below (by (with_reducible repeat (first|apply Kd.S_alloc|apply Kd.S_drewN|apply Kd.S_drew));exact (Kd.S_mono (Kd.S_far (p:=⟨gb357,2,none⟩) (Kd.S_far (p:=⟨gb357,1,none⟩) (Kd.S_far (p:=⟨gb357,0,none⟩) (Kd.S_types HO341.out BK357.out (by decide)) (fun _ hk=>by first|exact hk.2|(have h_:=hk;(try simp only [and_assoc,true_and] at h_);(repeat' apply And.intro) <;> first|with_reducible exact h_.1|with_reducible exact h_.2.1|with_reducible exact h_.2.2.1|with_reducible exact h_.2.2.2.1|with_reducible exact h_.2.2.2.2.1|with_reducible exact h_.2.2.2.2.2.1|with_reducible exact h_.2.2.2.2.2.2.1|with_reducible exact h_.2.2.2.2.2.2.2.1|with_reducible exact h_.2.2.2.2.2.2.2.2.1|with_reducible exact h_.2|with_reducible exact h_.2.2|with_reducible exact h_.2.2.2|with_reducible exact h_.2.2.2.2|with_reducible exact h_.2.2.2.2.2|with_reducible exact h_.2.2.2.2.2.2|with_reducible exact h_.2.2.2.2.2.2.2|with_reducible exact h_.2.2.2.2.2.2.2.2)) (.int .i64 t352)) (fun _ hk=>by first|exact hk.2|(have h_:=hk;(try simp only [and_assoc,true_and] at h_);(repeat' apply And.intro) <;> first|with_reducible exact h_.1|with_reducible exact h_.2.1|with_reducible exact h_.2.2.1|with_reducible exact h_.2.2.2.1|with_reducible exact h_.2.2.2.2.1|with_reducible exact h_.2.2.2.2.2.1|with_reducible exact h_.2.2.2.2.2.2.1|with_reducible exact h_.2.2.2.2.2.2.2.1|with_reducible exact h_.2.2.2.2.2.2.2.2.1|with_reducible exact h_.2|with_reducible exact h_.2.2|with_reducible exact h_.2.2.2|with_reducible exact h_.2.2.2.2|with_reducible exact h_.2.2.2.2.2|with_reducible exact h_.2.2.2.2.2.2|with_reducible exact h_.2.2.2.2.2.2.2|with_reducible exact h_.2.2.2.2.2.2.2.2)) (.int .i64 t353)) (fun _ hk=>by first|exact hk.2|(have h_:=hk;(try simp only [and_assoc,true_and] at h_);(repeat' apply And.intro) <;> first|with_reducible exact h_.1|with_reducible exact h_.2.1|with_reducible exact h_.2.2.1|with_reducible exact h_.2.2.2.1|with_reducible exact h_.2.2.2.2.1|with_reducible exact h_.2.2.2.2.2.1|with_reducible exact h_.2.2.2.2.2.2.1|with_reducible exact h_.2.2.2.2.2.2.2.1|with_reducible exact h_.2.2.2.2.2.2.2.2.1|with_reducible exact h_.2|with_reducible exact h_.2.2|with_reducible exact h_.2.2.2|with_reducible exact h_.2.2.2.2|with_reducible exact h_.2.2.2.2.2|with_reducible exact h_.2.2.2.2.2.2|with_reducible exact h_.2.2.2.2.2.2.2|with_reducible exact h_.2.2.2.2.2.2.2.2)) (.slice Ao127 t354.length co127)) (fun _ h_=>h_.1))) hb);have n1_:=aK (Kd.R_below (by (with_reducible repeat (first|apply Kd.R_alloc|apply Kd.R_drewN|apply Kd.R_drew));exact (Kd.R_mono (Kd.R_far (p:=⟨gb357,2,none⟩) (Kd.R_far (p:=⟨gb357,1,none⟩) (Kd.R_far (p:=⟨gb357,0,none⟩) (Kd.R_types HO346.out BK357.out (by decide)) (fun _ hk=>by first|exact hk.2|(have h_:=hk;(try simp only [and_assoc,true_and] at h_);(repeat' apply And.intro) <;> first|with_reducible exact h_.1|with_reducible exact h_.2.1|with_reducible exact h_.2.2.1|with_reducible exact h_.2.2.2.1|with_reducible exact h_.2.2.2.2.1|with_reducible exact h_.2.2.2.2.2.1|with_reducible exact h_.2.2.2.2.2.2.1|with_reducible exact h_.2.2.2.2.2.2.2.1|with_reducible exact h_.2.2.2.2.2.2.2.2.1|with_reducible exact h_.2|with_reducible exact h_.2.2|with_reducible exact h_.2.2.2|with_reducible exact h_.2.2.2.2|with_reducible exact h_.2.2.2.2.2|with_reducible exact h_.2.2.2.2.2.2|with_reducible exact h_.2.2.2.2.2.2.2|with_reducible exact h_.2.2.2.2.2.2.2.2)) (.int .i64 t352)) (fun _ hk=>by first|exact hk.2|(have h_:=hk;(try simp only [and_assoc,true_and] at h_);(repeat' apply And.intro) <;> first|with_reducible exact h_.1|with_reducible exact h_.2.1|with_reducible exact h_.2.2.1|with_reducible exact h_.2.2.2.1|with_reducible exact h_.2.2.2.2.1|with_reducible exact h_.2.2.2.2.2.1|with_reducible exact h_.2.2.2.2.2.2.1|with_reducible exact h_.2.2.2.2.2.2.2.1|with_reducible exact h_.2.2.2.2.2.2.2.2.1|with_reducible exact h_.2|with_reducible exact h_.2.2|with_reducible exact h_.2.2.2|with_reducible exact h_.2.2.2.2|with_reducible exact h_.2.2.2.2.2|with_reducible exact h_.2.2.2.2.2.2|with_reducible exact h_.2.2.2.2.2.2.2|with_reducible exact h_.2.2.2.2.2.2.2.2)) (.int .i64 t353)) (fun _ hk=>by first|exact hk.2|(have h_:=hk;(try simp only [and_assoc,true_and] at h_);(repeat' apply And.intro) <;> first|with_reducible exact h_.1|with_reducible exact h_.2.1|with_reducible exact h_.2.2.1|with_reducible exact h_.2.2.2.1|with_reducible exact h_.2.2.2.2.1|with_reducible exact h_.2.2.2.2.2.1|with_reducible exact h_.2.2.2.2.2.2.1|with_reducible exact h_.2.2.2.2.2.2.2.1|with_reducible exact h_.2.2.2.2.2.2.2.2.1|with_reducible exact h_.2|with_reducible exact h_.2.2|with_reducible exact h_.2.2.2|with_reducible exact h_.2.2.2.2|with_reducible exact h_.2.2.2.2.2|with_reducible exact h_.2.2.2.2.2.2|with_reducible exact h_.2.2.2.2.2.2.2|with_reducible exact h_.2.2.2.2.2.2.2.2)) (.slice Ao127 t354.length co127)) (fun _ h_=>h_.1))) hb);have n2_:=aK (Kd.S_below (by (with_reducible repeat (first|apply Kd.S_alloc|apply Kd.S_drewN|apply Kd.S_drew));exact (Kd.S_mono (Kd.S_far (p:=⟨gb357,2,none⟩) (Kd.S_far (p:=⟨gb357,1,none⟩) (Kd.S_far (p:=⟨gb357,0,none⟩) (Kd.S_types HO350.out BK357.out (by decide)) (fun _ hk=>by first|exact hk.2|(have h_:=hk;(try simp only [and_assoc,true_and] at h_);(repeat' apply And.intro) <;> first|with_reducible exact h_.1|with_reducible exact h_.2.1|with_reducible exact h_.2.2.1|with_reducible exact h_.2.2.2.1|with_reducible exact h_.2.2.2.2.1|with_reducible exact h_.2.2.2.2.2.1|with_reducible exact h_.2.2.2.2.2.2.1|with_reducible exact h_.2.2.2.2.2.2.2.1|with_reducible exact h_.2.2.2.2.2.2.2.2.1|with_reducible exact h_.2|with_reducible exact h_.2.2|with_reducible exact h_.2.2.2|with_reducible exact h_.2.2.2.2|with_reducible exact h_.2.2.2.2.2|with_reducible exact h_.2.2.2.2.2.2|with_reducible exact h_.2.2.2.2.2.2.2|with_reducible exact h_.2.2.2.2.2.2.2.2)) (.int .i64 t352)) (fun _ hk=>by first|exact hk.2|(have h_:=hk;(try simp only [and_assoc,true_and] at h_);(repeat' apply And.intro) <;> first|with_reducible exact h_.1|with_reducible exact h_.2.1|with_reducible exact h_.2.2.1|with_reducible exact h_.2.2.2.1|with_reducible exact h_.2.2.2.2.1|with_reducible exact h_.2.2.2.2.2.1|with_reducible exact h_.2.2.2.2.2.2.1|with_reducible exact h_.2.2.2.2.2.2.2.1|with_reducible exact h_.2.2.2.2.2.2.2.2.1|with_reducible exact h_.2|with_reducible exact h_.2.2|with_reducible exact h_.2.2.2|with_reducible exact h_.2.2.2.2|with_reducible exact h_.2.2.2.2.2|with_reducible exact h_.2.2.2.2.2.2|with_reducible exact h_.2.2.2.2.2.2.2|with_reducible exact h_.2.2.2.2.2.2.2.2)) (.int .i64 t353)) (fun _ hk=>by first|exact hk.2|(have h_:=hk;(try simp only [and_assoc,true_and] at h_);(repeat' apply And.intro) <;> first|with_reducible exact h_.1|with_reducible exact h_.2.1|with_reducible exact h_.2.2.1|with_reducible exact h_.2.2.2.1|with_reducible exact h_.2.2.2.2.1|with_reducible exact h_.2.2.2.2.2.1|with_reducible exact h_.2.2.2.2.2.2.1|with_reducible exact h_.2.2.2.2.2.2.2.1|with_reducible exact h_.2.2.2.2.2.2.2.2.1|with_reducible exact h_.2|with_reducible exact h_.2.2|with_reducible exact h_.2.2.2|with_reducible exact h_.2.2.2.2|with_reducible exact h_.2.2.2.2.2|with_reducible exact h_.2.2.2.2.2.2|with_reducible exact h_.2.2.2.2.2.2.2|with_reducible exact h_.2.2.2.2.2.2.2.2)) (.slice Ao127 t354.length co127)) (fun _ h_=>h_.1))) hb);have n3_:=aK (Kd.R_below (by (with_reducible repeat (first|apply Kd.R_alloc|apply Kd.R_drewN|apply Kd.R_drew));exact (Kd.R_mono (Kd.R_far (p:=⟨gb357,2,none⟩) (Kd.R_far (p:=⟨gb357,1,none⟩) (Kd.R_far (p:=⟨gb357,0,none⟩) (Kd.R_types HO356.out BK357.out (by decide)) (fun _ hk=>by first|exact hk.2|(have h_:=hk;(try simp only [and_assoc,true_and] at h_);(repeat' apply And.intro) <;> first|with_reducible exact h_.1|with_reducible exact h_.2.1|with_reducible exact h_.2.2.1|with_reducible exact h_.2.2.2.1|with_reducible exact h_.2.2.2.2.1|with_reducible exact h_.2.2.2.2.2.1|with_reducible exact h_.2.2.2.2.2.2.1|with_reducible exact h_.2.2.2.2.2.2.2.1|with_reducible exact h_.2.2.2.2.2.2.2.2.1|with_reducible exact h_.2|with_reducible exact h_.2.2|with_reducible exact h_.2.2.2|with_reducible exact h_.2.2.2.2|with_reducible exact h_.2.2.2.2.2|with_reducible exact h_.2.2.2.2.2.2|with_reducible exact h_.2.2.2.2.2.2.2|with_reducible exact h_.2.2.2.2.2.2.2.2)) (.int .i64 t352)) (fun _ hk=>by first|exact hk.2|(have h_:=hk;(try simp only [and_assoc,true_and] at h_);(repeat' apply And.intro) <;> first|with_reducible exact h_.1|with_reducible exact h_.2.1|with_reducible exact h_.2.2.1|with_reducible exact h_.2.2.2.1|with_reducible exact h_.2.2.2.2.1|with_reducible exact h_.2.2.2.2.2.1|with_reducible exact h_.2.2.2.2.2.2.1|with_reducible exact h_.2.2.2.2.2.2.2.1|with_reducible exact h_.2.2.2.2.2.2.2.2.1|with_reducible exact h_.2|with_reducible exact h_.2.2|with_reducible exact h_.2.2.2|with_reducible exact h_.2.2.2.2|with_reducible exact h_.2.2.2.2.2|with_reducible exact h_.2.2.2.2.2.2|with_reducible exact h_.2.2.2.2.2.2.2|with_reducible exact h_.2.2.2.2.2.2.2.2)) (.int .i64 t353)) (fun _ hk=>by first|exact hk.2|(have h_:=hk;(try simp only [and_assoc,true_and] at h_);(repeat' apply And.intro) <;> first|with_reducible exact h_.1|with_reducible exact h_.2.1|with_reducible exact h_.2.2.1|with_reducible exact h_.2.2.2.1|with_reducible exact h_.2.2.2.2.1|with_reducible exact h_.2.2.2.2.2.1|with_reducible exact h_.2.2.2.2.2.2.1|with_reducible exact h_.2.2.2.2.2.2.2.1|with_reducible exact h_.2.2.2.2.2.2.2.2.1|with_reducible exact h_.2|with_reducible exact h_.2.2|with_reducible exact h_.2.2.2|with_reducible exact h_.2.2.2.2|with_reducible exact h_.2.2.2.2.2|with_reducible exact h_.2.2.2.2.2.2|with_reducible exact h_.2.2.2.2.2.2.2|with_reducible exact h_.2.2.2.2.2.2.2.2)) (.slice Ao127 t354.length co127)) (fun _ h_=>h_.1))) hb);have n4_:=aK (bB (g:=gb335) (o:=.cells #[.slice A0_0 l0_0.length c0_0] 41 (0,0)) (by (with_reducible repeat (first|apply bN|apply bD|apply bA));refine blk_far ?_ NB335_357.out _;(with_reducible repeat (first|apply bN|apply bD|apply bA));refine blk_far ?_ NB335_357.out _;(with_reducible repeat (first|apply bN|apply bD|apply bA));refine blk_far ?_ NB335_357.out _;(with_reducible repeat (first|apply bN|apply bD|apply bA));exact BK335.out) hb);have n5_:=aK (bB (g:=gb336) (o:=.cells #[.int .i64 a1_0,.int .i64 a1_1,.slice A1_2 l1_2.length c1_2] 24 (0,0)) (by (with_reducible repeat (first|apply bN|apply bD|apply bA));refine blk_far ?_ NB336_357.out _;(with_reducible repeat (first|apply bN|apply bD|apply bA));refine blk_far ?_ NB336_357.out _;(with_reducible repeat (first|apply bN|apply bD|apply bA));refine blk_far ?_ NB336_357.out _;(with_reducible repeat (first|apply bN|apply bD|apply bA));exact BK336.out) hb);have n6_:=aK (bB (g:=gb351) (o:=.cells #[.slice Ao116 t348.length co116] 44 (0,0)) (by (with_reducible repeat (first|apply bN|apply bD|apply bA));refine blk_far ?_ NB351_357.out _;(with_reducible repeat (first|apply bN|apply bD|apply bA));refine blk_far ?_ NB351_357.out _;(with_reducible repeat (first|apply bN|apply bD|apply bA));refine blk_far ?_ NB351_357.out _;(with_reducible repeat (first|apply bN|apply bD|apply bA));exact BK351.out) hb);have n7_:=aK (bB (g:=gb357) (o:=.cells #[.int .i64 t352,.int .i64 t353,.slice Ao127 t354.length co127] 27 (0,0)) (by (with_reducible repeat (first|apply bN|apply bD|apply bA));refine blk_put (cs:=#[.int .i64 t352,.int .i64 t353,.slice none 0 0]) ?_ 2 _ rfl;(with_reducible repeat (first|apply bN|apply bD|apply bA));refine blk_put (cs:=#[.int .i64 t352,.int .i64 0,.slice none 0 0]) ?_ 1 _ rfl;(with_reducible repeat (first|apply bN|apply bD|apply bA));refine blk_put (cs:=#[.int .i64 0,.int .i64 0,.slice none 0 0]) ?_ 0 _ rfl;(with_reducible repeat (first|apply bN|apply bD|apply bA));exact BK357.out) hb);have n8_:=aK (below_step (by repeat (first|(with_reducible first|exact HB.out|apply bL|apply bM|apply b1|refine bS ?_ GE335.out|refine bS ?_ GE336.out|refine bS ?_ GE351.out|refine bS ?_ GE357.out)|exact HB.out)) hb);clear HO341;clear HO346;clear HO350;clear HO356;clear BK335;clear BK336;clear BK351;clear BK357;clear HB;have HO341:=n0_;have HO346:=n1_;have HO350:=n2_;have HO356:=n3_;have BK335:=n4_;have BK336:=n5_;have BK351:=n6_;have BK357:=n7_;have HB:=n8_;clear n0_ n1_ n2_ n3_ n4_ n5_ n6_ n7_ n8_;(try clear hb);(try clear hb2);(try clear hk);(try clear hi)))
      have n0_:=aK (Kd.S_drew HO341.out)
      have n1_:=aK (Kd.R_drew HO346.out)
      have n2_:=aK (Kd.S_drew HO350.out)
      have n3_:=aK (Kd.R_drew HO356.out)
      have n4_:=aK (bD BK335.out)
      have n5_:=aK (bD BK336.out)
      have n6_:=aK (bD BK351.out)
      have n7_:=aK (bD BK357.out)
      have n8_:=aK (b1 HB.out)
      clear HO341
      clear HO346
      clear HO350
      clear HO356
      clear BK335
      clear BK336
      clear BK351
      clear BK357
      clear HB
      have HO341:=n0_
      have HO346:=n1_
      have HO350:=n2_
      have HO356:=n3_
      have BK335:=n4_
      have BK336:=n5_
      have BK351:=n6_
      have BK357:=n7_
      have HB:=n8_
      clear n0_ n1_ n2_ n3_ n4_ n5_ n6_ n7_ n8_
      refine start_ (n:=5) (S:=fun w'=>w'.cell? ⟨gb351,0,none⟩ = some (.slice Ao116 t348.length co116) ∧ w'.cell? ⟨gb335,0,none⟩ = some (.slice A0_0 l0_0.length c0_0)) (ds:=[]) #[false,false,false,false,false] (by kernel_rfl) rfl rfl ⟨(bC BK351.out 0).trans rfl,(bC BK335.out 0).trans rfl⟩ (fun hHeld=>?_)
      generalize w129.drew = w130 at HO341 HO346 HO350 HO356 BK335 BK336 BK351 BK357 HB hHeld ⊢
      refine take_ (i:=0) (N:=some 35) (v:=?_) (a':=?_) #[true,false,false,false,false] rfl rfl (by kernel_rfl) (fun _ _ _ h=>h) (Or.inl ⟨by rfl,?_⟩) hHeld ?_ ?_
      rotate_left
      ·rintro w' ⟨s0,s1⟩
       go_simp
       with_reducible rfl
      rotate_left
      ·simp only [Act.put,lA,l0',lS,i64_w,i32_w]
       rfl
      refine take_ (i:=1) (N:=some 36) (v:=?_) (a':=?_) #[true,true,false,false,false] rfl rfl (by kernel_rfl) (fun _ _ _ h=>h) (Or.inl ⟨by rfl,?_⟩) hHeld ?_ ?_
      rotate_left
      ·rintro w' ⟨s0,s1⟩
       go_simp
       with_reducible rfl
      rotate_left
      ·simp only [Act.put,lA,l0',lS,i64_w,i32_w]
       rfl
      refine one_ (i:=2) (N:=some 37) #[true,true,true,false,false] rfl rfl (by kernel_rfl) (by decide) (fun K hK=>?_)
      refine goes_ Try.func42 (by kernel_rfl) rfl #[.agg #[.slice A0_0 l0_0.length c0_0]] (by rfl) rfl rfl (by (try simp only [mA,mC,mN]);first|done|rfl) ?_
      with_reducible refine (laws_toDeal.calls k _ _ l0_0 t359 _ ?side1 ?side2 A56.out).mono ?_
      (case side1=>repeat (first|exact (Kd.C_below HR0_0.out HB.out)|(with_reducible refine Kd.C_alloc ?_ _)|(with_reducible refine Kd.C_drewN ?_ _)|(with_reducible refine Kd.C_drew ?_)))
      (case side2=>exact HC0_0.out)
      rintro e w131 ⟨v360,rfl,ho0,hb⟩
      refine ⟨_,rfl,?_⟩
      have n0_:=aK (Kd.S_elder' (by (with_reducible repeat (first|apply Kd.S_alloc|apply Kd.S_drewN|apply Kd.S_drew));exact HO341.out) (Kd.S_base ho0) hb)
      have n1_:=aK (Kd.R_below (by (with_reducible repeat (first|apply Kd.R_alloc|apply Kd.R_drewN|apply Kd.R_drew));exact HO346.out) hb)
      have n2_:=aK (Kd.S_elder' (by (with_reducible repeat (first|apply Kd.S_alloc|apply Kd.S_drewN|apply Kd.S_drew));exact HO350.out) (Kd.S_base ho0) hb)
      have n3_:=aK (Kd.R_below (by (with_reducible repeat (first|apply Kd.R_alloc|apply Kd.R_drewN|apply Kd.R_drew));exact HO356.out) hb)
      have n4_:=aK (Kd.S_lower (Kd.S_new' (Kd.S_new' (Kd.S_new' (Kd.S_new' ho0 (Kd.S_lt (by (with_reducible repeat (first|apply Kd.S_alloc|apply Kd.S_drewN|apply Kd.S_drew));exact HO341.out))) (Kd.R_lt (by (with_reducible repeat (first|apply Kd.R_alloc|apply Kd.R_drewN|apply Kd.R_drew));exact HO346.out))) (Kd.S_lt (by (with_reducible repeat (first|apply Kd.S_alloc|apply Kd.S_drewN|apply Kd.S_drew));exact HO350.out))) (Kd.R_lt (by (with_reducible repeat (first|apply Kd.R_alloc|apply Kd.R_drewN|apply Kd.R_drew));exact HO356.out))) (below_size (by repeat (first|(with_reducible first|exact HB.out|apply bL|apply bM|apply b1|refine bS ?_ GE335.out|refine bS ?_ GE336.out|refine bS ?_ GE351.out|refine bS ?_ GE357.out)|exact HB.out))))
      have n5_:=aK (bB (by (with_reducible repeat (first|apply bN|apply bD|apply bA));exact BK335.out) hb)
      have n6_:=aK (bB (by (with_reducible repeat (first|apply bN|apply bD|apply bA));exact BK336.out) hb)
      have n7_:=aK (bB (by (with_reducible repeat (first|apply bN|apply bD|apply bA));exact BK351.out) hb)
      have n8_:=aK (bB (by (with_reducible repeat (first|apply bN|apply bD|apply bA));exact BK357.out) hb)
      have n9_:=aK (below_step (by repeat (first|(with_reducible first|exact HB.out|apply bL|apply bM|apply b1|refine bS ?_ GE335.out|refine bS ?_ GE336.out|refine bS ?_ GE351.out|refine bS ?_ GE357.out)|exact HB.out)) hb)
      clear HO341
      clear HO346
      clear HO350
      clear HO356
      clear BK335
      clear BK336
      clear BK351
      clear BK357
      clear HB
      have HO341:=n0_
      have HO346:=n1_
      have HO350:=n2_
      have HO356:=n3_
      have HO361:=n4_
      have BK335:=n5_
      have BK336:=n6_
      have BK351:=n7_
      have BK357:=n8_
      have HB:=n9_
      clear n0_ n1_ n2_ n3_ n4_ n5_ n6_ n7_ n8_ n9_
      (try clear hb)
      (try clear hb2)
      (try clear hk)
      (try clear hi)
      (try clear ho0)
      obtain ⟨Ao132,co132,eo132⟩:=Kd.S_slice HO361.out
      (first|subst eo132|(injection eo132 with f1_ f2_ f3_;have f4_:=f1_.symm;have f5_:=f3_.symm;clear f1_ f2_ f3_;subst f4_;subst f5_))
      refine hK.out _ _ ⟨(bC BK351.out 0).trans rfl,(bC BK335.out 0).trans rfl⟩ (fun hHeld=>?_)
      clear hK K
      refine norm_ (a':=?_) ?_ ?_
      rotate_left
      ·show Act.put _ (some 37) _ = _
       simp only [Act.put,lA,l0',lS,i64_w,i32_w]
       rfl
      refine one_ (i:=3) (N:=some 38) #[true,true,true,true,false] rfl rfl (by kernel_rfl) (by decide) (fun K hK=>?_)
      refine goes_ Try.func44 (by kernel_rfl) rfl #[.agg #[.slice Ao116 t348.length co116],.agg #[.slice Ao132 t359.length co132]] (by rfl) rfl rfl (by (try simp only [mA,mC,mN]);first|done|rfl) ?_
      with_reducible refine (laws_eqDeal.calls k _ _ t348 _ _ t359 true _ ?side1 ?side2 ?side3 ?side4 A57.out).mono ?_
      (case side1=>repeat (first|exact (Kd.S_reads' HO350.out).2.2|(with_reducible refine Kd.C_alloc ?_ _)|(with_reducible refine Kd.C_drewN ?_ _)|(with_reducible refine Kd.C_drew ?_)))
      (case side2=>exact (Kd.S_reads' HO350.out).2.1)
      (case side3=>repeat (first|exact (Kd.S_reads' HO361.out).2.2|(with_reducible refine Kd.C_alloc ?_ _)|(with_reducible refine Kd.C_drewN ?_ _)|(with_reducible refine Kd.C_drew ?_)))
      (case side4=>exact (Kd.S_reads' HO361.out).2.1)
      rintro e w133 ⟨rfl,hb⟩
      refine ⟨_,rfl,?_⟩
      have n0_:=aK (Kd.S_below (by (with_reducible repeat (first|apply Kd.S_alloc|apply Kd.S_drewN|apply Kd.S_drew));exact HO341.out) hb)
      have n1_:=aK (Kd.R_below (by (with_reducible repeat (first|apply Kd.R_alloc|apply Kd.R_drewN|apply Kd.R_drew));exact HO346.out) hb)
      have n2_:=aK (Kd.S_below (by (with_reducible repeat (first|apply Kd.S_alloc|apply Kd.S_drewN|apply Kd.S_drew));exact HO350.out) hb)
      have n3_:=aK (Kd.R_below (by (with_reducible repeat (first|apply Kd.R_alloc|apply Kd.R_drewN|apply Kd.R_drew));exact HO356.out) hb)
      have n4_:=aK (Kd.S_below (by (with_reducible repeat (first|apply Kd.S_alloc|apply Kd.S_drewN|apply Kd.S_drew));exact HO361.out) hb)
      have n5_:=aK (bB (by (with_reducible repeat (first|apply bN|apply bD|apply bA));exact BK335.out) hb)
      have n6_:=aK (bB (by (with_reducible repeat (first|apply bN|apply bD|apply bA));exact BK336.out) hb)
      have n7_:=aK (bB (by (with_reducible repeat (first|apply bN|apply bD|apply bA));exact BK351.out) hb)
      have n8_:=aK (bB (by (with_reducible repeat (first|apply bN|apply bD|apply bA));exact BK357.out) hb)
      have n9_:=aK (below_step (by repeat (first|(with_reducible first|exact HB.out|apply bL|apply bM|apply b1|refine bS ?_ GE335.out|refine bS ?_ GE336.out|refine bS ?_ GE351.out|refine bS ?_ GE357.out)|exact HB.out)) hb)
      clear HO341
      clear HO346
      clear HO350
      clear HO356
      clear HO361
      clear BK335
      clear BK336
      clear BK351
      clear BK357
      clear HB
      have HO341:=n0_
      have HO346:=n1_
      have HO350:=n2_
      have HO356:=n3_
      have HO361:=n4_
      have BK335:=n5_
      have BK336:=n6_
      have BK351:=n7_
      have BK357:=n8_
      have HB:=n9_
      clear n0_ n1_ n2_ n3_ n4_ n5_ n6_ n7_ n8_ n9_
      (try clear hb)
      (try clear hb2)
      (try clear hk)
      (try clear hi)
      refine hK.out _ _ ⟨(bC BK351.out 0).trans rfl,(bC BK335.out 0).trans rfl⟩ (fun hHeld=>?_)
      clear hK K
      refine norm_ (a':=?_) ?_ ?_
      rotate_left
      ·show Act.put _ (some 38) _ = _
       simp only [Act.put,lA,l0',lS,i64_w,i32_w]
       rfl
      refine pure_ (i:=4) (N:=some 39) (v:=?_) (a':=?_) #[true,true,true,true,true] rfl rfl (by kernel_rfl) (fun _ _ _ h=>h) (Or.inl ⟨by rfl,?_⟩) ?_ ?_
      rotate_left
      ·intro w'
       go_simp
       with_reducible rfl
      rotate_left
      ·simp only [Act.put,lA,l0',lS,i64_w,i32_w]
       rfl
      refine done_ (by kernel_rfl) ?_
      try go_wp2
      have n0_:=aK (Kd.S_drew HO341.out)
      have n1_:=aK (Kd.R_drew HO346.out)
      have n2_:=aK (Kd.S_drew HO350.out)
      have n3_:=aK (Kd.R_drew HO356.out)
      have n4_:=aK (Kd.S_drew HO361.out)
      have n5_:=aK (bD BK335.out)
      have n6_:=aK (bD BK336.out)
      have n7_:=aK (bD BK351.out)
      have n8_:=aK (bD BK357.out)
      have n9_:=aK (b1 HB.out)
      clear HO341
      clear HO346
      clear HO350
      clear HO356
      clear HO361
      clear BK335
      clear BK336
      clear BK351
      clear BK357
      clear HB
      have HO341:=n0_
      have HO346:=n1_
      have HO350:=n2_
      have HO356:=n3_
      have HO361:=n4_
      have BK335:=n5_
      have BK336:=n6_
      have BK351:=n7_
      have BK357:=n8_
      have HB:=n9_
      clear n0_ n1_ n2_ n3_ n4_ n5_ n6_ n7_ n8_ n9_
      refine start_ (n:=5) (S:=fun w'=>w'.cell? ⟨gb357,0,none⟩ = some (.int .i64 t352) ∧ w'.cell? ⟨gb357,1,none⟩ = some (.int .i64 t353) ∧ w'.cell? ⟨gb357,2,none⟩ = some (.slice Ao127 t354.length co127) ∧ w'.cell? ⟨gb336,0,none⟩ = some (.int .i64 a1_0) ∧ w'.cell? ⟨gb336,1,none⟩ = some (.int .i64 a1_1) ∧ w'.cell? ⟨gb336,2,none⟩ = some (.slice A1_2 l1_2.length c1_2)) (ds:=[]) #[false,false,false,false,false] (by kernel_rfl) rfl rfl ⟨(bC BK357.out 0).trans rfl,(bC BK357.out 1).trans rfl,(bC BK357.out 2).trans rfl,(bC BK336.out 0).trans rfl,(bC BK336.out 1).trans rfl,(bC BK336.out 2).trans rfl⟩ (fun hHeld=>?_)
      generalize w133.drew = w134 at HO341 HO346 HO350 HO356 HO361 BK335 BK336 BK351 BK357 HB hHeld ⊢
      refine take_ (i:=0) (N:=some 40) (v:=?_) (a':=?_) #[true,false,false,false,false] rfl rfl (by kernel_rfl) (fun _ _ _ h=>h) (Or.inl ⟨by rfl,?_⟩) hHeld ?_ ?_
      rotate_left
      ·rintro w' ⟨s0,s1,s2,s3,s4,s5⟩
       go_simp
       with_reducible rfl
      rotate_left
      ·simp only [Act.put,lA,l0',lS,i64_w,i32_w]
       rfl
      refine take_ (i:=1) (N:=some 41) (v:=?_) (a':=?_) #[true,true,false,false,false] rfl rfl (by kernel_rfl) (fun _ _ _ h=>h) (Or.inl ⟨by rfl,?_⟩) hHeld ?_ ?_
      rotate_left
      ·rintro w' ⟨s0,s1,s2,s3,s4,s5⟩
       go_simp
       with_reducible rfl
      rotate_left
      ·simp only [Act.put,lA,l0',lS,i64_w,i32_w]
       rfl
      refine one_ (i:=2) (N:=some 42) #[true,true,true,false,false] rfl rfl (by kernel_rfl) (by decide) (fun K hK=>?_)
      refine goes_ Try.func24 (by kernel_rfl) rfl #[.agg #[.int .i64 a1_0,.int .i64 a1_1,.slice A1_2 l1_2.length c1_2]] (by rfl) rfl rfl (by (try simp only [mA,mC,mN]);first|done|rfl) ?_
      with_reducible refine (laws_toPlay.calls k a1_0 a1_1 _ _ l1_2 t363 t364 t365 _ ?side1 ?side2 A59.out).mono ?_
      (case side1=>repeat (first|exact (Kd.C_below HR1_2.out HB.out)|(with_reducible refine Kd.C_alloc ?_ _)|(with_reducible refine Kd.C_drewN ?_ _)|(with_reducible refine Kd.C_drew ?_)))
      (case side2=>exact HC1_2.out)
      rintro e w135 ⟨v366,rfl,ho0,hb⟩
      refine ⟨_,rfl,?_⟩
      have n0_:=aK (Kd.S_elder' (by (with_reducible repeat (first|apply Kd.S_alloc|apply Kd.S_drewN|apply Kd.S_drew));exact HO341.out) (Kd.R_base ho0) hb)
      have n1_:=aK (Kd.R_elder' (by (with_reducible repeat (first|apply Kd.R_alloc|apply Kd.R_drewN|apply Kd.R_drew));exact HO346.out) (Kd.R_base ho0) hb)
      have n2_:=aK (Kd.S_elder' (by (with_reducible repeat (first|apply Kd.S_alloc|apply Kd.S_drewN|apply Kd.S_drew));exact HO350.out) (Kd.R_base ho0) hb)
      have n3_:=aK (Kd.R_elder' (by (with_reducible repeat (first|apply Kd.R_alloc|apply Kd.R_drewN|apply Kd.R_drew));exact HO356.out) (Kd.R_base ho0) hb)
      have n4_:=aK (Kd.S_elder' (by (with_reducible repeat (first|apply Kd.S_alloc|apply Kd.S_drewN|apply Kd.S_drew));exact HO361.out) (Kd.R_base ho0) hb)
      have n5_:=aK (Kd.R_lower (Kd.R_new' (Kd.R_new' ho0 (Kd.R_lt (by (with_reducible repeat (first|apply Kd.R_alloc|apply Kd.R_drewN|apply Kd.R_drew));exact HO346.out))) (Kd.R_lt (by (with_reducible repeat (first|apply Kd.R_alloc|apply Kd.R_drewN|apply Kd.R_drew));exact HO356.out))) (below_size (by repeat (first|(with_reducible first|exact HB.out|apply bL|apply bM|apply b1|refine bS ?_ GE335.out|refine bS ?_ GE336.out|refine bS ?_ GE351.out|refine bS ?_ GE357.out)|exact HB.out))))
      have n6_:=aK (bB (by (with_reducible repeat (first|apply bN|apply bD|apply bA));exact BK335.out) hb)
      have n7_:=aK (bB (by (with_reducible repeat (first|apply bN|apply bD|apply bA));exact BK336.out) hb)
      have n8_:=aK (bB (by (with_reducible repeat (first|apply bN|apply bD|apply bA));exact BK351.out) hb)
      have n9_:=aK (bB (by (with_reducible repeat (first|apply bN|apply bD|apply bA));exact BK357.out) hb)
      have n10_:=aK (below_step (by repeat (first|(with_reducible first|exact HB.out|apply bL|apply bM|apply b1|refine bS ?_ GE335.out|refine bS ?_ GE336.out|refine bS ?_ GE351.out|refine bS ?_ GE357.out)|exact HB.out)) hb)
      clear HO341
      clear HO346
      clear HO350
      clear HO356
      clear HO361
      clear BK335
      clear BK336
      clear BK351
      clear BK357
      clear HB
      have HO341:=n0_
      have HO346:=n1_
      have HO350:=n2_
      have HO356:=n3_
      have HO361:=n4_
      have HO367:=n5_
      have BK335:=n6_
      have BK336:=n7_
      have BK351:=n8_
      have BK357:=n9_
      have HB:=n10_
      clear n0_ n1_ n2_ n3_ n4_ n5_ n6_ n7_ n8_ n9_ n10_
      (try clear hb)
      (try clear hb2)
      (try clear hk)
      (try clear hi)
      (try clear ho0)
      obtain ⟨Ao136,co136,eo136⟩:=Kd.R_slice HO367.out
      (first|subst eo136|(injection eo136 with f1_ f2_ f3_;have f4_:=f1_.symm;have f5_:=f3_.symm;clear f1_ f2_ f3_;subst f4_;subst f5_))
      refine hK.out _ _ ⟨(bC BK357.out 0).trans rfl,(bC BK357.out 1).trans rfl,(bC BK357.out 2).trans rfl,(bC BK336.out 0).trans rfl,(bC BK336.out 1).trans rfl,(bC BK336.out 2).trans rfl⟩ (fun hHeld=>?_)
      clear hK K
      refine norm_ (a':=?_) ?_ ?_
      rotate_left
      ·show Act.put _ (some 42) _ = _
       simp only [Act.put,lA,l0',lS,i64_w,i32_w]
       rfl
      refine one_ (i:=3) (N:=some 43) #[true,true,true,true,false] rfl rfl (by kernel_rfl) (by decide) (fun K hK=>?_)
      refine goes_ Try.func26 (by kernel_rfl) rfl #[.agg #[.int .i64 t352,.int .i64 t353,.slice Ao127 t354.length co127],.agg #[.int .i64 t363,.int .i64 t364,.slice Ao136 t365.length co136]] (by rfl) rfl rfl (by (try simp only [mA,mC,mN]);first|done|rfl) ?_
      with_reducible refine (laws_eqPlay.calls k t352 t353 _ _ t354 t363 t364 _ _ t365 false _ ?side1 ?side2 ?side3 ?side4 A60.out).mono ?_
      (case side1=>repeat (first|exact (Kd.R_reads' HO356.out).2.2|(with_reducible refine Kd.C_alloc ?_ _)|(with_reducible refine Kd.C_drewN ?_ _)|(with_reducible refine Kd.C_drew ?_)))
      (case side2=>exact (Kd.R_reads' HO356.out).2.1)
      (case side3=>repeat (first|exact (Kd.R_reads' HO367.out).2.2|(with_reducible refine Kd.C_alloc ?_ _)|(with_reducible refine Kd.C_drewN ?_ _)|(with_reducible refine Kd.C_drew ?_)))
      (case side4=>exact (Kd.R_reads' HO367.out).2.1)
      rintro e w137 ⟨rfl,hb⟩
      refine ⟨_,rfl,?_⟩
      have n0_:=aK (Kd.S_below (by (with_reducible repeat (first|apply Kd.S_alloc|apply Kd.S_drewN|apply Kd.S_drew));exact HO341.out) hb)
      have n1_:=aK (Kd.R_below (by (with_reducible repeat (first|apply Kd.R_alloc|apply Kd.R_drewN|apply Kd.R_drew));exact HO346.out) hb)
      have n2_:=aK (Kd.S_below (by (with_reducible repeat (first|apply Kd.S_alloc|apply Kd.S_drewN|apply Kd.S_drew));exact HO350.out) hb)
      have n3_:=aK (Kd.R_below (by (with_reducible repeat (first|apply Kd.R_alloc|apply Kd.R_drewN|apply Kd.R_drew));exact HO356.out) hb)
      have n4_:=aK (Kd.S_below (by (with_reducible repeat (first|apply Kd.S_alloc|apply Kd.S_drewN|apply Kd.S_drew));exact HO361.out) hb)
      have n5_:=aK (Kd.R_below (by (with_reducible repeat (first|apply Kd.R_alloc|apply Kd.R_drewN|apply Kd.R_drew));exact HO367.out) hb)
      have n6_:=aK (bB (by (with_reducible repeat (first|apply bN|apply bD|apply bA));exact BK335.out) hb)
      have n7_:=aK (bB (by (with_reducible repeat (first|apply bN|apply bD|apply bA));exact BK336.out) hb)
      have n8_:=aK (bB (by (with_reducible repeat (first|apply bN|apply bD|apply bA));exact BK351.out) hb)
      have n9_:=aK (bB (by (with_reducible repeat (first|apply bN|apply bD|apply bA));exact BK357.out) hb)
      have n10_:=aK (below_step (by repeat (first|(with_reducible first|exact HB.out|apply bL|apply bM|apply b1|refine bS ?_ GE335.out|refine bS ?_ GE336.out|refine bS ?_ GE351.out|refine bS ?_ GE357.out)|exact HB.out)) hb)
      clear HO341
      clear HO346
      clear HO350
      clear HO356
      clear HO361
      clear HO367
      clear BK335
      clear BK336
      clear BK351
      clear BK357
      clear HB
      have HO341:=n0_
      have HO346:=n1_
      have HO350:=n2_
      have HO356:=n3_
      have HO361:=n4_
      have HO367:=n5_
      have BK335:=n6_
      have BK336:=n7_
      have BK351:=n8_
      have BK357:=n9_
      have HB:=n10_
      clear n0_ n1_ n2_ n3_ n4_ n5_ n6_ n7_ n8_ n9_ n10_
      (try clear hb)
      (try clear hb2)
      (try clear hk)
      (try clear hi)
      refine hK.out _ _ ⟨(bC BK357.out 0).trans rfl,(bC BK357.out 1).trans rfl,(bC BK357.out 2).trans rfl,(bC BK336.out 0).trans rfl,(bC BK336.out 1).trans rfl,(bC BK336.out 2).trans rfl⟩ (fun hHeld=>?_)
      clear hK K
      refine norm_ (a':=?_) ?_ ?_
      rotate_left
      ·show Act.put _ (some 43) _ = _
       simp only [Act.put,lA,l0',lS,i64_w,i32_w]
       rfl
      refine pure_ (i:=4) (N:=some 44) (v:=?_) (a':=?_) #[true,true,true,true,true] rfl rfl (by kernel_rfl) (fun _ _ _ h=>h) (Or.inl ⟨by rfl,?_⟩) ?_ ?_
      rotate_left
      ·intro w'
       go_simp
       with_reducible rfl
      rotate_left
      ·simp only [Act.put,lA,l0',lS,i64_w,i32_w]
       rfl
      refine done_ (by kernel_rfl) ?_
      try go_wp2
      go_ret
      exact ⟨by first|rfl|(simp [errW_none,errW_some] <;> rfl)|(simp [*,errW_none,errW_some] <;> rfl),by repeat (first|(with_reducible first|exact HB.out|apply bL|apply bM|apply b1|refine bS ?_ GE335.out|refine bS ?_ GE336.out|refine bS ?_ GE351.out|refine bS ?_ GE357.out)|exact HB.out)⟩
    ·replace c58:=Bool.eq_false_iff.mpr c58
     subst c58
     have H1 : (some false) = some r:=by rw [if_neg (show ¬ (false = true) by decide)] at H;exact H
     clear H
     have H:=H1
     clear H1
     obtain rfl:=Option.some.inj H
     go_enter Try.func9,Try.ntmps9
     try go_wp2_with (first|((with_reducible refine gate_dst (N:=2) rfl ?_);refine box_event ?hg (N:=2) ?hd (cs:=#[.slice A0_0 l0_0.length c0_0]) (t:=41) ?hr ?_;(case hd=>rfl);(case hg=>rfl);(case hr=>first|(go_simp;done)|(go_simp;rfl));intro gb335 hg w138 hbox hb;have n0_:=aK (below_step (by repeat (first|(with_reducible first|exact HB.out|apply bL|apply bM|apply b1)|exact HB.out)) hb);have n1_:=aK (hbox);have n2_:=aK ((by rw [hg];exact (below_size (by repeat (first|(with_reducible first|exact HB.out|apply bL|apply bM|apply b1)|exact HB.out))) : w.heap.size ≤ gb335));have n3_:=aK ((by rw [hg];exact (below_size (by repeat (first|(with_reducible first|exact HB.out|apply bL|apply bM|apply b1)|exact HB.out))) : w.heap.size ≤ gb335));clear HB;have HB:=n0_;have BK335:=n1_;have GW335:=n2_;have GE335:=n3_;clear n0_ n1_ n2_ n3_;clear hb hbox hg)|((with_reducible refine gate_dst (N:=3) rfl ?_);refine box_event ?hg (N:=3) ?hd (cs:=#[.int .i64 a1_0,.int .i64 a1_1,.slice A1_2 l1_2.length c1_2]) (t:=24) ?hr ?_;(case hd=>rfl);(case hg=>rfl);(case hr=>first|(go_simp;done)|(go_simp;rfl));intro gb336 hg w139 hbox hb;have n0_:=aK (bB (by (with_reducible repeat (first|apply bN|apply bD|apply bA));exact BK335.out) hb);have n1_:=aK (below_step (by repeat (first|(with_reducible first|exact HB.out|apply bL|apply bM|apply b1|refine bS ?_ GE335.out)|exact HB.out)) hb);have n2_:=aK (hbox);have n3_:=aK ((by rw [hg];exact (below_size (by repeat (first|(with_reducible first|exact HB.out|apply bL|apply bM|apply b1|refine bS ?_ GE335.out)|exact HB.out))) : w.heap.size ≤ gb336));have n4_:=aK ((by rw [hg];exact (below_size (by repeat (first|(with_reducible first|exact HB.out|apply bL|apply bM|apply b1|refine bS ?_ GE335.out)|exact HB.out))) : w.heap.size ≤ gb336));have n5_:=aK ((by rw [hg];exact Nat.ne_of_lt (blk_lt (by (with_reducible repeat (first|apply bN|apply bD|apply bA));exact BK335.out)) : gb335 ≠ gb336));have n6_:=aK ((by rw [hg];exact Nat.ne_of_gt (blk_lt (by (with_reducible repeat (first|apply bN|apply bD|apply bA));exact BK335.out)) : gb336 ≠ gb335));clear BK335;clear HB;have BK335:=n0_;have HB:=n1_;have BK336:=n2_;have GW336:=n3_;have GE336:=n4_;have NB335_336:=n5_;have NB336_335:=n6_;clear n0_ n1_ n2_ n3_ n4_ n5_ n6_;clear hb hbox hg;have hnb140:=NB335_336.out;have hnc140:=NB336_335.out;have hcz141_0 : w139.cell? ⟨gb335,0,none⟩ = some (.slice A0_0 l0_0.length c0_0):=(bC BK335.out 0).trans rfl;have hfz141_0:=blk_frozen BK335.out 0)|((with_reducible refine gate_callee (f:=40) rfl ?_);refine goesL_ (some 12) rfl rfl Try.func40 (by kernel_rfl) rfl #[.agg #[.slice A0_0 l0_0.length c0_0],.int .i64 1048576] rfl (by (try simp only [mA,mC,mN]);first|done|rfl) ?_;(with_reducible refine (laws_szDeal.calls k _ _ l0_0 1048576 t337 _ ?side1 ?side2 A3.out).mono ?_);(case side1=>repeat (first|exact (Kd.C_below HR0_0.out HB.out)|(with_reducible refine Kd.C_alloc ?_ _)|(with_reducible refine Kd.C_drewN ?_ _)|(with_reducible refine Kd.C_drew ?_)));(case side2=>exact HC0_0.out);rintro e w142 ⟨rfl,hb⟩;refine ⟨_,rfl,?_⟩;have n0_:=aK (bB (by (with_reducible repeat (first|apply bN|apply bD|apply bA));exact BK335.out) hb);have n1_:=aK (bB (by (with_reducible repeat (first|apply bN|apply bD|apply bA));exact BK336.out) hb);have n2_:=aK (below_step (by repeat (first|(with_reducible first|exact HB.out|apply bL|apply bM|apply b1|refine bS ?_ GE335.out|refine bS ?_ GE336.out)|exact HB.out)) hb);clear BK335;clear BK336;clear HB;have BK335:=n0_;have BK336:=n1_;have HB:=n2_;clear n0_ n1_ n2_;(try clear hb);(try clear hb2);(try clear hk);(try clear hi);have hcz143_0 : w142.cell? ⟨gb336,0,none⟩ = some (.int .i64 a1_0):=(bC BK336.out 0).trans rfl;have hcz143_1 : w142.cell? ⟨gb336,1,none⟩ = some (.int .i64 a1_1):=(bC BK336.out 1).trans rfl;have hcz143_2 : w142.cell? ⟨gb336,2,none⟩ = some (.slice A1_2 l1_2.length c1_2):=(bC BK336.out 2).trans rfl;have hfz143_0:=blk_frozen BK336.out 0;have hfz143_1:=blk_frozen BK336.out 1;have hfz143_2:=blk_frozen BK336.out 2)|((with_reducible refine gate_callee (f:=22) rfl ?_);refine goesL_ (some 17) rfl rfl Try.func22 (by kernel_rfl) rfl #[.agg #[.int .i64 a1_0,.int .i64 a1_1,.slice A1_2 l1_2.length c1_2],.int .i64 t337] rfl (by (try simp only [mA,mC,mN]);first|done|rfl) ?_;(with_reducible refine (laws_szPlay.calls a1_0 a1_1 _ _ l1_2 t337 t338 _ ?side1 ?side2 A10.out).mono ?_);(case side1=>repeat (first|exact (Kd.C_below HR1_2.out HB.out)|(with_reducible refine Kd.C_alloc ?_ _)|(with_reducible refine Kd.C_drewN ?_ _)|(with_reducible refine Kd.C_drew ?_)));(case side2=>exact HC1_2.out);rintro e w144 ⟨rfl,hb⟩;refine ⟨_,rfl,?_⟩;have n0_:=aK (bB (by (with_reducible repeat (first|apply bN|apply bD|apply bA));exact BK335.out) hb);have n1_:=aK (bB (by (with_reducible repeat (first|apply bN|apply bD|apply bA));exact BK336.out) hb);have n2_:=aK (below_step (by repeat (first|(with_reducible first|exact HB.out|apply bL|apply bM|apply b1|refine bS ?_ GE335.out|refine bS ?_ GE336.out)|exact HB.out)) hb);clear BK335;clear BK336;clear HB;have BK335:=n0_;have BK336:=n1_;have HB:=n2_;clear n0_ n1_ n2_;(try clear hb);(try clear hb2);(try clear hk);(try clear hi)))
     have n0_:=aK (bD BK335.out)
     have n1_:=aK (bD BK336.out)
     have n2_:=aK (b1 HB.out)
     clear BK335
     clear BK336
     clear HB
     have BK335:=n0_
     have BK336:=n1_
     have HB:=n2_
     clear n0_ n1_ n2_
     refine start_ (n:=6) (S:=fun w'=>w'.cell? ⟨gb335,0,none⟩ = some (.slice A0_0 l0_0.length c0_0) ∧ w'.cell? ⟨gb336,0,none⟩ = some (.int .i64 a1_0) ∧ w'.cell? ⟨gb336,1,none⟩ = some (.int .i64 a1_1) ∧ w'.cell? ⟨gb336,2,none⟩ = some (.slice A1_2 l1_2.length c1_2)) (ds:=[]) #[false,false,false,false,false,false] (by kernel_rfl) rfl rfl ⟨(bC BK335.out 0).trans rfl,(bC BK336.out 0).trans rfl,(bC BK336.out 1).trans rfl,(bC BK336.out 2).trans rfl⟩ (fun hHeld=>?_)
     generalize w144.drew = w145 at BK335 BK336 HB hHeld ⊢
     refine take_ (i:=0) (N:=some 20) (v:=?_) (a':=?_) #[true,false,false,false,false,false] rfl rfl (by kernel_rfl) (fun _ _ _ h=>h) (Or.inl ⟨by rfl,?_⟩) hHeld ?_ ?_
     rotate_left
     ·rintro w' ⟨s0,s1,s2,s3⟩
      go_simp
      with_reducible rfl
     rotate_left
     ·simp only [Act.put,lA,l0',lS,i64_w,i32_w]
      rfl
     refine take_ (i:=2) (N:=some 22) (v:=?_) (a':=?_) #[true,false,true,false,false,false] rfl rfl (by kernel_rfl) (fun _ _ _ h=>h) (Or.inl ⟨by rfl,?_⟩) hHeld ?_ ?_
     rotate_left
     ·rintro w' ⟨s0,s1,s2,s3⟩
      go_simp
      with_reducible rfl
     rotate_left
     ·simp only [Act.put,lA,l0',lS,i64_w,i32_w]
      rfl
     refine one_ (i:=1) (N:=some 21) #[true,true,true,false,false,false] rfl rfl (by kernel_rfl) (by decide) (fun K hK=>?_)
     refine goes_ Try.func42 (by kernel_rfl) rfl #[.agg #[.slice A0_0 l0_0.length c0_0]] (by rfl) rfl rfl (by (try simp only [mA,mC,mN]);first|done|rfl) ?_
     with_reducible refine (laws_toDeal.calls k _ _ l0_0 t339 _ ?side1 ?side2 A19.out).mono ?_
     (case side1=>repeat (first|exact (Kd.C_below HR0_0.out HB.out)|(with_reducible refine Kd.C_alloc ?_ _)|(with_reducible refine Kd.C_drewN ?_ _)|(with_reducible refine Kd.C_drew ?_)))
     (case side2=>exact HC0_0.out)
     rintro e w146 ⟨v340,rfl,ho0,hb⟩
     refine ⟨_,rfl,?_⟩
     have n0_:=aK (Kd.S_lower ho0 (below_size (by repeat (first|(with_reducible first|exact HB.out|apply bL|apply bM|apply b1|refine bS ?_ GE335.out|refine bS ?_ GE336.out)|exact HB.out))))
     have n1_:=aK (bB (by (with_reducible repeat (first|apply bN|apply bD|apply bA));exact BK335.out) hb)
     have n2_:=aK (bB (by (with_reducible repeat (first|apply bN|apply bD|apply bA));exact BK336.out) hb)
     have n3_:=aK (below_step (by repeat (first|(with_reducible first|exact HB.out|apply bL|apply bM|apply b1|refine bS ?_ GE335.out|refine bS ?_ GE336.out)|exact HB.out)) hb)
     clear BK335
     clear BK336
     clear HB
     have HO341:=n0_
     have BK335:=n1_
     have BK336:=n2_
     have HB:=n3_
     clear n0_ n1_ n2_ n3_
     (try clear hb)
     (try clear hb2)
     (try clear hk)
     (try clear hi)
     (try clear ho0)
     refine hK.out _ _ ⟨(bC BK335.out 0).trans rfl,(bC BK336.out 0).trans rfl,(bC BK336.out 1).trans rfl,(bC BK336.out 2).trans rfl⟩ (fun hHeld=>?_)
     clear hK K
     refine norm_ (a':=?_) ?_ ?_
     rotate_left
     ·show Act.put _ (some 21) _ = _
      simp only [Act.put,lA,l0',lS,i64_w,i32_w]
      rfl
     refine one_ (i:=3) (N:=some 23) #[true,true,true,true,false,false] rfl rfl (by kernel_rfl) (by decide) (fun K hK=>?_)
     refine goes_ Try.func24 (by kernel_rfl) rfl #[.agg #[.int .i64 a1_0,.int .i64 a1_1,.slice A1_2 l1_2.length c1_2]] (by rfl) rfl rfl (by (try simp only [mA,mC,mN]);first|done|rfl) ?_
     with_reducible refine (laws_toPlay.calls k a1_0 a1_1 _ _ l1_2 t342 t343 t344 _ ?side1 ?side2 A20.out).mono ?_
     (case side1=>repeat (first|exact (Kd.C_below HR1_2.out HB.out)|(with_reducible refine Kd.C_alloc ?_ _)|(with_reducible refine Kd.C_drewN ?_ _)|(with_reducible refine Kd.C_drew ?_)))
     (case side2=>exact HC1_2.out)
     rintro e w147 ⟨v345,rfl,ho0,hb⟩
     refine ⟨_,rfl,?_⟩
     have n0_:=aK (Kd.S_elder' (by (with_reducible repeat (first|apply Kd.S_alloc|apply Kd.S_drewN|apply Kd.S_drew));exact HO341.out) (Kd.R_base ho0) hb)
     have n1_:=aK (Kd.R_lower ho0 (below_size (by repeat (first|(with_reducible first|exact HB.out|apply bL|apply bM|apply b1|refine bS ?_ GE335.out|refine bS ?_ GE336.out)|exact HB.out))))
     have n2_:=aK (bB (by (with_reducible repeat (first|apply bN|apply bD|apply bA));exact BK335.out) hb)
     have n3_:=aK (bB (by (with_reducible repeat (first|apply bN|apply bD|apply bA));exact BK336.out) hb)
     have n4_:=aK (below_step (by repeat (first|(with_reducible first|exact HB.out|apply bL|apply bM|apply b1|refine bS ?_ GE335.out|refine bS ?_ GE336.out)|exact HB.out)) hb)
     clear HO341
     clear BK335
     clear BK336
     clear HB
     have HO341:=n0_
     have HO346:=n1_
     have BK335:=n2_
     have BK336:=n3_
     have HB:=n4_
     clear n0_ n1_ n2_ n3_ n4_
     (try clear hb)
     (try clear hb2)
     (try clear hk)
     (try clear hi)
     (try clear ho0)
     obtain ⟨Ao148,co148,eo148⟩:=Kd.S_slice HO341.out
     (first|subst eo148|(injection eo148 with f1_ f2_ f3_;have f4_:=f1_.symm;have f5_:=f3_.symm;clear f1_ f2_ f3_;subst f4_;subst f5_))
     obtain ⟨Ao149,co149,eo149⟩:=Kd.R_slice HO346.out
     (first|subst eo149|(injection eo149 with f1_ f2_ f3_;have f4_:=f1_.symm;have f5_:=f3_.symm;clear f1_ f2_ f3_;subst f4_;subst f5_))
     refine hK.out _ _ ⟨(bC BK335.out 0).trans rfl,(bC BK336.out 0).trans rfl,(bC BK336.out 1).trans rfl,(bC BK336.out 2).trans rfl⟩ (fun hHeld=>?_)
     clear hK K
     refine norm_ (a':=?_) ?_ ?_
     rotate_left
     ·show Act.put _ (some 23) _ = _
      simp only [Act.put,lA,l0',lS,i64_w,i32_w]
      rfl
     refine one_ (i:=4) (N:=some 24) #[true,true,true,true,true,false] rfl rfl (by kernel_rfl) (by decide) (fun K hK=>?_)
     refine goes_ Try.func45 (by kernel_rfl) rfl #[.agg #[.slice Ao148 t339.length co148],.agg #[.int .i64 t342,.int .i64 t343,.slice Ao149 t344.length co149]] (by rfl) rfl rfl (by (try simp only [mA,mC,mN]);first|done|rfl) ?_
     with_reducible refine (spec_IsPlay.calls k _ _ t339 t342 t343 _ _ t344 t347 _ ?side1 ?side2 ?side3 ?side4 A21.out).mono ?_
     (case side1=>repeat (first|exact (Kd.S_reads' HO341.out).2.2|(with_reducible refine Kd.C_alloc ?_ _)|(with_reducible refine Kd.C_drewN ?_ _)|(with_reducible refine Kd.C_drew ?_)))
     (case side2=>exact (Kd.S_reads' HO341.out).2.1)
     (case side3=>repeat (first|exact (Kd.R_reads' HO346.out).2.2|(with_reducible refine Kd.C_alloc ?_ _)|(with_reducible refine Kd.C_drewN ?_ _)|(with_reducible refine Kd.C_drew ?_)))
     (case side4=>exact (Kd.R_reads' HO346.out).2.1)
     rintro e w150 ⟨rfl,hb⟩
     refine ⟨_,rfl,?_⟩
     have n0_:=aK (Kd.S_below (by (with_reducible repeat (first|apply Kd.S_alloc|apply Kd.S_drewN|apply Kd.S_drew));exact HO341.out) hb)
     have n1_:=aK (Kd.R_below (by (with_reducible repeat (first|apply Kd.R_alloc|apply Kd.R_drewN|apply Kd.R_drew));exact HO346.out) hb)
     have n2_:=aK (bB (by (with_reducible repeat (first|apply bN|apply bD|apply bA));exact BK335.out) hb)
     have n3_:=aK (bB (by (with_reducible repeat (first|apply bN|apply bD|apply bA));exact BK336.out) hb)
     have n4_:=aK (below_step (by repeat (first|(with_reducible first|exact HB.out|apply bL|apply bM|apply b1|refine bS ?_ GE335.out|refine bS ?_ GE336.out)|exact HB.out)) hb)
     clear HO341
     clear HO346
     clear BK335
     clear BK336
     clear HB
     have HO341:=n0_
     have HO346:=n1_
     have BK335:=n2_
     have BK336:=n3_
     have HB:=n4_
     clear n0_ n1_ n2_ n3_ n4_
     (try clear hb)
     (try clear hb2)
     (try clear hk)
     (try clear hi)
     refine hK.out _ _ ⟨(bC BK335.out 0).trans rfl,(bC BK336.out 0).trans rfl,(bC BK336.out 1).trans rfl,(bC BK336.out 2).trans rfl⟩ (fun hHeld=>?_)
     clear hK K
     refine norm_ (a':=?_) ?_ ?_
     rotate_left
     ·show Act.put _ (some 24) _ = _
      simp only [Act.put,lA,l0',lS,i64_w,i32_w]
      rfl
     refine pure_ (i:=5) (N:=some 6) (v:=?_) (a':=?_) #[true,true,true,true,true,true] rfl rfl (by kernel_rfl) (fun _ _ _ h=>h) (Or.inl ⟨by rfl,?_⟩) ?_ ?_
     rotate_left
     ·intro w'
      go_simp
      with_reducible rfl
     rotate_left
     ·simp only [Act.put,lA,l0',lS,i64_w,i32_w]
      rfl
     refine done_ (by kernel_rfl) ?_
     have hcz151_0 : w150.cell? ⟨gb335,0,none⟩ = some (.slice A0_0 l0_0.length c0_0):=(bC BK335.out 0).trans rfl
     have hfz151_0:=blk_frozen BK335.out 0
     try go_wp2_with (first|((with_reducible refine gate_callee (f:=42) rfl ?_);refine goesL_ (some 26) rfl rfl Try.func42 (by kernel_rfl) rfl #[.agg #[.slice A0_0 l0_0.length c0_0]] rfl (by (try simp only [mA,mC,mN]);first|done|rfl) ?_;(with_reducible refine (laws_toDeal.calls k _ _ l0_0 t348 _ ?side1 ?side2 A22.out).mono ?_);(case side1=>repeat (first|exact (Kd.C_below HR0_0.out HB.out)|(with_reducible refine Kd.C_alloc ?_ _)|(with_reducible refine Kd.C_drewN ?_ _)|(with_reducible refine Kd.C_drew ?_)));(case side2=>exact HC0_0.out);rintro e w152 ⟨v349,rfl,ho0,hb⟩;refine ⟨_,rfl,?_⟩;have n0_:=aK (Kd.S_elder' (by (with_reducible repeat (first|apply Kd.S_alloc|apply Kd.S_drewN|apply Kd.S_drew));exact HO341.out) (Kd.S_base ho0) hb);have n1_:=aK (Kd.R_below (by (with_reducible repeat (first|apply Kd.R_alloc|apply Kd.R_drewN|apply Kd.R_drew));exact HO346.out) hb);have n2_:=aK (Kd.S_lower (Kd.S_new' (Kd.S_new' ho0 (Kd.S_lt (by (with_reducible repeat (first|apply Kd.S_alloc|apply Kd.S_drewN|apply Kd.S_drew));exact HO341.out))) (Kd.R_lt (by (with_reducible repeat (first|apply Kd.R_alloc|apply Kd.R_drewN|apply Kd.R_drew));exact HO346.out))) (below_size (by repeat (first|(with_reducible first|exact HB.out|apply bL|apply bM|apply b1|refine bS ?_ GE335.out|refine bS ?_ GE336.out)|exact HB.out))));have n3_:=aK (bB (by (with_reducible repeat (first|apply bN|apply bD|apply bA));exact BK335.out) hb);have n4_:=aK (bB (by (with_reducible repeat (first|apply bN|apply bD|apply bA));exact BK336.out) hb);have n5_:=aK (below_step (by repeat (first|(with_reducible first|exact HB.out|apply bL|apply bM|apply b1|refine bS ?_ GE335.out|refine bS ?_ GE336.out)|exact HB.out)) hb);clear HO341;clear HO346;clear BK335;clear BK336;clear HB;have HO341:=n0_;have HO346:=n1_;have HO350:=n2_;have BK335:=n3_;have BK336:=n4_;have HB:=n5_;clear n0_ n1_ n2_ n3_ n4_ n5_;(try clear hb);(try clear hb2);(try clear hk);(try clear hi);(try clear ho0))|((with_reducible refine gate_dst (N:=7) rfl ?_);refine box_event ?hg (N:=7) ?hd (cs:=#[.slice none 0 0]) (t:=44) ?hr ?_;(case hd=>rfl);(case hg=>rfl);(case hr=>first|(go_simp;done)|(go_simp;rfl));intro gb351 hg w153 hbox hb;have n0_:=aK (Kd.S_below (by (with_reducible repeat (first|apply Kd.S_alloc|apply Kd.S_drewN|apply Kd.S_drew));exact HO341.out) hb);have n1_:=aK (Kd.R_below (by (with_reducible repeat (first|apply Kd.R_alloc|apply Kd.R_drewN|apply Kd.R_drew));exact HO346.out) hb);have n2_:=aK (Kd.S_below (by (with_reducible repeat (first|apply Kd.S_alloc|apply Kd.S_drewN|apply Kd.S_drew));exact HO350.out) hb);have n3_:=aK (bB (by (with_reducible repeat (first|apply bN|apply bD|apply bA));exact BK335.out) hb);have n4_:=aK (bB (by (with_reducible repeat (first|apply bN|apply bD|apply bA));exact BK336.out) hb);have n5_:=aK (below_step (by repeat (first|(with_reducible first|exact HB.out|apply bL|apply bM|apply b1|refine bS ?_ GE335.out|refine bS ?_ GE336.out)|exact HB.out)) hb);have n6_:=aK (hbox);have n7_:=aK ((by rw [hg];exact (below_size (by repeat (first|(with_reducible first|exact HB.out|apply bL|apply bM|apply b1|refine bS ?_ GE335.out|refine bS ?_ GE336.out)|exact HB.out))) : w.heap.size ≤ gb351));have n8_:=aK ((by rw [hg];exact (below_size (by repeat (first|(with_reducible first|exact HB.out|apply bL|apply bM|apply b1|refine bS ?_ GE335.out|refine bS ?_ GE336.out)|exact HB.out))) : w.heap.size ≤ gb351));have n9_:=aK ((by rw [hg];exact Nat.ne_of_lt (blk_lt (by (with_reducible repeat (first|apply bN|apply bD|apply bA));exact BK335.out)) : gb335 ≠ gb351));have n10_:=aK ((by rw [hg];exact Nat.ne_of_gt (blk_lt (by (with_reducible repeat (first|apply bN|apply bD|apply bA));exact BK335.out)) : gb351 ≠ gb335));have n11_:=aK ((by rw [hg];exact Nat.ne_of_lt (blk_lt (by (with_reducible repeat (first|apply bN|apply bD|apply bA));exact BK336.out)) : gb336 ≠ gb351));have n12_:=aK ((by rw [hg];exact Nat.ne_of_gt (blk_lt (by (with_reducible repeat (first|apply bN|apply bD|apply bA));exact BK336.out)) : gb351 ≠ gb336));clear HO341;clear HO346;clear HO350;clear BK335;clear BK336;clear HB;have HO341:=n0_;have HO346:=n1_;have HO350:=n2_;have BK335:=n3_;have BK336:=n4_;have HB:=n5_;have BK351:=n6_;have GW351:=n7_;have GE351:=n8_;have NB335_351:=n9_;have NB351_335:=n10_;have NB336_351:=n11_;have NB351_336:=n12_;clear n0_ n1_ n2_ n3_ n4_ n5_ n6_ n7_ n8_ n9_ n10_ n11_ n12_;clear hb hbox hg;obtain ⟨Ao154,co154,eo154⟩:=Kd.S_slice HO350.out;subst eo154;have hnb155:=NB351_335.out;have hnc155:=NB335_351.out;have hnb156:=NB351_336.out;have hnc156:=NB336_351.out;have hcz157_0 : w153.cell? ⟨gb351,0,none⟩ = some (.slice none 0 0):=(bC BK351.out 0).trans rfl;have hfz157_0:=blk_frozen BK351.out 0;have hcz158_0 : w153.cell? ⟨gb336,0,none⟩ = some (.int .i64 a1_0):=(bC BK336.out 0).trans rfl;have hcz158_1 : w153.cell? ⟨gb336,1,none⟩ = some (.int .i64 a1_1):=(bC BK336.out 1).trans rfl;have hcz158_2 : w153.cell? ⟨gb336,2,none⟩ = some (.slice A1_2 l1_2.length c1_2):=(bC BK336.out 2).trans rfl;have hfz158_0:=blk_frozen BK336.out 0;have hfz158_1:=blk_frozen BK336.out 1;have hfz158_2:=blk_frozen BK336.out 2)|((with_reducible refine gate_callee (f:=24) rfl ?_);refine goesL_ (some 28) rfl rfl Try.func24 (by kernel_rfl) rfl #[.agg #[.int .i64 a1_0,.int .i64 a1_1,.slice A1_2 l1_2.length c1_2]] rfl (by (try simp only [mA,mC,mN]);first|done|rfl) ?_;(with_reducible refine (laws_toPlay.calls k a1_0 a1_1 _ _ l1_2 t352 t353 t354 _ ?side1 ?side2 A23.out).mono ?_);(case side1=>exact Kd.C_below HR1_2.out (by repeat (first|(with_reducible first|exact HB.out|apply bL|apply bM|apply b1|refine bS ?_ GE335.out|refine bS ?_ GE336.out|refine bS ?_ GE351.out)|exact HB.out)));(case side2=>exact HC1_2.out);rintro e w159 ⟨v355,rfl,ho0,hb⟩;refine ⟨_,rfl,?_⟩;have n0_:=aK (Kd.S_elder' (by (with_reducible repeat (first|apply Kd.S_alloc|apply Kd.S_drewN|apply Kd.S_drew));exact (Kd.S_mono (Kd.S_far (p:=⟨gb351,0,none⟩) (Kd.S_types HO341.out BK351.out (by decide)) (fun _ hk=>by first|exact hk.2|(have h_:=hk;(try simp only [and_assoc,true_and] at h_);(repeat' apply And.intro) <;> first|with_reducible exact h_.1|with_reducible exact h_.2.1|with_reducible exact h_.2.2.1|with_reducible exact h_.2.2.2.1|with_reducible exact h_.2.2.2.2.1|with_reducible exact h_.2.2.2.2.2.1|with_reducible exact h_.2.2.2.2.2.2.1|with_reducible exact h_.2.2.2.2.2.2.2.1|with_reducible exact h_.2.2.2.2.2.2.2.2.1|with_reducible exact h_.2|with_reducible exact h_.2.2|with_reducible exact h_.2.2.2|with_reducible exact h_.2.2.2.2|with_reducible exact h_.2.2.2.2.2|with_reducible exact h_.2.2.2.2.2.2|with_reducible exact h_.2.2.2.2.2.2.2|with_reducible exact h_.2.2.2.2.2.2.2.2)) (.slice Ao154 t348.length co154)) (fun _ h_=>h_.1))) (Kd.R_base ho0) hb);have n1_:=aK (Kd.R_elder' (by (with_reducible repeat (first|apply Kd.R_alloc|apply Kd.R_drewN|apply Kd.R_drew));exact (Kd.R_mono (Kd.R_far (p:=⟨gb351,0,none⟩) (Kd.R_types HO346.out BK351.out (by decide)) (fun _ hk=>by first|exact hk.2|(have h_:=hk;(try simp only [and_assoc,true_and] at h_);(repeat' apply And.intro) <;> first|with_reducible exact h_.1|with_reducible exact h_.2.1|with_reducible exact h_.2.2.1|with_reducible exact h_.2.2.2.1|with_reducible exact h_.2.2.2.2.1|with_reducible exact h_.2.2.2.2.2.1|with_reducible exact h_.2.2.2.2.2.2.1|with_reducible exact h_.2.2.2.2.2.2.2.1|with_reducible exact h_.2.2.2.2.2.2.2.2.1|with_reducible exact h_.2|with_reducible exact h_.2.2|with_reducible exact h_.2.2.2|with_reducible exact h_.2.2.2.2|with_reducible exact h_.2.2.2.2.2|with_reducible exact h_.2.2.2.2.2.2|with_reducible exact h_.2.2.2.2.2.2.2|with_reducible exact h_.2.2.2.2.2.2.2.2)) (.slice Ao154 t348.length co154)) (fun _ h_=>h_.1))) (Kd.R_base ho0) hb);have n2_:=aK (Kd.S_elder' (by (with_reducible repeat (first|apply Kd.S_alloc|apply Kd.S_drewN|apply Kd.S_drew));exact (Kd.S_mono (Kd.S_far (p:=⟨gb351,0,none⟩) (Kd.S_types HO350.out BK351.out (by decide)) (fun _ hk=>by first|exact hk.2|(have h_:=hk;(try simp only [and_assoc,true_and] at h_);(repeat' apply And.intro) <;> first|with_reducible exact h_.1|with_reducible exact h_.2.1|with_reducible exact h_.2.2.1|with_reducible exact h_.2.2.2.1|with_reducible exact h_.2.2.2.2.1|with_reducible exact h_.2.2.2.2.2.1|with_reducible exact h_.2.2.2.2.2.2.1|with_reducible exact h_.2.2.2.2.2.2.2.1|with_reducible exact h_.2.2.2.2.2.2.2.2.1|with_reducible exact h_.2|with_reducible exact h_.2.2|with_reducible exact h_.2.2.2|with_reducible exact h_.2.2.2.2|with_reducible exact h_.2.2.2.2.2|with_reducible exact h_.2.2.2.2.2.2|with_reducible exact h_.2.2.2.2.2.2.2|with_reducible exact h_.2.2.2.2.2.2.2.2)) (.slice Ao154 t348.length co154)) (fun _ h_=>h_.1))) (Kd.R_base ho0) hb);have n3_:=aK (Kd.R_lower (Kd.R_new' ho0 (Kd.R_lt (by (with_reducible repeat (first|apply Kd.R_alloc|apply Kd.R_drewN|apply Kd.R_drew));exact (Kd.R_mono (Kd.R_far (p:=⟨gb351,0,none⟩) (Kd.R_types HO346.out BK351.out (by decide)) (fun _ hk=>by first|exact hk.2|(have h_:=hk;(try simp only [and_assoc,true_and] at h_);(repeat' apply And.intro) <;> first|with_reducible exact h_.1|with_reducible exact h_.2.1|with_reducible exact h_.2.2.1|with_reducible exact h_.2.2.2.1|with_reducible exact h_.2.2.2.2.1|with_reducible exact h_.2.2.2.2.2.1|with_reducible exact h_.2.2.2.2.2.2.1|with_reducible exact h_.2.2.2.2.2.2.2.1|with_reducible exact h_.2.2.2.2.2.2.2.2.1|with_reducible exact h_.2|with_reducible exact h_.2.2|with_reducible exact h_.2.2.2|with_reducible exact h_.2.2.2.2|with_reducible exact h_.2.2.2.2.2|with_reducible exact h_.2.2.2.2.2.2|with_reducible exact h_.2.2.2.2.2.2.2|with_reducible exact h_.2.2.2.2.2.2.2.2)) (.slice Ao154 t348.length co154)) (fun _ h_=>h_.1))))) (below_size (by repeat (first|(with_reducible first|exact HB.out|apply bL|apply bM|apply b1|refine bS ?_ GE335.out|refine bS ?_ GE336.out|refine bS ?_ GE351.out)|exact HB.out))));have n4_:=aK (bB (g:=gb335) (o:=.cells #[.slice A0_0 l0_0.length c0_0] 41 (0,0)) (by (with_reducible repeat (first|apply bN|apply bD|apply bA));refine blk_far ?_ NB335_351.out _;(with_reducible repeat (first|apply bN|apply bD|apply bA));exact BK335.out) hb);have n5_:=aK (bB (g:=gb336) (o:=.cells #[.int .i64 a1_0,.int .i64 a1_1,.slice A1_2 l1_2.length c1_2] 24 (0,0)) (by (with_reducible repeat (first|apply bN|apply bD|apply bA));refine blk_far ?_ NB336_351.out _;(with_reducible repeat (first|apply bN|apply bD|apply bA));exact BK336.out) hb);have n6_:=aK (bB (g:=gb351) (o:=.cells #[.slice Ao154 t348.length co154] 44 (0,0)) (by (with_reducible repeat (first|apply bN|apply bD|apply bA));refine blk_put (cs:=#[.slice none 0 0]) ?_ 0 _ rfl;(with_reducible repeat (first|apply bN|apply bD|apply bA));exact BK351.out) hb);have n7_:=aK (below_step (by repeat (first|(with_reducible first|exact HB.out|apply bL|apply bM|apply b1|refine bS ?_ GE335.out|refine bS ?_ GE336.out|refine bS ?_ GE351.out)|exact HB.out)) hb);clear HO341;clear HO346;clear HO350;clear BK335;clear BK336;clear BK351;clear HB;have HO341:=n0_;have HO346:=n1_;have HO350:=n2_;have HO356:=n3_;have BK335:=n4_;have BK336:=n5_;have BK351:=n6_;have HB:=n7_;clear n0_ n1_ n2_ n3_ n4_ n5_ n6_ n7_;(try clear hb);(try clear hb2);(try clear hk);(try clear hi);(try clear ho0))|((with_reducible refine gate_dst (N:=8) rfl ?_);refine box_event ?hg (N:=8) ?hd (cs:=#[.int .i64 0,.int .i64 0,.slice none 0 0]) (t:=27) ?hr ?_;(case hd=>rfl);(case hg=>rfl);(case hr=>first|(go_simp;done)|(go_simp;rfl));intro gb357 hg w160 hbox hb;have n0_:=aK (Kd.S_below (by (with_reducible repeat (first|apply Kd.S_alloc|apply Kd.S_drewN|apply Kd.S_drew));exact HO341.out) hb);have n1_:=aK (Kd.R_below (by (with_reducible repeat (first|apply Kd.R_alloc|apply Kd.R_drewN|apply Kd.R_drew));exact HO346.out) hb);have n2_:=aK (Kd.S_below (by (with_reducible repeat (first|apply Kd.S_alloc|apply Kd.S_drewN|apply Kd.S_drew));exact HO350.out) hb);have n3_:=aK (Kd.R_below (by (with_reducible repeat (first|apply Kd.R_alloc|apply Kd.R_drewN|apply Kd.R_drew));exact HO356.out) hb);have n4_:=aK (bB (by (with_reducible repeat (first|apply bN|apply bD|apply bA));exact BK335.out) hb);have n5_:=aK (bB (by (with_reducible repeat (first|apply bN|apply bD|apply bA));exact BK336.out) hb);have n6_:=aK (bB (by (with_reducible repeat (first|apply bN|apply bD|apply bA));exact BK351.out) hb);have n7_:=aK (below_step (by repeat (first|(with_reducible first|exact HB.out|apply bL|apply bM|apply b1|refine bS ?_ GE335.out|refine bS ?_ GE336.out|refine bS ?_ GE351.out)|exact HB.out)) hb);have n8_:=aK (hbox);have n9_:=aK ((by rw [hg];exact (below_size (by repeat (first|(with_reducible first|exact HB.out|apply bL|apply bM|apply b1|refine bS ?_ GE335.out|refine bS ?_ GE336.out|refine bS ?_ GE351.out)|exact HB.out))) : w.heap.size ≤ gb357));have n10_:=aK ((by rw [hg];exact (below_size (by repeat (first|(with_reducible first|exact HB.out|apply bL|apply bM|apply b1|refine bS ?_ GE335.out|refine bS ?_ GE336.out|refine bS ?_ GE351.out)|exact HB.out))) : w.heap.size ≤ gb357));have n11_:=aK ((by rw [hg];exact Nat.ne_of_lt (blk_lt (by (with_reducible repeat (first|apply bN|apply bD|apply bA));exact BK335.out)) : gb335 ≠ gb357));have n12_:=aK ((by rw [hg];exact Nat.ne_of_gt (blk_lt (by (with_reducible repeat (first|apply bN|apply bD|apply bA));exact BK335.out)) : gb357 ≠ gb335));have n13_:=aK ((by rw [hg];exact Nat.ne_of_lt (blk_lt (by (with_reducible repeat (first|apply bN|apply bD|apply bA));exact BK336.out)) : gb336 ≠ gb357));have n14_:=aK ((by rw [hg];exact Nat.ne_of_gt (blk_lt (by (with_reducible repeat (first|apply bN|apply bD|apply bA));exact BK336.out)) : gb357 ≠ gb336));have n15_:=aK ((by rw [hg];exact Nat.ne_of_lt (blk_lt (by (with_reducible repeat (first|apply bN|apply bD|apply bA));exact BK351.out)) : gb351 ≠ gb357));have n16_:=aK ((by rw [hg];exact Nat.ne_of_gt (blk_lt (by (with_reducible repeat (first|apply bN|apply bD|apply bA));exact BK351.out)) : gb357 ≠ gb351));clear HO341;clear HO346;clear HO350;clear HO356;clear BK335;clear BK336;clear BK351;clear HB;have HO341:=n0_;have HO346:=n1_;have HO350:=n2_;have HO356:=n3_;have BK335:=n4_;have BK336:=n5_;have BK351:=n6_;have HB:=n7_;have BK357:=n8_;have GW357:=n9_;have GE357:=n10_;have NB335_357:=n11_;have NB357_335:=n12_;have NB336_357:=n13_;have NB357_336:=n14_;have NB351_357:=n15_;have NB357_351:=n16_;clear n0_ n1_ n2_ n3_ n4_ n5_ n6_ n7_ n8_ n9_ n10_ n11_ n12_ n13_ n14_ n15_ n16_;clear hb hbox hg;have hnb161:=NB357_335.out;have hnc161:=NB335_357.out;have hnb162:=NB357_336.out;have hnc162:=NB336_357.out;have hnb163:=NB357_351.out;have hnc163:=NB351_357.out;have hcz164_0 : w160.cell? ⟨gb357,0,none⟩ = some (.int .i64 0):=(bC BK357.out 0).trans rfl;have hcz164_1 : w160.cell? ⟨gb357,1,none⟩ = some (.int .i64 0):=(bC BK357.out 1).trans rfl;have hcz164_2 : w160.cell? ⟨gb357,2,none⟩ = some (.slice none 0 0):=(bC BK357.out 2).trans rfl;have hfz164_0:=blk_frozen BK357.out 0;have hfz164_1:=blk_frozen BK357.out 1;have hfz164_2:=blk_frozen BK357.out 2;obtain ⟨Ao165,co165,eo165⟩:=Kd.R_slice HO356.out;subst eo165;have hcz166_0 : w160.cell? ⟨gb351,0,none⟩ = some (.slice Ao154 t348.length co154):=(bC BK351.out 0).trans rfl;have hfz166_0:=blk_frozen BK351.out 0)|((with_reducible refine gate_callee (f:=46) rfl ?_);refine goesL_ (some 31) rfl rfl Try.func46 (by kernel_rfl) rfl #[.agg #[.slice Ao154 t348.length co154],.agg #[.int .i64 t352,.int .i64 t353,.slice Ao165 t354.length co165]] rfl (by (try simp only [mA,mC,mN]);first|done|rfl) ?_;(with_reducible refine (impl_IsPlay.calls k _ _ t348 t352 t353 _ _ t354 t358 _ ?side1 ?side2 ?side3 ?side4 A24.out).mono ?_);(case side1=>refine (Kd.S_reads' (e:=22) (base:=w.heap.size) (ok:=fun k_=>(((True ∧ some k_ ≠ (.slice Ao148 t339.length co148 : Value).ownBlock) ∧ some k_ ≠ (.slice Ao149 t344.length co149 : Value).ownBlock) ∧ some k_ ≠ (.slice Ao165 t354.length co165 : Value).ownBlock)) (n:=t348.length) (c:=co154) ?_).2.2;exact (by (with_reducible repeat (first|apply Kd.S_alloc|apply Kd.S_drewN|apply Kd.S_drew));exact (Kd.S_mono (Kd.S_far (p:=⟨gb357,2,none⟩) (Kd.S_far (p:=⟨gb357,1,none⟩) (Kd.S_far (p:=⟨gb357,0,none⟩) (Kd.S_types HO350.out BK357.out (by decide)) (fun _ hk=>by first|exact hk.2|(have h_:=hk;(try simp only [and_assoc,true_and] at h_);(repeat' apply And.intro) <;> first|with_reducible exact h_.1|with_reducible exact h_.2.1|with_reducible exact h_.2.2.1|with_reducible exact h_.2.2.2.1|with_reducible exact h_.2.2.2.2.1|with_reducible exact h_.2.2.2.2.2.1|with_reducible exact h_.2.2.2.2.2.2.1|with_reducible exact h_.2.2.2.2.2.2.2.1|with_reducible exact h_.2.2.2.2.2.2.2.2.1|with_reducible exact h_.2|with_reducible exact h_.2.2|with_reducible exact h_.2.2.2|with_reducible exact h_.2.2.2.2|with_reducible exact h_.2.2.2.2.2|with_reducible exact h_.2.2.2.2.2.2|with_reducible exact h_.2.2.2.2.2.2.2|with_reducible exact h_.2.2.2.2.2.2.2.2)) (.int .i64 t352)) (fun _ hk=>by first|exact hk.2|(have h_:=hk;(try simp only [and_assoc,true_and] at h_);(repeat' apply And.intro) <;> first|with_reducible exact h_.1|with_reducible exact h_.2.1|with_reducible exact h_.2.2.1|with_reducible exact h_.2.2.2.1|with_reducible exact h_.2.2.2.2.1|with_reducible exact h_.2.2.2.2.2.1|with_reducible exact h_.2.2.2.2.2.2.1|with_reducible exact h_.2.2.2.2.2.2.2.1|with_reducible exact h_.2.2.2.2.2.2.2.2.1|with_reducible exact h_.2|with_reducible exact h_.2.2|with_reducible exact h_.2.2.2|with_reducible exact h_.2.2.2.2|with_reducible exact h_.2.2.2.2.2|with_reducible exact h_.2.2.2.2.2.2|with_reducible exact h_.2.2.2.2.2.2.2|with_reducible exact h_.2.2.2.2.2.2.2.2)) (.int .i64 t353)) (fun _ hk=>by first|exact hk.2|(have h_:=hk;(try simp only [and_assoc,true_and] at h_);(repeat' apply And.intro) <;> first|with_reducible exact h_.1|with_reducible exact h_.2.1|with_reducible exact h_.2.2.1|with_reducible exact h_.2.2.2.1|with_reducible exact h_.2.2.2.2.1|with_reducible exact h_.2.2.2.2.2.1|with_reducible exact h_.2.2.2.2.2.2.1|with_reducible exact h_.2.2.2.2.2.2.2.1|with_reducible exact h_.2.2.2.2.2.2.2.2.1|with_reducible exact h_.2|with_reducible exact h_.2.2|with_reducible exact h_.2.2.2|with_reducible exact h_.2.2.2.2|with_reducible exact h_.2.2.2.2.2|with_reducible exact h_.2.2.2.2.2.2|with_reducible exact h_.2.2.2.2.2.2.2|with_reducible exact h_.2.2.2.2.2.2.2.2)) (.slice Ao165 t354.length co165)) (fun _ h_=>h_.1))));(case side2=>exact (Kd.S_reads' HO350.out).2.1);(case side3=>refine (Kd.R_reads' (e:=2) (base:=w.heap.size) (ok:=fun k_=>(True ∧ some k_ ≠ (.slice Ao149 t344.length co149 : Value).ownBlock)) (n:=t354.length) (c:=co165) ?_).2.2;exact (by (with_reducible repeat (first|apply Kd.R_alloc|apply Kd.R_drewN|apply Kd.R_drew));exact (Kd.R_mono (Kd.R_far (p:=⟨gb357,2,none⟩) (Kd.R_far (p:=⟨gb357,1,none⟩) (Kd.R_far (p:=⟨gb357,0,none⟩) (Kd.R_types HO356.out BK357.out (by decide)) (fun _ hk=>by first|exact hk.2|(have h_:=hk;(try simp only [and_assoc,true_and] at h_);(repeat' apply And.intro) <;> first|with_reducible exact h_.1|with_reducible exact h_.2.1|with_reducible exact h_.2.2.1|with_reducible exact h_.2.2.2.1|with_reducible exact h_.2.2.2.2.1|with_reducible exact h_.2.2.2.2.2.1|with_reducible exact h_.2.2.2.2.2.2.1|with_reducible exact h_.2.2.2.2.2.2.2.1|with_reducible exact h_.2.2.2.2.2.2.2.2.1|with_reducible exact h_.2|with_reducible exact h_.2.2|with_reducible exact h_.2.2.2|with_reducible exact h_.2.2.2.2|with_reducible exact h_.2.2.2.2.2|with_reducible exact h_.2.2.2.2.2.2|with_reducible exact h_.2.2.2.2.2.2.2|with_reducible exact h_.2.2.2.2.2.2.2.2)) (.int .i64 t352)) (fun _ hk=>by first|exact hk.2|(have h_:=hk;(try simp only [and_assoc,true_and] at h_);(repeat' apply And.intro) <;> first|with_reducible exact h_.1|with_reducible exact h_.2.1|with_reducible exact h_.2.2.1|with_reducible exact h_.2.2.2.1|with_reducible exact h_.2.2.2.2.1|with_reducible exact h_.2.2.2.2.2.1|with_reducible exact h_.2.2.2.2.2.2.1|with_reducible exact h_.2.2.2.2.2.2.2.1|with_reducible exact h_.2.2.2.2.2.2.2.2.1|with_reducible exact h_.2|with_reducible exact h_.2.2|with_reducible exact h_.2.2.2|with_reducible exact h_.2.2.2.2|with_reducible exact h_.2.2.2.2.2|with_reducible exact h_.2.2.2.2.2.2|with_reducible exact h_.2.2.2.2.2.2.2|with_reducible exact h_.2.2.2.2.2.2.2.2)) (.int .i64 t353)) (fun _ hk=>by first|exact hk.2|(have h_:=hk;(try simp only [and_assoc,true_and] at h_);(repeat' apply And.intro) <;> first|with_reducible exact h_.1|with_reducible exact h_.2.1|with_reducible exact h_.2.2.1|with_reducible exact h_.2.2.2.1|with_reducible exact h_.2.2.2.2.1|with_reducible exact h_.2.2.2.2.2.1|with_reducible exact h_.2.2.2.2.2.2.1|with_reducible exact h_.2.2.2.2.2.2.2.1|with_reducible exact h_.2.2.2.2.2.2.2.2.1|with_reducible exact h_.2|with_reducible exact h_.2.2|with_reducible exact h_.2.2.2|with_reducible exact h_.2.2.2.2|with_reducible exact h_.2.2.2.2.2|with_reducible exact h_.2.2.2.2.2.2|with_reducible exact h_.2.2.2.2.2.2.2|with_reducible exact h_.2.2.2.2.2.2.2.2)) (.slice Ao165 t354.length co165)) (fun _ h_=>h_.1))));(case side4=>exact (Kd.R_reads' HO356.out).2.1);rintro e w167 ⟨rfl,hb⟩;refine ⟨_,rfl,?_⟩;have n0_:=aK (Kd.S_below (by (with_reducible repeat (first|apply Kd.S_alloc|apply Kd.S_drewN|apply Kd.S_drew));exact (Kd.S_mono (Kd.S_far (p:=⟨gb357,2,none⟩) (Kd.S_far (p:=⟨gb357,1,none⟩) (Kd.S_far (p:=⟨gb357,0,none⟩) (Kd.S_types HO341.out BK357.out (by decide)) (fun _ hk=>by first|exact hk.2|(have h_:=hk;(try simp only [and_assoc,true_and] at h_);(repeat' apply And.intro) <;> first|with_reducible exact h_.1|with_reducible exact h_.2.1|with_reducible exact h_.2.2.1|with_reducible exact h_.2.2.2.1|with_reducible exact h_.2.2.2.2.1|with_reducible exact h_.2.2.2.2.2.1|with_reducible exact h_.2.2.2.2.2.2.1|with_reducible exact h_.2.2.2.2.2.2.2.1|with_reducible exact h_.2.2.2.2.2.2.2.2.1|with_reducible exact h_.2|with_reducible exact h_.2.2|with_reducible exact h_.2.2.2|with_reducible exact h_.2.2.2.2|with_reducible exact h_.2.2.2.2.2|with_reducible exact h_.2.2.2.2.2.2|with_reducible exact h_.2.2.2.2.2.2.2|with_reducible exact h_.2.2.2.2.2.2.2.2)) (.int .i64 t352)) (fun _ hk=>by first|exact hk.2|(have h_:=hk;(try simp only [and_assoc,true_and] at h_);(repeat' apply And.intro) <;> first|with_reducible exact h_.1|with_reducible exact h_.2.1|with_reducible exact h_.2.2.1|with_reducible exact h_.2.2.2.1|with_reducible exact h_.2.2.2.2.1|with_reducible exact h_.2.2.2.2.2.1|with_reducible exact h_.2.2.2.2.2.2.1|with_reducible exact h_.2.2.2.2.2.2.2.1|with_reducible exact h_.2.2.2.2.2.2.2.2.1|with_reducible exact h_.2|with_reducible exact h_.2.2|with_reducible exact h_.2.2.2|with_reducible exact h_.2.2.2.2|with_reducible exact h_.2.2.2.2.2|with_reducible exact h_.2.2.2.2.2.2|with_reducible exact h_.2.2.2.2.2.2.2|with_reducible exact h_.2.2.2.2.2.2.2.2)) (.int .i64 t353)) (fun _ hk=>by first|exact hk.2|(have h_:=hk;(try simp only [and_assoc,true_and] at h_);(repeat' apply And.intro) <;> first|with_reducible exact h_.1|with_reducible exact h_.2.1|with_reducible exact h_.2.2.1|with_reducible exact h_.2.2.2.1|with_reducible exact h_.2.2.2.2.1|with_reducible exact h_.2.2.2.2.2.1|with_reducible exact h_.2.2.2.2.2.2.1|with_reducible exact h_.2.2.2.2.2.2.2.1|with_reducible exact h_.2.2.2.2.2.2.2.2.1|with_reducible exact h_.2|with_reducible exact h_.2.2|with_reducible exact h_.2.2.2|with_reducible exact h_.2.2.2.2|with_reducible exact h_.2.2.2.2.2|with_reducible exact h_.2.2.2.2.2.2|with_reducible exact h_.2.2.2.2.2.2.2|with_reducible exact h_.2.2.2.2.2.2.2.2)) (.slice Ao165 t354.length co165)) (fun _ h_=>h_.1))) hb);have n1_:=aK (Kd.R_below (by (with_reducible repeat (first|apply Kd.R_alloc|apply Kd.R_drewN|apply Kd.R_drew));exact (Kd.R_mono (Kd.R_far (p:=⟨gb357,2,none⟩) (Kd.R_far (p:=⟨gb357,1,none⟩) (Kd.R_far (p:=⟨gb357,0,none⟩) (Kd.R_types HO346.out BK357.out (by decide)) (fun _ hk=>by first|exact hk.2|(have h_:=hk;(try simp only [and_assoc,true_and] at h_);(repeat' apply And.intro) <;> first|with_reducible exact h_.1|with_reducible exact h_.2.1|with_reducible exact h_.2.2.1|with_reducible exact h_.2.2.2.1|with_reducible exact h_.2.2.2.2.1|with_reducible exact h_.2.2.2.2.2.1|with_reducible exact h_.2.2.2.2.2.2.1|with_reducible exact h_.2.2.2.2.2.2.2.1|with_reducible exact h_.2.2.2.2.2.2.2.2.1|with_reducible exact h_.2|with_reducible exact h_.2.2|with_reducible exact h_.2.2.2|with_reducible exact h_.2.2.2.2|with_reducible exact h_.2.2.2.2.2|with_reducible exact h_.2.2.2.2.2.2|with_reducible exact h_.2.2.2.2.2.2.2|with_reducible exact h_.2.2.2.2.2.2.2.2)) (.int .i64 t352)) (fun _ hk=>by first|exact hk.2|(have h_:=hk;(try simp only [and_assoc,true_and] at h_);(repeat' apply And.intro) <;> first|with_reducible exact h_.1|with_reducible exact h_.2.1|with_reducible exact h_.2.2.1|with_reducible exact h_.2.2.2.1|with_reducible exact h_.2.2.2.2.1|with_reducible exact h_.2.2.2.2.2.1|with_reducible exact h_.2.2.2.2.2.2.1|with_reducible exact h_.2.2.2.2.2.2.2.1|with_reducible exact h_.2.2.2.2.2.2.2.2.1|with_reducible exact h_.2|with_reducible exact h_.2.2|with_reducible exact h_.2.2.2|with_reducible exact h_.2.2.2.2|with_reducible exact h_.2.2.2.2.2|with_reducible exact h_.2.2.2.2.2.2|with_reducible exact h_.2.2.2.2.2.2.2|with_reducible exact h_.2.2.2.2.2.2.2.2)) (.int .i64 t353)) (fun _ hk=>by first|exact hk.2|(have h_:=hk;(try simp only [and_assoc,true_and] at h_);(repeat' apply And.intro) <;> first|with_reducible exact h_.1|with_reducible exact h_.2.1|with_reducible exact h_.2.2.1|with_reducible exact h_.2.2.2.1|with_reducible exact h_.2.2.2.2.1|with_reducible exact h_.2.2.2.2.2.1|with_reducible exact h_.2.2.2.2.2.2.1|with_reducible exact h_.2.2.2.2.2.2.2.1|with_reducible exact h_.2.2.2.2.2.2.2.2.1|with_reducible exact h_.2|with_reducible exact h_.2.2|with_reducible exact h_.2.2.2|with_reducible exact h_.2.2.2.2|with_reducible exact h_.2.2.2.2.2|with_reducible exact h_.2.2.2.2.2.2|with_reducible exact h_.2.2.2.2.2.2.2|with_reducible exact h_.2.2.2.2.2.2.2.2)) (.slice Ao165 t354.length co165)) (fun _ h_=>h_.1))) hb);have n2_:=aK (Kd.S_below (by (with_reducible repeat (first|apply Kd.S_alloc|apply Kd.S_drewN|apply Kd.S_drew));exact (Kd.S_mono (Kd.S_far (p:=⟨gb357,2,none⟩) (Kd.S_far (p:=⟨gb357,1,none⟩) (Kd.S_far (p:=⟨gb357,0,none⟩) (Kd.S_types HO350.out BK357.out (by decide)) (fun _ hk=>by first|exact hk.2|(have h_:=hk;(try simp only [and_assoc,true_and] at h_);(repeat' apply And.intro) <;> first|with_reducible exact h_.1|with_reducible exact h_.2.1|with_reducible exact h_.2.2.1|with_reducible exact h_.2.2.2.1|with_reducible exact h_.2.2.2.2.1|with_reducible exact h_.2.2.2.2.2.1|with_reducible exact h_.2.2.2.2.2.2.1|with_reducible exact h_.2.2.2.2.2.2.2.1|with_reducible exact h_.2.2.2.2.2.2.2.2.1|with_reducible exact h_.2|with_reducible exact h_.2.2|with_reducible exact h_.2.2.2|with_reducible exact h_.2.2.2.2|with_reducible exact h_.2.2.2.2.2|with_reducible exact h_.2.2.2.2.2.2|with_reducible exact h_.2.2.2.2.2.2.2|with_reducible exact h_.2.2.2.2.2.2.2.2)) (.int .i64 t352)) (fun _ hk=>by first|exact hk.2|(have h_:=hk;(try simp only [and_assoc,true_and] at h_);(repeat' apply And.intro) <;> first|with_reducible exact h_.1|with_reducible exact h_.2.1|with_reducible exact h_.2.2.1|with_reducible exact h_.2.2.2.1|with_reducible exact h_.2.2.2.2.1|with_reducible exact h_.2.2.2.2.2.1|with_reducible exact h_.2.2.2.2.2.2.1|with_reducible exact h_.2.2.2.2.2.2.2.1|with_reducible exact h_.2.2.2.2.2.2.2.2.1|with_reducible exact h_.2|with_reducible exact h_.2.2|with_reducible exact h_.2.2.2|with_reducible exact h_.2.2.2.2|with_reducible exact h_.2.2.2.2.2|with_reducible exact h_.2.2.2.2.2.2|with_reducible exact h_.2.2.2.2.2.2.2|with_reducible exact h_.2.2.2.2.2.2.2.2)) (.int .i64 t353)) (fun _ hk=>by first|exact hk.2|(have h_:=hk;(try simp only [and_assoc,true_and] at h_);(repeat' apply And.intro) <;> first|with_reducible exact h_.1|with_reducible exact h_.2.1|with_reducible exact h_.2.2.1|with_reducible exact h_.2.2.2.1|with_reducible exact h_.2.2.2.2.1|with_reducible exact h_.2.2.2.2.2.1|with_reducible exact h_.2.2.2.2.2.2.1|with_reducible exact h_.2.2.2.2.2.2.2.1|with_reducible exact h_.2.2.2.2.2.2.2.2.1|with_reducible exact h_.2|with_reducible exact h_.2.2|with_reducible exact h_.2.2.2|with_reducible exact h_.2.2.2.2|with_reducible exact h_.2.2.2.2.2|with_reducible exact h_.2.2.2.2.2.2|with_reducible exact h_.2.2.2.2.2.2.2|with_reducible exact h_.2.2.2.2.2.2.2.2)) (.slice Ao165 t354.length co165)) (fun _ h_=>h_.1))) hb);have n3_:=aK (Kd.R_below (by (with_reducible repeat (first|apply Kd.R_alloc|apply Kd.R_drewN|apply Kd.R_drew));exact (Kd.R_mono (Kd.R_far (p:=⟨gb357,2,none⟩) (Kd.R_far (p:=⟨gb357,1,none⟩) (Kd.R_far (p:=⟨gb357,0,none⟩) (Kd.R_types HO356.out BK357.out (by decide)) (fun _ hk=>by first|exact hk.2|(have h_:=hk;(try simp only [and_assoc,true_and] at h_);(repeat' apply And.intro) <;> first|with_reducible exact h_.1|with_reducible exact h_.2.1|with_reducible exact h_.2.2.1|with_reducible exact h_.2.2.2.1|with_reducible exact h_.2.2.2.2.1|with_reducible exact h_.2.2.2.2.2.1|with_reducible exact h_.2.2.2.2.2.2.1|with_reducible exact h_.2.2.2.2.2.2.2.1|with_reducible exact h_.2.2.2.2.2.2.2.2.1|with_reducible exact h_.2|with_reducible exact h_.2.2|with_reducible exact h_.2.2.2|with_reducible exact h_.2.2.2.2|with_reducible exact h_.2.2.2.2.2|with_reducible exact h_.2.2.2.2.2.2|with_reducible exact h_.2.2.2.2.2.2.2|with_reducible exact h_.2.2.2.2.2.2.2.2)) (.int .i64 t352)) (fun _ hk=>by first|exact hk.2|(have h_:=hk;(try simp only [and_assoc,true_and] at h_);(repeat' apply And.intro) <;> first|with_reducible exact h_.1|with_reducible exact h_.2.1|with_reducible exact h_.2.2.1|with_reducible exact h_.2.2.2.1|with_reducible exact h_.2.2.2.2.1|with_reducible exact h_.2.2.2.2.2.1|with_reducible exact h_.2.2.2.2.2.2.1|with_reducible exact h_.2.2.2.2.2.2.2.1|with_reducible exact h_.2.2.2.2.2.2.2.2.1|with_reducible exact h_.2|with_reducible exact h_.2.2|with_reducible exact h_.2.2.2|with_reducible exact h_.2.2.2.2|with_reducible exact h_.2.2.2.2.2|with_reducible exact h_.2.2.2.2.2.2|with_reducible exact h_.2.2.2.2.2.2.2|with_reducible exact h_.2.2.2.2.2.2.2.2)) (.int .i64 t353)) (fun _ hk=>by first|exact hk.2|(have h_:=hk;(try simp only [and_assoc,true_and] at h_);(repeat' apply And.intro) <;> first|with_reducible exact h_.1|with_reducible exact h_.2.1|with_reducible exact h_.2.2.1|with_reducible exact h_.2.2.2.1|with_reducible exact h_.2.2.2.2.1|with_reducible exact h_.2.2.2.2.2.1|with_reducible exact h_.2.2.2.2.2.2.1|with_reducible exact h_.2.2.2.2.2.2.2.1|with_reducible exact h_.2.2.2.2.2.2.2.2.1|with_reducible exact h_.2|with_reducible exact h_.2.2|with_reducible exact h_.2.2.2|with_reducible exact h_.2.2.2.2|with_reducible exact h_.2.2.2.2.2|with_reducible exact h_.2.2.2.2.2.2|with_reducible exact h_.2.2.2.2.2.2.2|with_reducible exact h_.2.2.2.2.2.2.2.2)) (.slice Ao165 t354.length co165)) (fun _ h_=>h_.1))) hb);have n4_:=aK (bB (g:=gb335) (o:=.cells #[.slice A0_0 l0_0.length c0_0] 41 (0,0)) (by (with_reducible repeat (first|apply bN|apply bD|apply bA));refine blk_far ?_ NB335_357.out _;(with_reducible repeat (first|apply bN|apply bD|apply bA));refine blk_far ?_ NB335_357.out _;(with_reducible repeat (first|apply bN|apply bD|apply bA));refine blk_far ?_ NB335_357.out _;(with_reducible repeat (first|apply bN|apply bD|apply bA));exact BK335.out) hb);have n5_:=aK (bB (g:=gb336) (o:=.cells #[.int .i64 a1_0,.int .i64 a1_1,.slice A1_2 l1_2.length c1_2] 24 (0,0)) (by (with_reducible repeat (first|apply bN|apply bD|apply bA));refine blk_far ?_ NB336_357.out _;(with_reducible repeat (first|apply bN|apply bD|apply bA));refine blk_far ?_ NB336_357.out _;(with_reducible repeat (first|apply bN|apply bD|apply bA));refine blk_far ?_ NB336_357.out _;(with_reducible repeat (first|apply bN|apply bD|apply bA));exact BK336.out) hb);have n6_:=aK (bB (g:=gb351) (o:=.cells #[.slice Ao154 t348.length co154] 44 (0,0)) (by (with_reducible repeat (first|apply bN|apply bD|apply bA));refine blk_far ?_ NB351_357.out _;(with_reducible repeat (first|apply bN|apply bD|apply bA));refine blk_far ?_ NB351_357.out _;(with_reducible repeat (first|apply bN|apply bD|apply bA));refine blk_far ?_ NB351_357.out _;(with_reducible repeat (first|apply bN|apply bD|apply bA));exact BK351.out) hb);have n7_:=aK (bB (g:=gb357) (o:=.cells #[.int .i64 t352,.int .i64 t353,.slice Ao165 t354.length co165] 27 (0,0)) (by (with_reducible repeat (first|apply bN|apply bD|apply bA));refine blk_put (cs:=#[.int .i64 t352,.int .i64 t353,.slice none 0 0]) ?_ 2 _ rfl;(with_reducible repeat (first|apply bN|apply bD|apply bA));refine blk_put (cs:=#[.int .i64 t352,.int .i64 0,.slice none 0 0]) ?_ 1 _ rfl;(with_reducible repeat (first|apply bN|apply bD|apply bA));refine blk_put (cs:=#[.int .i64 0,.int .i64 0,.slice none 0 0]) ?_ 0 _ rfl;(with_reducible repeat (first|apply bN|apply bD|apply bA));exact BK357.out) hb);have n8_:=aK (below_step (by repeat (first|(with_reducible first|exact HB.out|apply bL|apply bM|apply b1|refine bS ?_ GE335.out|refine bS ?_ GE336.out|refine bS ?_ GE351.out|refine bS ?_ GE357.out)|exact HB.out)) hb);clear HO341;clear HO346;clear HO350;clear HO356;clear BK335;clear BK336;clear BK351;clear BK357;clear HB;have HO341:=n0_;have HO346:=n1_;have HO350:=n2_;have HO356:=n3_;have BK335:=n4_;have BK336:=n5_;have BK351:=n6_;have BK357:=n7_;have HB:=n8_;clear n0_ n1_ n2_ n3_ n4_ n5_ n6_ n7_ n8_;(try clear hb);(try clear hb2);(try clear hk);(try clear hi)))
     have n0_:=aK (Kd.S_drew HO341.out)
     have n1_:=aK (Kd.R_drew HO346.out)
     have n2_:=aK (Kd.S_drew HO350.out)
     have n3_:=aK (Kd.R_drew HO356.out)
     have n4_:=aK (bD BK335.out)
     have n5_:=aK (bD BK336.out)
     have n6_:=aK (bD BK351.out)
     have n7_:=aK (bD BK357.out)
     have n8_:=aK (b1 HB.out)
     clear HO341
     clear HO346
     clear HO350
     clear HO356
     clear BK335
     clear BK336
     clear BK351
     clear BK357
     clear HB
     have HO341:=n0_
     have HO346:=n1_
     have HO350:=n2_
     have HO356:=n3_
     have BK335:=n4_
     have BK336:=n5_
     have BK351:=n6_
     have BK357:=n7_
     have HB:=n8_
     clear n0_ n1_ n2_ n3_ n4_ n5_ n6_ n7_ n8_
     refine start_ (n:=5) (S:=fun w'=>w'.cell? ⟨gb351,0,none⟩ = some (.slice Ao154 t348.length co154) ∧ w'.cell? ⟨gb335,0,none⟩ = some (.slice A0_0 l0_0.length c0_0)) (ds:=[]) #[false,false,false,false,false] (by kernel_rfl) rfl rfl ⟨(bC BK351.out 0).trans rfl,(bC BK335.out 0).trans rfl⟩ (fun hHeld=>?_)
     generalize w167.drew = w168 at HO341 HO346 HO350 HO356 BK335 BK336 BK351 BK357 HB hHeld ⊢
     refine take_ (i:=0) (N:=some 35) (v:=?_) (a':=?_) #[true,false,false,false,false] rfl rfl (by kernel_rfl) (fun _ _ _ h=>h) (Or.inl ⟨by rfl,?_⟩) hHeld ?_ ?_
     rotate_left
     ·rintro w' ⟨s0,s1⟩
      go_simp
      with_reducible rfl
     rotate_left
     ·simp only [Act.put,lA,l0',lS,i64_w,i32_w]
      rfl
     refine take_ (i:=1) (N:=some 36) (v:=?_) (a':=?_) #[true,true,false,false,false] rfl rfl (by kernel_rfl) (fun _ _ _ h=>h) (Or.inl ⟨by rfl,?_⟩) hHeld ?_ ?_
     rotate_left
     ·rintro w' ⟨s0,s1⟩
      go_simp
      with_reducible rfl
     rotate_left
     ·simp only [Act.put,lA,l0',lS,i64_w,i32_w]
      rfl
     refine one_ (i:=2) (N:=some 37) #[true,true,true,false,false] rfl rfl (by kernel_rfl) (by decide) (fun K hK=>?_)
     refine goes_ Try.func42 (by kernel_rfl) rfl #[.agg #[.slice A0_0 l0_0.length c0_0]] (by rfl) rfl rfl (by (try simp only [mA,mC,mN]);first|done|rfl) ?_
     with_reducible refine (laws_toDeal.calls k _ _ l0_0 t359 _ ?side1 ?side2 A56.out).mono ?_
     (case side1=>repeat (first|exact (Kd.C_below HR0_0.out HB.out)|(with_reducible refine Kd.C_alloc ?_ _)|(with_reducible refine Kd.C_drewN ?_ _)|(with_reducible refine Kd.C_drew ?_)))
     (case side2=>exact HC0_0.out)
     rintro e w169 ⟨v360,rfl,ho0,hb⟩
     refine ⟨_,rfl,?_⟩
     have n0_:=aK (Kd.S_elder' (by (with_reducible repeat (first|apply Kd.S_alloc|apply Kd.S_drewN|apply Kd.S_drew));exact HO341.out) (Kd.S_base ho0) hb)
     have n1_:=aK (Kd.R_below (by (with_reducible repeat (first|apply Kd.R_alloc|apply Kd.R_drewN|apply Kd.R_drew));exact HO346.out) hb)
     have n2_:=aK (Kd.S_elder' (by (with_reducible repeat (first|apply Kd.S_alloc|apply Kd.S_drewN|apply Kd.S_drew));exact HO350.out) (Kd.S_base ho0) hb)
     have n3_:=aK (Kd.R_below (by (with_reducible repeat (first|apply Kd.R_alloc|apply Kd.R_drewN|apply Kd.R_drew));exact HO356.out) hb)
     have n4_:=aK (Kd.S_lower (Kd.S_new' (Kd.S_new' (Kd.S_new' (Kd.S_new' ho0 (Kd.S_lt (by (with_reducible repeat (first|apply Kd.S_alloc|apply Kd.S_drewN|apply Kd.S_drew));exact HO341.out))) (Kd.R_lt (by (with_reducible repeat (first|apply Kd.R_alloc|apply Kd.R_drewN|apply Kd.R_drew));exact HO346.out))) (Kd.S_lt (by (with_reducible repeat (first|apply Kd.S_alloc|apply Kd.S_drewN|apply Kd.S_drew));exact HO350.out))) (Kd.R_lt (by (with_reducible repeat (first|apply Kd.R_alloc|apply Kd.R_drewN|apply Kd.R_drew));exact HO356.out))) (below_size (by repeat (first|(with_reducible first|exact HB.out|apply bL|apply bM|apply b1|refine bS ?_ GE335.out|refine bS ?_ GE336.out|refine bS ?_ GE351.out|refine bS ?_ GE357.out)|exact HB.out))))
     have n5_:=aK (bB (by (with_reducible repeat (first|apply bN|apply bD|apply bA));exact BK335.out) hb)
     have n6_:=aK (bB (by (with_reducible repeat (first|apply bN|apply bD|apply bA));exact BK336.out) hb)
     have n7_:=aK (bB (by (with_reducible repeat (first|apply bN|apply bD|apply bA));exact BK351.out) hb)
     have n8_:=aK (bB (by (with_reducible repeat (first|apply bN|apply bD|apply bA));exact BK357.out) hb)
     have n9_:=aK (below_step (by repeat (first|(with_reducible first|exact HB.out|apply bL|apply bM|apply b1|refine bS ?_ GE335.out|refine bS ?_ GE336.out|refine bS ?_ GE351.out|refine bS ?_ GE357.out)|exact HB.out)) hb)
     clear HO341
     clear HO346
     clear HO350
     clear HO356
     clear BK335
     clear BK336
     clear BK351
     clear BK357
     clear HB
     have HO341:=n0_
     have HO346:=n1_
     have HO350:=n2_
     have HO356:=n3_
     have HO361:=n4_
     have BK335:=n5_
     have BK336:=n6_
     have BK351:=n7_
     have BK357:=n8_
     have HB:=n9_
     clear n0_ n1_ n2_ n3_ n4_ n5_ n6_ n7_ n8_ n9_
     (try clear hb)
     (try clear hb2)
     (try clear hk)
     (try clear hi)
     (try clear ho0)
     obtain ⟨Ao170,co170,eo170⟩:=Kd.S_slice HO361.out
     (first|subst eo170|(injection eo170 with f1_ f2_ f3_;have f4_:=f1_.symm;have f5_:=f3_.symm;clear f1_ f2_ f3_;subst f4_;subst f5_))
     refine hK.out _ _ ⟨(bC BK351.out 0).trans rfl,(bC BK335.out 0).trans rfl⟩ (fun hHeld=>?_)
     clear hK K
     refine norm_ (a':=?_) ?_ ?_
     rotate_left
     ·show Act.put _ (some 37) _ = _
      simp only [Act.put,lA,l0',lS,i64_w,i32_w]
      rfl
     refine one_ (i:=3) (N:=some 38) #[true,true,true,true,false] rfl rfl (by kernel_rfl) (by decide) (fun K hK=>?_)
     refine goes_ Try.func44 (by kernel_rfl) rfl #[.agg #[.slice Ao154 t348.length co154],.agg #[.slice Ao170 t359.length co170]] (by rfl) rfl rfl (by (try simp only [mA,mC,mN]);first|done|rfl) ?_
     with_reducible refine (laws_eqDeal.calls k _ _ t348 _ _ t359 false _ ?side1 ?side2 ?side3 ?side4 A57.out).mono ?_
     (case side1=>repeat (first|exact (Kd.S_reads' HO350.out).2.2|(with_reducible refine Kd.C_alloc ?_ _)|(with_reducible refine Kd.C_drewN ?_ _)|(with_reducible refine Kd.C_drew ?_)))
     (case side2=>exact (Kd.S_reads' HO350.out).2.1)
     (case side3=>repeat (first|exact (Kd.S_reads' HO361.out).2.2|(with_reducible refine Kd.C_alloc ?_ _)|(with_reducible refine Kd.C_drewN ?_ _)|(with_reducible refine Kd.C_drew ?_)))
     (case side4=>exact (Kd.S_reads' HO361.out).2.1)
     rintro e w171 ⟨rfl,hb⟩
     refine ⟨_,rfl,?_⟩
     have n0_:=aK (Kd.S_below (by (with_reducible repeat (first|apply Kd.S_alloc|apply Kd.S_drewN|apply Kd.S_drew));exact HO341.out) hb)
     have n1_:=aK (Kd.R_below (by (with_reducible repeat (first|apply Kd.R_alloc|apply Kd.R_drewN|apply Kd.R_drew));exact HO346.out) hb)
     have n2_:=aK (Kd.S_below (by (with_reducible repeat (first|apply Kd.S_alloc|apply Kd.S_drewN|apply Kd.S_drew));exact HO350.out) hb)
     have n3_:=aK (Kd.R_below (by (with_reducible repeat (first|apply Kd.R_alloc|apply Kd.R_drewN|apply Kd.R_drew));exact HO356.out) hb)
     have n4_:=aK (Kd.S_below (by (with_reducible repeat (first|apply Kd.S_alloc|apply Kd.S_drewN|apply Kd.S_drew));exact HO361.out) hb)
     have n5_:=aK (bB (by (with_reducible repeat (first|apply bN|apply bD|apply bA));exact BK335.out) hb)
     have n6_:=aK (bB (by (with_reducible repeat (first|apply bN|apply bD|apply bA));exact BK336.out) hb)
     have n7_:=aK (bB (by (with_reducible repeat (first|apply bN|apply bD|apply bA));exact BK351.out) hb)
     have n8_:=aK (bB (by (with_reducible repeat (first|apply bN|apply bD|apply bA));exact BK357.out) hb)
     have n9_:=aK (below_step (by repeat (first|(with_reducible first|exact HB.out|apply bL|apply bM|apply b1|refine bS ?_ GE335.out|refine bS ?_ GE336.out|refine bS ?_ GE351.out|refine bS ?_ GE357.out)|exact HB.out)) hb)
     clear HO341
     clear HO346
     clear HO350
     clear HO356
     clear HO361
     clear BK335
     clear BK336
     clear BK351
     clear BK357
     clear HB
     have HO341:=n0_
     have HO346:=n1_
     have HO350:=n2_
     have HO356:=n3_
     have HO361:=n4_
     have BK335:=n5_
     have BK336:=n6_
     have BK351:=n7_
     have BK357:=n8_
     have HB:=n9_
     clear n0_ n1_ n2_ n3_ n4_ n5_ n6_ n7_ n8_ n9_
     (try clear hb)
     (try clear hb2)
     (try clear hk)
     (try clear hi)
     refine hK.out _ _ ⟨(bC BK351.out 0).trans rfl,(bC BK335.out 0).trans rfl⟩ (fun hHeld=>?_)
     clear hK K
     refine norm_ (a':=?_) ?_ ?_
     rotate_left
     ·show Act.put _ (some 38) _ = _
      simp only [Act.put,lA,l0',lS,i64_w,i32_w]
      rfl
     refine pure_ (i:=4) (N:=some 39) (v:=?_) (a':=?_) #[true,true,true,true,true] rfl rfl (by kernel_rfl) (fun _ _ _ h=>h) (Or.inl ⟨by rfl,?_⟩) ?_ ?_
     rotate_left
     ·intro w'
      go_simp
      with_reducible rfl
     rotate_left
     ·simp only [Act.put,lA,l0',lS,i64_w,i32_w]
      rfl
     refine done_ (by kernel_rfl) ?_
     try go_wp2
     go_ret
     exact ⟨by first|rfl|(simp [errW_none,errW_some] <;> rfl)|(simp [*,errW_none,errW_some] <;> rfl),by repeat (first|(with_reducible first|exact HB.out|apply bL|apply bM|apply b1|refine bS ?_ GE335.out|refine bS ?_ GE336.out|refine bS ?_ GE351.out|refine bS ?_ GE357.out)|exact HB.out)⟩

end Go.Proofs.Ytakepkjcmgcepaa.QFnExactIsPlay
