/- The functions that the law FnExactIsClaim reaches, as plain functions, and the walks that show that the machine's calls answer so. Written by a program of this session (wip/myprint.py) on the kit's print. -/
import Derived.Test.YtakepkjcmgcepaaQFnExactIsClaimx0
import Derived.Test.YtakepkjcmgcepaaQFnExactIsClaimx1
import Derived.Test.YtakepkjcmgcepaaQFnExactIsClaimx2
import Derived.Test.YtakepkjcmgcepaaQFnExactIsClaimx7
import Derived.Test.YtakepkjcmgcepaaQFnExactIsClaimx11
namespace Go.Proofs.Ytakepkjcmgcepaa.QFnExactIsClaim
open Go.RowKit Go.Proofs.YtakepkjcmgcepaaW.PrintWords Go.Proofs.YtakepkjcmgcepaaW.PrintLast Go.Proofs.YtakepkjcmgcepaaW.PrintMore
attribute [local go_sem] max2_int min2_int max_two min_two max_three min_three max_four min_four   -- for this text's walks alone
set_option linter.unusedVariables false
set_option linter.unusedSimpArgs false

/-! ### laws_FnExactIsClaim: function 11 -/
def laws_FnExactIsClaim.f (k : Nat) (l0_0 : List (List Int)) (a1_0 : Int) (a1_1 : Int) (l1_2 : List Int) (a2_0 : Int) (a2_1 : Int) : Option (Bool) := (laws_szDeal.f k l0_0 1048576).bind fun t367 => (if t367 < 0 then (some true) else ((laws_szPlay.f a1_0 a1_1 l1_2 t367).bind fun t368 => (if t368 < 0 then (some true) else ((laws_toDeal.f k l0_0).bind fun t369 => ((laws_toPlay.f k a1_0 a1_1 l1_2).bind fun bt372 => ((laws_toClaim.f a2_0 a2_1).bind fun bt377 => ((spec_IsClaim.f k t369 bt372.1 bt372.2.1 bt372.2.2 bt377.1 bt377.2).bind fun t379 => ((laws_toDeal.f k l0_0).bind fun t380 => ((laws_toPlay.f k a1_0 a1_1 l1_2).bind fun bt384 => ((laws_toClaim.f a2_0 a2_1).bind fun bt390 => ((impl_IsClaim.f k t380 bt384.1 bt384.2.1 bt384.2.2 bt390.1 bt390.2).bind fun t392 => (if (t392 != t379) = true then (some false) else ((laws_toDeal.f k l0_0).bind fun t393 => ((laws_eqDeal.f k t380 t393).bind fun t396 => (if t396 = true then ((laws_toPlay.f k a1_0 a1_1 l1_2).bind fun bt397 => ((laws_eqPlay.f k bt384.1 bt384.2.1 bt384.2.2 bt397.1 bt397.2.1 bt397.2.2).bind fun t402 => (if t402 = true then (some true) else (some false)))) else (some false))))))))))))))))
theorem laws_FnExactIsClaim.mono : ∀ a0 a1 a2 a3 a4 a5 k, LeO (laws_FnExactIsClaim.f k a0 a1 a2 a3 a4 a5) (laws_FnExactIsClaim.f (k + 1) a0 a1 a2 a3 a4 a5) := by
 intro a0 a1 a2 a3 a4 a5 k
 unfold laws_FnExactIsClaim.f
 repeat' first
   | (with_reducible exact impl_IsClaim.mono _ _ _ _ _ _ _)
   | (with_reducible exact laws_eqDeal.mono _ _ _)
   | (with_reducible exact laws_eqPlay.mono _ _ _ _ _ _ _)
   | (with_reducible exact laws_szDeal.mono _ _ _)
   | (with_reducible exact laws_toDeal.mono _ _)
   | (with_reducible exact laws_toPlay.mono _ _ _ _)
   | (with_reducible exact spec_IsClaim.mono _ _ _ _ _ _ _)
   | (with_reducible exact LeO.refl _)
   | (with_reducible exact LeO.none _)
   | (with_reducible refine LeO.ite ?_ ?_)
   | (with_reducible refine LeO.bind ?_ (fun _=>?_))
   | exact impl_IsClaim.mono _ _ _ _ _ _ _
   | exact laws_eqDeal.mono _ _ _
   | exact laws_eqPlay.mono _ _ _ _ _ _ _
   | exact laws_szDeal.mono _ _ _
   | exact laws_toDeal.mono _ _
   | exact laws_toPlay.mono _ _ _ _
   | exact spec_IsClaim.mono _ _ _ _ _ _ _
   | exact LeO.none _
   | refine LeO.ite ?_ ?_
   | refine LeO.bind ?_ (fun _=>?_)
def laws_FnExactIsClaim.T8 : Bool × List (List Nat × List Nat) := (true, [([], []), ([0], [0]), ([], []), ([2, 1], [2]), ([], []), ([4, 3], [4]), ([1, 3, 5, 5], [1, 3, 5]), ([6, 6, 0, 1, 2, 3, 4, 5, 6], [6])])
def laws_FnExactIsClaim.B8 : List Nat := [0, 1, 0, 7, 0, 31, 63, 127]
theorem laws_FnExactIsClaim.tab8 : rtab .any (opsOf Try.f11 8) = laws_FnExactIsClaim.T8 := by kernel_rfl
theorem laws_FnExactIsClaim.bits8 : waitsOk laws_FnExactIsClaim.T8.2 laws_FnExactIsClaim.B8 = true := by kernel_rfl
set_option maxHeartbeats 8000000 in
set_option maxRecDepth 100000 in
theorem laws_FnExactIsClaim.calls (k : Nat) (A0_0 : Option Addr) (c0_0 : Nat) (l0_0 : List (List Int)) (a1_0 : Int) (a1_1 : Int) (A1_2 : Option Addr) (c1_2 : Nat) (l1_2 : List Int) (a2_0 : Int) (a2_1 : Int) (r : Bool) (w : World) (hr0_0 : Kd.C (Kd.slice 2 (Kd.int .i64)) w A0_0 l0_0.length l0_0) (hc0_0 : l0_0.length ≤ c0_0) (hr1_2 : Kd.C (Kd.int .i64) w A1_2 l1_2.length l1_2) (hc1_2 : l1_2.length ≤ c1_2) (h : laws_FnExactIsClaim.f k l0_0 a1_0 a1_1 l1_2 a2_0 a2_1 = some r) :
  Calls Try.prog 11 #[.agg #[.slice A0_0 l0_0.length c0_0],.agg #[.int .i64 a1_0,.int .i64 a1_1,.slice A1_2 l1_2.length c1_2],.agg #[.int .i64 a2_0,.int .i64 a2_1]] w fun e w'=>e = .returned (.bool r) ∧ Below w.heap.size w w':=by
 have hu41:=Try.underlying41
 have hu24:=Try.underlying24
 have hu50:=Try.underlying50
 have hu44:=Try.underlying44
 have hu27:=Try.underlying27
 have HR0_0:=aK hr0_0
 have HC0_0:=aK hc0_0
 clear hr0_0 hc0_0
 have HR1_2:=aK hr1_2
 have HC1_2:=aK hc1_2
 clear hr1_2 hc1_2
 have HB:=aK (Below.refl w.heap.size w)
 have H : ((laws_szDeal.f k l0_0 1048576).bind fun t367=>(if t367 < 0 then (some true) else ((laws_szPlay.f a1_0 a1_1 l1_2 t367).bind fun t368=>(if t368 < 0 then (some true) else ((laws_toDeal.f k l0_0).bind fun t369=>((laws_toPlay.f k a1_0 a1_1 l1_2).bind fun bt372=>((laws_toClaim.f a2_0 a2_1).bind fun bt377=>((spec_IsClaim.f k t369 bt372.1 bt372.2.1 bt372.2.2 bt377.1 bt377.2).bind fun t379=>((laws_toDeal.f k l0_0).bind fun t380=>((laws_toPlay.f k a1_0 a1_1 l1_2).bind fun bt384=>((laws_toClaim.f a2_0 a2_1).bind fun bt390=>((impl_IsClaim.f k t380 bt384.1 bt384.2.1 bt384.2.2 bt390.1 bt390.2).bind fun t392=>(if (t392 != t379) = true then (some false) else ((laws_toDeal.f k l0_0).bind fun t393=>((laws_eqDeal.f k t380 t393).bind fun t396=>(if t396 = true then ((laws_toPlay.f k a1_0 a1_1 l1_2).bind fun bt397=>((laws_eqPlay.f k bt384.1 bt384.2.1 bt384.2.2 bt397.1 bt397.2.1 bt397.2.2).bind fun t402=>(if t402 = true then (some true) else (some false)))) else (some false))))))))))))))))) = some r:=h
 clear h
 replace H:=Option.bind_eq_some_iff.mp H
 obtain ⟨t367,A40,H⟩:=H
 replace H : (if t367 < 0 then (some true) else ((laws_szPlay.f a1_0 a1_1 l1_2 t367).bind fun t368=>(if t368 < 0 then (some true) else ((laws_toDeal.f k l0_0).bind fun t369=>((laws_toPlay.f k a1_0 a1_1 l1_2).bind fun bt372=>((laws_toClaim.f a2_0 a2_1).bind fun bt377=>((spec_IsClaim.f k t369 bt372.1 bt372.2.1 bt372.2.2 bt377.1 bt377.2).bind fun t379=>((laws_toDeal.f k l0_0).bind fun t380=>((laws_toPlay.f k a1_0 a1_1 l1_2).bind fun bt384=>((laws_toClaim.f a2_0 a2_1).bind fun bt390=>((impl_IsClaim.f k t380 bt384.1 bt384.2.1 bt384.2.2 bt390.1 bt390.2).bind fun t392=>(if (t392 != t379) = true then (some false) else ((laws_toDeal.f k l0_0).bind fun t393=>((laws_eqDeal.f k t380 t393).bind fun t396=>(if t396 = true then ((laws_toPlay.f k a1_0 a1_1 l1_2).bind fun bt397=>((laws_eqPlay.f k bt384.1 bt384.2.1 bt384.2.2 bt397.1 bt397.2.1 bt397.2.2).bind fun t402=>(if t402 = true then (some true) else (some false)))) else (some false)))))))))))))))) = some r:=H
 have A4:=aK A40
 clear A40
 by_cases c5 : t367 < 0
 ·rw [if_pos c5] at H
  have c5b0 : decide (t367 < 0) = true:=decide_eq_true c5
  clear c5
  obtain rfl:=Option.some.inj H
  go_enter Try.func11,Try.ntmps11
  go_wp2_with (first|((with_reducible refine gate_dst (N:=3) rfl ?_);refine box_event ?hg (N:=3) ?hd (cs:=#[.slice A0_0 l0_0.length c0_0]) (t:=41) ?hr ?_;(case hd=>rfl);(case hg=>rfl);(case hr=>first|(go_simp;done)|(go_simp;rfl));intro gb364 hg w6 hbox hb;have n0_:=aK (below_step (bW HB.out) hb);have n1_:=aK (hbox);have n2_:=aK ((by rw [hg];exact (below_size (bW HB.out)) : w.heap.size ≤ gb364));have n3_:=aK ((by rw [hg];exact (below_size (bW HB.out)) : w.heap.size ≤ gb364));clear HB;have HB:=n0_;have BK364:=n1_;have GW364:=n2_;have GE364:=n3_;clear n0_ n1_ n2_ n3_;clear hb hbox hg)|((with_reducible refine gate_dst (N:=4) rfl ?_);refine box_event ?hg (N:=4) ?hd (cs:=#[.int .i64 a1_0,.int .i64 a1_1,.slice A1_2 l1_2.length c1_2]) (t:=24) ?hr ?_;(case hd=>rfl);(case hg=>rfl);(case hr=>first|(go_simp;done)|(go_simp;rfl));intro gb365 hg w7 hbox hb;have n0_:=aK (bB (bX BK364.out) hb);have n1_:=aK (below_step (bW HB.out) hb);have n2_:=aK (hbox);have n3_:=aK ((by rw [hg];exact (below_size (bW HB.out)) : w.heap.size ≤ gb365));have n4_:=aK ((by rw [hg];exact (below_size (bW HB.out)) : w.heap.size ≤ gb365));have n5_:=aK ((by rw [hg];exact Nat.ne_of_lt (blk_lt (bX BK364.out)) : gb364 ≠ gb365));have n6_:=aK ((by rw [hg];exact Nat.ne_of_gt (blk_lt (bX BK364.out)) : gb365 ≠ gb364));clear BK364;clear HB;have BK364:=n0_;have HB:=n1_;have BK365:=n2_;have GW365:=n3_;have GE365:=n4_;have NB364_365:=n5_;have NB365_364:=n6_;clear n0_ n1_ n2_ n3_ n4_ n5_ n6_;clear hb hbox hg)|((with_reducible refine gate_dst (N:=5) rfl ?_);refine box_event ?hg (N:=5) ?hd (cs:=#[.int .i64 a2_0,.int .i64 a2_1]) (t:=50) ?hr ?_;(case hd=>rfl);(case hg=>rfl);(case hr=>first|(go_simp;done)|(go_simp;rfl));intro gb366 hg w8 hbox hb;have n0_:=aK (bB (bX BK364.out) hb);have n1_:=aK (bB (bX BK365.out) hb);have n2_:=aK (below_step (bW HB.out) hb);have n3_:=aK (hbox);have n4_:=aK ((by rw [hg];exact (below_size (bW HB.out)) : w.heap.size ≤ gb366));have n5_:=aK ((by rw [hg];exact (below_size (bW HB.out)) : w.heap.size ≤ gb366));have n6_:=aK ((by rw [hg];exact Nat.ne_of_lt (blk_lt (bX BK364.out)) : gb364 ≠ gb366));have n7_:=aK ((by rw [hg];exact Nat.ne_of_gt (blk_lt (bX BK364.out)) : gb366 ≠ gb364));have n8_:=aK ((by rw [hg];exact Nat.ne_of_lt (blk_lt (bX BK365.out)) : gb365 ≠ gb366));have n9_:=aK ((by rw [hg];exact Nat.ne_of_gt (blk_lt (bX BK365.out)) : gb366 ≠ gb365));clear BK364;clear BK365;clear HB;have BK364:=n0_;have BK365:=n1_;have HB:=n2_;have BK366:=n3_;have GW366:=n4_;have GE366:=n5_;have NB364_366:=n6_;have NB366_364:=n7_;have NB365_366:=n8_;have NB366_365:=n9_;clear n0_ n1_ n2_ n3_ n4_ n5_ n6_ n7_ n8_ n9_;clear hb hbox hg;have hnb9:=NB364_365.out;have hnc9:=NB365_364.out;have hnb10:=NB364_366.out;have hnc10:=NB366_364.out;have hcz11_0 : w8.cell? ⟨gb364,0,none⟩ = some (.slice A0_0 l0_0.length c0_0):=(bC BK364.out 0).trans rfl;have hfz11_0:=blk_frozen BK364.out 0)|((with_reducible refine gate_callee (f:=40) rfl ?_);refine goesL_ (some 14) rfl rfl Try.func40 (by kernel_rfl) rfl #[.agg #[.slice A0_0 l0_0.length c0_0],.int .i64 1048576] rfl (by (try simp only [mA,mC,mN]);first|done|rfl) ?_;(with_reducible refine (laws_szDeal.calls k _ _ l0_0 1048576 t367 _ ?side1 ?side2 A4.out).mono ?_);(case side1=>repeat (first|exact (Kd.C_below HR0_0.out HB.out)|(with_reducible refine Kd.C_alloc ?_ _)|(with_reducible refine Kd.C_drewN ?_ _)|(with_reducible refine Kd.C_drew ?_)));(case side2=>exact HC0_0.out);rintro e w12 ⟨rfl,hb⟩;refine ⟨_,rfl,?_⟩;have n0_:=aK (bB (bX BK364.out) hb);have n1_:=aK (bB (bX BK365.out) hb);have n2_:=aK (bB (bX BK366.out) hb);have n3_:=aK (below_step (bW HB.out) hb);clear BK364;clear BK365;clear BK366;clear HB;have BK364:=n0_;have BK365:=n1_;have BK366:=n2_;have HB:=n3_;clear n0_ n1_ n2_ n3_;(try clear hb);(try clear hb2);(try clear hk);(try clear hi)))
  go_ret
  exact ⟨by first|rfl|(simp [errW_none,errW_some] <;> rfl)|(simp [*,errW_none,errW_some] <;> rfl),bW HB.out⟩
 ·rw [if_neg c5] at H
  have c5b0 : decide (t367 < 0) = false:=decide_eq_false c5
  clear c5
  replace H:=Option.bind_eq_some_iff.mp H
  obtain ⟨t368,A130,H⟩:=H
  replace H : (if t368 < 0 then (some true) else ((laws_toDeal.f k l0_0).bind fun t369=>((laws_toPlay.f k a1_0 a1_1 l1_2).bind fun bt372=>((laws_toClaim.f a2_0 a2_1).bind fun bt377=>((spec_IsClaim.f k t369 bt372.1 bt372.2.1 bt372.2.2 bt377.1 bt377.2).bind fun t379=>((laws_toDeal.f k l0_0).bind fun t380=>((laws_toPlay.f k a1_0 a1_1 l1_2).bind fun bt384=>((laws_toClaim.f a2_0 a2_1).bind fun bt390=>((impl_IsClaim.f k t380 bt384.1 bt384.2.1 bt384.2.2 bt390.1 bt390.2).bind fun t392=>(if (t392 != t379) = true then (some false) else ((laws_toDeal.f k l0_0).bind fun t393=>((laws_eqDeal.f k t380 t393).bind fun t396=>(if t396 = true then ((laws_toPlay.f k a1_0 a1_1 l1_2).bind fun bt397=>((laws_eqPlay.f k bt384.1 bt384.2.1 bt384.2.2 bt397.1 bt397.2.1 bt397.2.2).bind fun t402=>(if t402 = true then (some true) else (some false)))) else (some false)))))))))))))) = some r:=H
  have A13:=aK A130
  clear A130
  by_cases c14 : t368 < 0
  ·rw [if_pos c14] at H
   have c14b0 : decide (t368 < 0) = true:=decide_eq_true c14
   clear c14
   obtain rfl:=Option.some.inj H
   go_enter Try.func11,Try.ntmps11
   go_wp2_with (first|((with_reducible refine gate_dst (N:=3) rfl ?_);refine box_event ?hg (N:=3) ?hd (cs:=#[.slice A0_0 l0_0.length c0_0]) (t:=41) ?hr ?_;(case hd=>rfl);(case hg=>rfl);(case hr=>first|(go_simp;done)|(go_simp;rfl));intro gb364 hg w15 hbox hb;have n0_:=aK (below_step (bW HB.out) hb);have n1_:=aK (hbox);have n2_:=aK ((by rw [hg];exact (below_size (bW HB.out)) : w.heap.size ≤ gb364));have n3_:=aK ((by rw [hg];exact (below_size (bW HB.out)) : w.heap.size ≤ gb364));clear HB;have HB:=n0_;have BK364:=n1_;have GW364:=n2_;have GE364:=n3_;clear n0_ n1_ n2_ n3_;clear hb hbox hg)|((with_reducible refine gate_dst (N:=4) rfl ?_);refine box_event ?hg (N:=4) ?hd (cs:=#[.int .i64 a1_0,.int .i64 a1_1,.slice A1_2 l1_2.length c1_2]) (t:=24) ?hr ?_;(case hd=>rfl);(case hg=>rfl);(case hr=>first|(go_simp;done)|(go_simp;rfl));intro gb365 hg w16 hbox hb;have n0_:=aK (bB (bX BK364.out) hb);have n1_:=aK (below_step (bW HB.out) hb);have n2_:=aK (hbox);have n3_:=aK ((by rw [hg];exact (below_size (bW HB.out)) : w.heap.size ≤ gb365));have n4_:=aK ((by rw [hg];exact (below_size (bW HB.out)) : w.heap.size ≤ gb365));have n5_:=aK ((by rw [hg];exact Nat.ne_of_lt (blk_lt (bX BK364.out)) : gb364 ≠ gb365));have n6_:=aK ((by rw [hg];exact Nat.ne_of_gt (blk_lt (bX BK364.out)) : gb365 ≠ gb364));clear BK364;clear HB;have BK364:=n0_;have HB:=n1_;have BK365:=n2_;have GW365:=n3_;have GE365:=n4_;have NB364_365:=n5_;have NB365_364:=n6_;clear n0_ n1_ n2_ n3_ n4_ n5_ n6_;clear hb hbox hg)|((with_reducible refine gate_dst (N:=5) rfl ?_);refine box_event ?hg (N:=5) ?hd (cs:=#[.int .i64 a2_0,.int .i64 a2_1]) (t:=50) ?hr ?_;(case hd=>rfl);(case hg=>rfl);(case hr=>first|(go_simp;done)|(go_simp;rfl));intro gb366 hg w17 hbox hb;have n0_:=aK (bB (bX BK364.out) hb);have n1_:=aK (bB (bX BK365.out) hb);have n2_:=aK (below_step (bW HB.out) hb);have n3_:=aK (hbox);have n4_:=aK ((by rw [hg];exact (below_size (bW HB.out)) : w.heap.size ≤ gb366));have n5_:=aK ((by rw [hg];exact (below_size (bW HB.out)) : w.heap.size ≤ gb366));have n6_:=aK ((by rw [hg];exact Nat.ne_of_lt (blk_lt (bX BK364.out)) : gb364 ≠ gb366));have n7_:=aK ((by rw [hg];exact Nat.ne_of_gt (blk_lt (bX BK364.out)) : gb366 ≠ gb364));have n8_:=aK ((by rw [hg];exact Nat.ne_of_lt (blk_lt (bX BK365.out)) : gb365 ≠ gb366));have n9_:=aK ((by rw [hg];exact Nat.ne_of_gt (blk_lt (bX BK365.out)) : gb366 ≠ gb365));clear BK364;clear BK365;clear HB;have BK364:=n0_;have BK365:=n1_;have HB:=n2_;have BK366:=n3_;have GW366:=n4_;have GE366:=n5_;have NB364_366:=n6_;have NB366_364:=n7_;have NB365_366:=n8_;have NB366_365:=n9_;clear n0_ n1_ n2_ n3_ n4_ n5_ n6_ n7_ n8_ n9_;clear hb hbox hg;have hnb18:=NB364_365.out;have hnc18:=NB365_364.out;have hnb19:=NB364_366.out;have hnc19:=NB366_364.out;have hcz20_0 : w17.cell? ⟨gb364,0,none⟩ = some (.slice A0_0 l0_0.length c0_0):=(bC BK364.out 0).trans rfl;have hfz20_0:=blk_frozen BK364.out 0)|((with_reducible refine gate_callee (f:=40) rfl ?_);refine goesL_ (some 14) rfl rfl Try.func40 (by kernel_rfl) rfl #[.agg #[.slice A0_0 l0_0.length c0_0],.int .i64 1048576] rfl (by (try simp only [mA,mC,mN]);first|done|rfl) ?_;(with_reducible refine (laws_szDeal.calls k _ _ l0_0 1048576 t367 _ ?side1 ?side2 A4.out).mono ?_);(case side1=>repeat (first|exact (Kd.C_below HR0_0.out HB.out)|(with_reducible refine Kd.C_alloc ?_ _)|(with_reducible refine Kd.C_drewN ?_ _)|(with_reducible refine Kd.C_drew ?_)));(case side2=>exact HC0_0.out);rintro e w21 ⟨rfl,hb⟩;refine ⟨_,rfl,?_⟩;have n0_:=aK (bB (bX BK364.out) hb);have n1_:=aK (bB (bX BK365.out) hb);have n2_:=aK (bB (bX BK366.out) hb);have n3_:=aK (below_step (bW HB.out) hb);clear BK364;clear BK365;clear BK366;clear HB;have BK364:=n0_;have BK365:=n1_;have BK366:=n2_;have HB:=n3_;clear n0_ n1_ n2_ n3_;(try clear hb);(try clear hb2);(try clear hk);(try clear hi);have hnb22:=NB365_366.out;have hnc22:=NB366_365.out;have hcz23_0 : w21.cell? ⟨gb365,0,none⟩ = some (.int .i64 a1_0):=(bC BK365.out 0).trans rfl;have hcz23_1 : w21.cell? ⟨gb365,1,none⟩ = some (.int .i64 a1_1):=(bC BK365.out 1).trans rfl;have hcz23_2 : w21.cell? ⟨gb365,2,none⟩ = some (.slice A1_2 l1_2.length c1_2):=(bC BK365.out 2).trans rfl;have hfz23_0:=blk_frozen BK365.out 0;have hfz23_1:=blk_frozen BK365.out 1;have hfz23_2:=blk_frozen BK365.out 2)|((with_reducible refine gate_callee (f:=22) rfl ?_);refine goesL_ (some 19) rfl rfl Try.func22 (by kernel_rfl) rfl #[.agg #[.int .i64 a1_0,.int .i64 a1_1,.slice A1_2 l1_2.length c1_2],.int .i64 t367] rfl (by (try simp only [mA,mC,mN]);first|done|rfl) ?_;(with_reducible refine (laws_szPlay.calls a1_0 a1_1 _ _ l1_2 t367 t368 _ ?side1 ?side2 A13.out).mono ?_);(case side1=>repeat (first|exact (Kd.C_below HR1_2.out HB.out)|(with_reducible refine Kd.C_alloc ?_ _)|(with_reducible refine Kd.C_drewN ?_ _)|(with_reducible refine Kd.C_drew ?_)));(case side2=>exact HC1_2.out);rintro e w24 ⟨rfl,hb⟩;refine ⟨_,rfl,?_⟩;have n0_:=aK (bB (bX BK364.out) hb);have n1_:=aK (bB (bX BK365.out) hb);have n2_:=aK (bB (bX BK366.out) hb);have n3_:=aK (below_step (bW HB.out) hb);clear BK364;clear BK365;clear BK366;clear HB;have BK364:=n0_;have BK365:=n1_;have BK366:=n2_;have HB:=n3_;clear n0_ n1_ n2_ n3_;(try clear hb);(try clear hb2);(try clear hk);(try clear hi)))
   go_ret
   exact ⟨by first|rfl|(simp [errW_none,errW_some] <;> rfl)|(simp [*,errW_none,errW_some] <;> rfl),bW HB.out⟩
  ·rw [if_neg c14] at H
   have c14b0 : decide (t368 < 0) = false:=decide_eq_false c14
   clear c14
   replace H:=Option.bind_eq_some_iff.mp H
   obtain ⟨t369,A250,H⟩:=H
   replace H : ((laws_toPlay.f k a1_0 a1_1 l1_2).bind fun bt372=>((laws_toClaim.f a2_0 a2_1).bind fun bt377=>((spec_IsClaim.f k t369 bt372.1 bt372.2.1 bt372.2.2 bt377.1 bt377.2).bind fun t379=>((laws_toDeal.f k l0_0).bind fun t380=>((laws_toPlay.f k a1_0 a1_1 l1_2).bind fun bt384=>((laws_toClaim.f a2_0 a2_1).bind fun bt390=>((impl_IsClaim.f k t380 bt384.1 bt384.2.1 bt384.2.2 bt390.1 bt390.2).bind fun t392=>(if (t392 != t379) = true then (some false) else ((laws_toDeal.f k l0_0).bind fun t393=>((laws_eqDeal.f k t380 t393).bind fun t396=>(if t396 = true then ((laws_toPlay.f k a1_0 a1_1 l1_2).bind fun bt397=>((laws_eqPlay.f k bt384.1 bt384.2.1 bt384.2.2 bt397.1 bt397.2.1 bt397.2.2).bind fun t402=>(if t402 = true then (some true) else (some false)))) else (some false)))))))))))) = some r:=H
   have A25:=aK A250
   clear A250
   replace H:=Option.bind_eq_some_iff.mp H
   obtain ⟨⟨t372,t373,t374⟩,A260,H⟩:=H
   replace H : ((laws_toClaim.f a2_0 a2_1).bind fun bt377=>((spec_IsClaim.f k t369 t372 t373 t374 bt377.1 bt377.2).bind fun t379=>((laws_toDeal.f k l0_0).bind fun t380=>((laws_toPlay.f k a1_0 a1_1 l1_2).bind fun bt384=>((laws_toClaim.f a2_0 a2_1).bind fun bt390=>((impl_IsClaim.f k t380 bt384.1 bt384.2.1 bt384.2.2 bt390.1 bt390.2).bind fun t392=>(if (t392 != t379) = true then (some false) else ((laws_toDeal.f k l0_0).bind fun t393=>((laws_eqDeal.f k t380 t393).bind fun t396=>(if t396 = true then ((laws_toPlay.f k a1_0 a1_1 l1_2).bind fun bt397=>((laws_eqPlay.f k bt384.1 bt384.2.1 bt384.2.2 bt397.1 bt397.2.1 bt397.2.2).bind fun t402=>(if t402 = true then (some true) else (some false)))) else (some false))))))))))) = some r:=H
   have A26:=aK A260
   clear A260
   replace H:=Option.bind_eq_some_iff.mp H
   obtain ⟨⟨t377,t378⟩,A270,H⟩:=H
   replace H : ((spec_IsClaim.f k t369 t372 t373 t374 t377 t378).bind fun t379=>((laws_toDeal.f k l0_0).bind fun t380=>((laws_toPlay.f k a1_0 a1_1 l1_2).bind fun bt384=>((laws_toClaim.f a2_0 a2_1).bind fun bt390=>((impl_IsClaim.f k t380 bt384.1 bt384.2.1 bt384.2.2 bt390.1 bt390.2).bind fun t392=>(if (t392 != t379) = true then (some false) else ((laws_toDeal.f k l0_0).bind fun t393=>((laws_eqDeal.f k t380 t393).bind fun t396=>(if t396 = true then ((laws_toPlay.f k a1_0 a1_1 l1_2).bind fun bt397=>((laws_eqPlay.f k bt384.1 bt384.2.1 bt384.2.2 bt397.1 bt397.2.1 bt397.2.2).bind fun t402=>(if t402 = true then (some true) else (some false)))) else (some false)))))))))) = some r:=H
   have A27:=aK A270
   clear A270
   replace H:=Option.bind_eq_some_iff.mp H
   obtain ⟨t379,A280,H⟩:=H
   replace H : ((laws_toDeal.f k l0_0).bind fun t380=>((laws_toPlay.f k a1_0 a1_1 l1_2).bind fun bt384=>((laws_toClaim.f a2_0 a2_1).bind fun bt390=>((impl_IsClaim.f k t380 bt384.1 bt384.2.1 bt384.2.2 bt390.1 bt390.2).bind fun t392=>(if (t392 != t379) = true then (some false) else ((laws_toDeal.f k l0_0).bind fun t393=>((laws_eqDeal.f k t380 t393).bind fun t396=>(if t396 = true then ((laws_toPlay.f k a1_0 a1_1 l1_2).bind fun bt397=>((laws_eqPlay.f k bt384.1 bt384.2.1 bt384.2.2 bt397.1 bt397.2.1 bt397.2.2).bind fun t402=>(if t402 = true then (some true) else (some false)))) else (some false))))))))) = some r:=H
   have A28:=aK A280
   clear A280
   replace H:=Option.bind_eq_some_iff.mp H
   obtain ⟨t380,A290,H⟩:=H
   replace H : ((laws_toPlay.f k a1_0 a1_1 l1_2).bind fun bt384=>((laws_toClaim.f a2_0 a2_1).bind fun bt390=>((impl_IsClaim.f k t380 bt384.1 bt384.2.1 bt384.2.2 bt390.1 bt390.2).bind fun t392=>(if (t392 != t379) = true then (some false) else ((laws_toDeal.f k l0_0).bind fun t393=>((laws_eqDeal.f k t380 t393).bind fun t396=>(if t396 = true then ((laws_toPlay.f k a1_0 a1_1 l1_2).bind fun bt397=>((laws_eqPlay.f k bt384.1 bt384.2.1 bt384.2.2 bt397.1 bt397.2.1 bt397.2.2).bind fun t402=>(if t402 = true then (some true) else (some false)))) else (some false)))))))) = some r:=H
   have A29:=aK A290
   clear A290
   replace H:=Option.bind_eq_some_iff.mp H
   obtain ⟨⟨t384,t385,t386⟩,A300,H⟩:=H
   replace H : ((laws_toClaim.f a2_0 a2_1).bind fun bt390=>((impl_IsClaim.f k t380 t384 t385 t386 bt390.1 bt390.2).bind fun t392=>(if (t392 != t379) = true then (some false) else ((laws_toDeal.f k l0_0).bind fun t393=>((laws_eqDeal.f k t380 t393).bind fun t396=>(if t396 = true then ((laws_toPlay.f k a1_0 a1_1 l1_2).bind fun bt397=>((laws_eqPlay.f k t384 t385 t386 bt397.1 bt397.2.1 bt397.2.2).bind fun t402=>(if t402 = true then (some true) else (some false)))) else (some false))))))) = some r:=H
   have A30:=aK A300
   clear A300
   replace H:=Option.bind_eq_some_iff.mp H
   obtain ⟨⟨t390,t391⟩,A310,H⟩:=H
   replace H : ((impl_IsClaim.f k t380 t384 t385 t386 t390 t391).bind fun t392=>(if (t392 != t379) = true then (some false) else ((laws_toDeal.f k l0_0).bind fun t393=>((laws_eqDeal.f k t380 t393).bind fun t396=>(if t396 = true then ((laws_toPlay.f k a1_0 a1_1 l1_2).bind fun bt397=>((laws_eqPlay.f k t384 t385 t386 bt397.1 bt397.2.1 bt397.2.2).bind fun t402=>(if t402 = true then (some true) else (some false)))) else (some false)))))) = some r:=H
   have A31:=aK A310
   clear A310
   replace H:=Option.bind_eq_some_iff.mp H
   obtain ⟨t392,A320,H⟩:=H
   replace H : (if (t392 != t379) = true then (some false) else ((laws_toDeal.f k l0_0).bind fun t393=>((laws_eqDeal.f k t380 t393).bind fun t396=>(if t396 = true then ((laws_toPlay.f k a1_0 a1_1 l1_2).bind fun bt397=>((laws_eqPlay.f k t384 t385 t386 bt397.1 bt397.2.1 bt397.2.2).bind fun t402=>(if t402 = true then (some true) else (some false)))) else (some false))))) = some r:=H
   have A32:=aK A320
   clear A320
   by_cases c33 : (t392 != t379) = true
   ·rw [if_pos c33] at H
    have c33b0 : (t392 != t379) = true:=c33
    (try (have c33b1 : decide (t392 = t379) = false:=by simpa using c33))
    (try (have c33b2 : (t392 == t379) = false:=by simpa using c33))
    (try (have c33b3 : ¬ (t392 = t379):=by simpa using c33))
    clear c33
    obtain rfl:=Option.some.inj H
    go_enter Try.func11,Try.ntmps11
    try go_wp2_with (first|((with_reducible refine gate_dst (N:=3) rfl ?_);refine box_event ?hg (N:=3) ?hd (cs:=#[.slice A0_0 l0_0.length c0_0]) (t:=41) ?hr ?_;(case hd=>rfl);(case hg=>rfl);(case hr=>first|(go_simp;done)|(go_simp;rfl));intro gb364 hg w34 hbox hb;have n0_:=aK (below_step (bW HB.out) hb);have n1_:=aK (hbox);have n2_:=aK ((by rw [hg];exact (below_size (bW HB.out)) : w.heap.size ≤ gb364));have n3_:=aK ((by rw [hg];exact (below_size (bW HB.out)) : w.heap.size ≤ gb364));clear HB;have HB:=n0_;have BK364:=n1_;have GW364:=n2_;have GE364:=n3_;clear n0_ n1_ n2_ n3_;clear hb hbox hg)|((with_reducible refine gate_dst (N:=4) rfl ?_);refine box_event ?hg (N:=4) ?hd (cs:=#[.int .i64 a1_0,.int .i64 a1_1,.slice A1_2 l1_2.length c1_2]) (t:=24) ?hr ?_;(case hd=>rfl);(case hg=>rfl);(case hr=>first|(go_simp;done)|(go_simp;rfl));intro gb365 hg w35 hbox hb;have n0_:=aK (bB (bX BK364.out) hb);have n1_:=aK (below_step (bW HB.out) hb);have n2_:=aK (hbox);have n3_:=aK ((by rw [hg];exact (below_size (bW HB.out)) : w.heap.size ≤ gb365));have n4_:=aK ((by rw [hg];exact (below_size (bW HB.out)) : w.heap.size ≤ gb365));have n5_:=aK ((by rw [hg];exact Nat.ne_of_lt (blk_lt (bX BK364.out)) : gb364 ≠ gb365));have n6_:=aK ((by rw [hg];exact Nat.ne_of_gt (blk_lt (bX BK364.out)) : gb365 ≠ gb364));clear BK364;clear HB;have BK364:=n0_;have HB:=n1_;have BK365:=n2_;have GW365:=n3_;have GE365:=n4_;have NB364_365:=n5_;have NB365_364:=n6_;clear n0_ n1_ n2_ n3_ n4_ n5_ n6_;clear hb hbox hg)|((with_reducible refine gate_dst (N:=5) rfl ?_);refine box_event ?hg (N:=5) ?hd (cs:=#[.int .i64 a2_0,.int .i64 a2_1]) (t:=50) ?hr ?_;(case hd=>rfl);(case hg=>rfl);(case hr=>first|(go_simp;done)|(go_simp;rfl));intro gb366 hg w36 hbox hb;have n0_:=aK (bB (bX BK364.out) hb);have n1_:=aK (bB (bX BK365.out) hb);have n2_:=aK (below_step (bW HB.out) hb);have n3_:=aK (hbox);have n4_:=aK ((by rw [hg];exact (below_size (bW HB.out)) : w.heap.size ≤ gb366));have n5_:=aK ((by rw [hg];exact (below_size (bW HB.out)) : w.heap.size ≤ gb366));have n6_:=aK ((by rw [hg];exact Nat.ne_of_lt (blk_lt (bX BK364.out)) : gb364 ≠ gb366));have n7_:=aK ((by rw [hg];exact Nat.ne_of_gt (blk_lt (bX BK364.out)) : gb366 ≠ gb364));have n8_:=aK ((by rw [hg];exact Nat.ne_of_lt (blk_lt (bX BK365.out)) : gb365 ≠ gb366));have n9_:=aK ((by rw [hg];exact Nat.ne_of_gt (blk_lt (bX BK365.out)) : gb366 ≠ gb365));clear BK364;clear BK365;clear HB;have BK364:=n0_;have BK365:=n1_;have HB:=n2_;have BK366:=n3_;have GW366:=n4_;have GE366:=n5_;have NB364_366:=n6_;have NB366_364:=n7_;have NB365_366:=n8_;have NB366_365:=n9_;clear n0_ n1_ n2_ n3_ n4_ n5_ n6_ n7_ n8_ n9_;clear hb hbox hg;have hnb37:=NB364_365.out;have hnc37:=NB365_364.out;have hnb38:=NB364_366.out;have hnc38:=NB366_364.out;have hcz39_0 : w36.cell? ⟨gb364,0,none⟩ = some (.slice A0_0 l0_0.length c0_0):=(bC BK364.out 0).trans rfl;have hfz39_0:=blk_frozen BK364.out 0)|((with_reducible refine gate_callee (f:=40) rfl ?_);refine goesL_ (some 14) rfl rfl Try.func40 (by kernel_rfl) rfl #[.agg #[.slice A0_0 l0_0.length c0_0],.int .i64 1048576] rfl (by (try simp only [mA,mC,mN]);first|done|rfl) ?_;(with_reducible refine (laws_szDeal.calls k _ _ l0_0 1048576 t367 _ ?side1 ?side2 A4.out).mono ?_);(case side1=>repeat (first|exact (Kd.C_below HR0_0.out HB.out)|(with_reducible refine Kd.C_alloc ?_ _)|(with_reducible refine Kd.C_drewN ?_ _)|(with_reducible refine Kd.C_drew ?_)));(case side2=>exact HC0_0.out);rintro e w40 ⟨rfl,hb⟩;refine ⟨_,rfl,?_⟩;have n0_:=aK (bB (bX BK364.out) hb);have n1_:=aK (bB (bX BK365.out) hb);have n2_:=aK (bB (bX BK366.out) hb);have n3_:=aK (below_step (bW HB.out) hb);clear BK364;clear BK365;clear BK366;clear HB;have BK364:=n0_;have BK365:=n1_;have BK366:=n2_;have HB:=n3_;clear n0_ n1_ n2_ n3_;(try clear hb);(try clear hb2);(try clear hk);(try clear hi);have hnb41:=NB365_366.out;have hnc41:=NB366_365.out;have hcz42_0 : w40.cell? ⟨gb365,0,none⟩ = some (.int .i64 a1_0):=(bC BK365.out 0).trans rfl;have hcz42_1 : w40.cell? ⟨gb365,1,none⟩ = some (.int .i64 a1_1):=(bC BK365.out 1).trans rfl;have hcz42_2 : w40.cell? ⟨gb365,2,none⟩ = some (.slice A1_2 l1_2.length c1_2):=(bC BK365.out 2).trans rfl;have hfz42_0:=blk_frozen BK365.out 0;have hfz42_1:=blk_frozen BK365.out 1;have hfz42_2:=blk_frozen BK365.out 2)|((with_reducible refine gate_callee (f:=22) rfl ?_);refine goesL_ (some 19) rfl rfl Try.func22 (by kernel_rfl) rfl #[.agg #[.int .i64 a1_0,.int .i64 a1_1,.slice A1_2 l1_2.length c1_2],.int .i64 t367] rfl (by (try simp only [mA,mC,mN]);first|done|rfl) ?_;(with_reducible refine (laws_szPlay.calls a1_0 a1_1 _ _ l1_2 t367 t368 _ ?side1 ?side2 A13.out).mono ?_);(case side1=>repeat (first|exact (Kd.C_below HR1_2.out HB.out)|(with_reducible refine Kd.C_alloc ?_ _)|(with_reducible refine Kd.C_drewN ?_ _)|(with_reducible refine Kd.C_drew ?_)));(case side2=>exact HC1_2.out);rintro e w43 ⟨rfl,hb⟩;refine ⟨_,rfl,?_⟩;have n0_:=aK (bB (bX BK364.out) hb);have n1_:=aK (bB (bX BK365.out) hb);have n2_:=aK (bB (bX BK366.out) hb);have n3_:=aK (below_step (bW HB.out) hb);clear BK364;clear BK365;clear BK366;clear HB;have BK364:=n0_;have BK365:=n1_;have BK366:=n2_;have HB:=n3_;clear n0_ n1_ n2_ n3_;(try clear hb);(try clear hb2);(try clear hk);(try clear hi)))
    have n0_:=aK (bD BK364.out)
    have n1_:=aK (bD BK365.out)
    have n2_:=aK (bD BK366.out)
    have n3_:=aK (b1 HB.out)
    clear BK364
    clear BK365
    clear BK366
    clear HB
    have BK364:=n0_
    have BK365:=n1_
    have BK366:=n2_
    have HB:=n3_
    clear n0_ n1_ n2_ n3_
    refine start_ (n:=8) (S:=fun w'=>w'.cell? ⟨gb364,0,none⟩ = some (.slice A0_0 l0_0.length c0_0) ∧ w'.cell? ⟨gb365,0,none⟩ = some (.int .i64 a1_0) ∧ w'.cell? ⟨gb365,1,none⟩ = some (.int .i64 a1_1) ∧ w'.cell? ⟨gb365,2,none⟩ = some (.slice A1_2 l1_2.length c1_2) ∧ w'.cell? ⟨gb366,0,none⟩ = some (.int .i64 a2_0) ∧ w'.cell? ⟨gb366,1,none⟩ = some (.int .i64 a2_1)) (ds:=[]) #[false,false,false,false,false,false,false,false] (by kernel_rfl) rfl rfl ⟨(bC BK364.out 0).trans rfl,(bC BK365.out 0).trans rfl,(bC BK365.out 1).trans rfl,(bC BK365.out 2).trans rfl,(bC BK366.out 0).trans rfl,(bC BK366.out 1).trans rfl⟩ (fun hHeld=>?_);refine with_tabW laws_FnExactIsClaim.tab8 laws_FnExactIsClaim.bits8 (fun HT_ HW_=>?_)
    generalize w43.drew = w44 at BK364 BK365 BK366 HB hHeld ⊢
    refine take_ (i:=0) (N:=some 22) (v:=?_) (a':=?_) #[true,false,false,false,false,false,false,false] rfl rfl (take_ofW HT_.out HW_.out (by kernel_rfl)) (fun _ _ _ h=>h) (Or.inl ⟨by rfl,?_⟩) hHeld ?_ ?_
    rotate_left
    ·rintro w' ⟨s0,s1,s2,s3,s4,s5⟩
     go_simp
     with_reducible rfl
    rotate_left
    ·simp only [Act.put,lA,l0',lS,i64_w,i32_w]
     rfl
    refine take_ (i:=2) (N:=some 24) (v:=?_) (a':=?_) #[true,false,true,false,false,false,false,false] rfl rfl (take_ofW HT_.out HW_.out (by kernel_rfl)) (fun _ _ _ h=>h) (Or.inl ⟨by rfl,?_⟩) hHeld ?_ ?_
    rotate_left
    ·rintro w' ⟨s0,s1,s2,s3,s4,s5⟩
     go_simp
     with_reducible rfl
    rotate_left
    ·simp only [Act.put,lA,l0',lS,i64_w,i32_w]
     rfl
    refine take_ (i:=4) (N:=some 26) (v:=?_) (a':=?_) #[true,false,true,false,true,false,false,false] rfl rfl (take_ofW HT_.out HW_.out (by kernel_rfl)) (fun _ _ _ h=>h) (Or.inl ⟨by rfl,?_⟩) hHeld ?_ ?_
    rotate_left
    ·rintro w' ⟨s0,s1,s2,s3,s4,s5⟩
     go_simp
     with_reducible rfl
    rotate_left
    ·simp only [Act.put,lA,l0',lS,i64_w,i32_w]
     rfl
    refine one_ (i:=1) (N:=some 23) #[true,true,true,false,true,false,false,false] rfl rfl (one_of HT_.out (by kernel_rfl)) (by decide) (fun K hK=>?_)
    refine goes_ Try.func42 (by kernel_rfl) rfl #[.agg #[.slice A0_0 l0_0.length c0_0]] (by rfl) rfl rfl (by (try simp only [mA,mC,mN]);first|done|rfl) ?_
    with_reducible refine (laws_toDeal.calls k _ _ l0_0 t369 _ ?side1 ?side2 A25.out).mono ?_
    (case side1=>repeat (first|exact (Kd.C_below HR0_0.out HB.out)|(with_reducible refine Kd.C_alloc ?_ _)|(with_reducible refine Kd.C_drewN ?_ _)|(with_reducible refine Kd.C_drew ?_)))
    (case side2=>exact HC0_0.out)
    rintro e w45 ⟨v370,rfl,ho0,hb⟩
    refine ⟨_,rfl,?_⟩
    have n0_:=aK (Kd.S_lower ho0 (below_size (bW HB.out)))
    have n1_:=aK (bB (bX BK364.out) hb)
    have n2_:=aK (bB (bX BK365.out) hb)
    have n3_:=aK (bB (bX BK366.out) hb)
    have n4_:=aK (below_step (bW HB.out) hb)
    clear BK364
    clear BK365
    clear BK366
    clear HB
    have HO371:=n0_
    have BK364:=n1_
    have BK365:=n2_
    have BK366:=n3_
    have HB:=n4_
    clear n0_ n1_ n2_ n3_ n4_
    (try clear hb)
    (try clear hb2)
    (try clear hk)
    (try clear hi)
    (try clear ho0)
    refine hK.out _ _ ⟨(bC BK364.out 0).trans rfl,(bC BK365.out 0).trans rfl,(bC BK365.out 1).trans rfl,(bC BK365.out 2).trans rfl,(bC BK366.out 0).trans rfl,(bC BK366.out 1).trans rfl⟩ (fun hHeld=>?_)
    clear hK K
    refine norm_ (a':=?_) ?_ ?_
    rotate_left
    ·show Act.put _ (some 23) _ = _
     simp only [Act.put,lA,l0',lS,i64_w,i32_w]
     rfl
    refine one_ (i:=3) (N:=some 25) #[true,true,true,true,true,false,false,false] rfl rfl (one_of HT_.out (by kernel_rfl)) (by decide) (fun K hK=>?_)
    refine goes_ Try.func24 (by kernel_rfl) rfl #[.agg #[.int .i64 a1_0,.int .i64 a1_1,.slice A1_2 l1_2.length c1_2]] (by rfl) rfl rfl (by (try simp only [mA,mC,mN]);first|done|rfl) ?_
    with_reducible refine (laws_toPlay.calls k a1_0 a1_1 _ _ l1_2 t372 t373 t374 _ ?side1 ?side2 A26.out).mono ?_
    (case side1=>repeat (first|exact (Kd.C_below HR1_2.out HB.out)|(with_reducible refine Kd.C_alloc ?_ _)|(with_reducible refine Kd.C_drewN ?_ _)|(with_reducible refine Kd.C_drew ?_)))
    (case side2=>exact HC1_2.out)
    rintro e w46 ⟨v375,rfl,ho0,hb⟩
    refine ⟨_,rfl,?_⟩
    have n0_:=aK (Kd.S_elder' (sX HO371.out) (Kd.R_base ho0) hb)
    have n1_:=aK (Kd.R_lower ho0 (below_size (bW HB.out)))
    have n2_:=aK (bB (bX BK364.out) hb)
    have n3_:=aK (bB (bX BK365.out) hb)
    have n4_:=aK (bB (bX BK366.out) hb)
    have n5_:=aK (below_step (bW HB.out) hb)
    clear HO371
    clear BK364
    clear BK365
    clear BK366
    clear HB
    have HO371:=n0_
    have HO376:=n1_
    have BK364:=n2_
    have BK365:=n3_
    have BK366:=n4_
    have HB:=n5_
    clear n0_ n1_ n2_ n3_ n4_ n5_
    (try clear hb)
    (try clear hb2)
    (try clear hk)
    (try clear hi)
    (try clear ho0)
    refine hK.out _ _ ⟨(bC BK364.out 0).trans rfl,(bC BK365.out 0).trans rfl,(bC BK365.out 1).trans rfl,(bC BK365.out 2).trans rfl,(bC BK366.out 0).trans rfl,(bC BK366.out 1).trans rfl⟩ (fun hHeld=>?_)
    clear hK K
    refine norm_ (a':=?_) ?_ ?_
    rotate_left
    ·show Act.put _ (some 25) _ = _
     simp only [Act.put,lA,l0',lS,i64_w,i32_w]
     rfl
    refine one_ (i:=5) (N:=some 27) #[true,true,true,true,true,true,false,false] rfl rfl (one_of HT_.out (by kernel_rfl)) (by decide) (fun K hK=>?_)
    refine goes_ Try.func50 (by kernel_rfl) rfl #[.agg #[.int .i64 a2_0,.int .i64 a2_1]] (by rfl) rfl rfl (by (try simp only [mA,mC,mN]);first|done|rfl) ?_
    with_reducible refine (laws_toClaim.calls a2_0 a2_1 t377 t378 _ A27.out).mono ?_
    rintro e w47 ⟨rfl,hb⟩
    refine ⟨_,rfl,?_⟩
    have n0_:=aK (Kd.S_below (sX HO371.out) hb)
    have n1_:=aK (Kd.R_below (rX HO376.out) hb)
    have n2_:=aK (bB (bX BK364.out) hb)
    have n3_:=aK (bB (bX BK365.out) hb)
    have n4_:=aK (bB (bX BK366.out) hb)
    have n5_:=aK (below_step (bW HB.out) hb)
    clear HO371
    clear HO376
    clear BK364
    clear BK365
    clear BK366
    clear HB
    have HO371:=n0_
    have HO376:=n1_
    have BK364:=n2_
    have BK365:=n3_
    have BK366:=n4_
    have HB:=n5_
    clear n0_ n1_ n2_ n3_ n4_ n5_
    (try clear hb)
    (try clear hb2)
    (try clear hk)
    (try clear hi)
    obtain ⟨Ao48,co48,eo48⟩:=Kd.S_slice HO371.out
    (first|subst eo48|(injection eo48 with f1_ f2_ f3_;have f4_:=f1_.symm;have f5_:=f3_.symm;clear f1_ f2_ f3_;subst f4_;subst f5_))
    obtain ⟨Ao49,co49,eo49⟩:=Kd.R_slice HO376.out
    (first|subst eo49|(injection eo49 with f1_ f2_ f3_;have f4_:=f1_.symm;have f5_:=f3_.symm;clear f1_ f2_ f3_;subst f4_;subst f5_))
    refine hK.out _ _ ⟨(bC BK364.out 0).trans rfl,(bC BK365.out 0).trans rfl,(bC BK365.out 1).trans rfl,(bC BK365.out 2).trans rfl,(bC BK366.out 0).trans rfl,(bC BK366.out 1).trans rfl⟩ (fun hHeld=>?_)
    clear hK K
    refine norm_ (a':=?_) ?_ ?_
    rotate_left
    ·show Act.put _ (some 27) _ = _
     simp only [Act.put,lA,l0',lS,i64_w,i32_w]
     rfl
    refine one_ (i:=6) (N:=some 28) #[true,true,true,true,true,true,true,false] rfl rfl (one_of HT_.out (by kernel_rfl)) (by decide) (fun K hK=>?_)
    refine goes_ Try.func49 (by kernel_rfl) rfl #[.agg #[.slice Ao48 t369.length co48],.agg #[.int .i64 t372,.int .i64 t373,.slice Ao49 t374.length co49],.agg #[.int .i64 t377,.int .i64 t378]] (by rfl) rfl rfl (by (try simp only [mA,mC,mN]);first|done|rfl) ?_
    with_reducible refine (spec_IsClaim.calls k _ _ t369 t372 t373 _ _ t374 t377 t378 t379 _ ?side1 ?side2 ?side3 ?side4 A28.out).mono ?_
    (case side1=>repeat (first|exact (Kd.S_reads' HO371.out).2.2|(with_reducible refine Kd.C_alloc ?_ _)|(with_reducible refine Kd.C_drewN ?_ _)|(with_reducible refine Kd.C_drew ?_)))
    (case side2=>exact (Kd.S_reads' HO371.out).2.1)
    (case side3=>repeat (first|exact (Kd.R_reads' HO376.out).2.2|(with_reducible refine Kd.C_alloc ?_ _)|(with_reducible refine Kd.C_drewN ?_ _)|(with_reducible refine Kd.C_drew ?_)))
    (case side4=>exact (Kd.R_reads' HO376.out).2.1)
    rintro e w50 ⟨rfl,hb⟩
    refine ⟨_,rfl,?_⟩
    have n0_:=aK (Kd.S_below (sX HO371.out) hb)
    have n1_:=aK (Kd.R_below (rX HO376.out) hb)
    have n2_:=aK (bB (bX BK364.out) hb)
    have n3_:=aK (bB (bX BK365.out) hb)
    have n4_:=aK (bB (bX BK366.out) hb)
    have n5_:=aK (below_step (bW HB.out) hb)
    clear HO371
    clear HO376
    clear BK364
    clear BK365
    clear BK366
    clear HB
    have HO371:=n0_
    have HO376:=n1_
    have BK364:=n2_
    have BK365:=n3_
    have BK366:=n4_
    have HB:=n5_
    clear n0_ n1_ n2_ n3_ n4_ n5_
    (try clear hb)
    (try clear hb2)
    (try clear hk)
    (try clear hi)
    refine hK.out _ _ ⟨(bC BK364.out 0).trans rfl,(bC BK365.out 0).trans rfl,(bC BK365.out 1).trans rfl,(bC BK365.out 2).trans rfl,(bC BK366.out 0).trans rfl,(bC BK366.out 1).trans rfl⟩ (fun hHeld=>?_)
    clear hK K
    refine norm_ (a':=?_) ?_ ?_
    rotate_left
    ·show Act.put _ (some 28) _ = _
     simp only [Act.put,lA,l0',lS,i64_w,i32_w]
     rfl
    refine pure_ (i:=7) (N:=some 8) (v:=?_) (a':=?_) #[true,true,true,true,true,true,true,true] rfl rfl (any_of HT_.out (by kernel_rfl)) (fun _ _ _ h=>h) (Or.inl ⟨by rfl,?_⟩) ?_ ?_
    rotate_left
    ·intro w'
     go_simp
     with_reducible rfl
    rotate_left
    ·simp only [Act.put,lA,l0',lS,i64_w,i32_w]
     rfl
    refine done_ (done_of HT_.out (by kernel_rfl)) ?_
    have hcz51_0 : w50.cell? ⟨gb364,0,none⟩ = some (.slice A0_0 l0_0.length c0_0):=(bC BK364.out 0).trans rfl
    have hfz51_0:=blk_frozen BK364.out 0
    try go_wp2_with (first|((with_reducible refine gate_callee (f:=42) rfl ?_);refine goesL_ (some 30) rfl rfl Try.func42 (by kernel_rfl) rfl #[.agg #[.slice A0_0 l0_0.length c0_0]] rfl (by (try simp only [mA,mC,mN]);first|done|rfl) ?_;(with_reducible refine (laws_toDeal.calls k _ _ l0_0 t380 _ ?side1 ?side2 A29.out).mono ?_);(case side1=>repeat (first|exact (Kd.C_below HR0_0.out HB.out)|(with_reducible refine Kd.C_alloc ?_ _)|(with_reducible refine Kd.C_drewN ?_ _)|(with_reducible refine Kd.C_drew ?_)));(case side2=>exact HC0_0.out);rintro e w52 ⟨v381,rfl,ho0,hb⟩;refine ⟨_,rfl,?_⟩;have n0_:=aK (Kd.S_elder' (sX HO371.out) (Kd.S_base ho0) hb);have n1_:=aK (Kd.R_below (rX HO376.out) hb);have n2_:=aK (Kd.S_lower (Kd.S_new' (Kd.S_new' ho0 (Kd.S_lt (sX HO371.out))) (Kd.R_lt (rX HO376.out))) (below_size (bW HB.out)));have n3_:=aK (bB (bX BK364.out) hb);have n4_:=aK (bB (bX BK365.out) hb);have n5_:=aK (bB (bX BK366.out) hb);have n6_:=aK (below_step (bW HB.out) hb);clear HO371;clear HO376;clear BK364;clear BK365;clear BK366;clear HB;have HO371:=n0_;have HO376:=n1_;have HO382:=n2_;have BK364:=n3_;have BK365:=n4_;have BK366:=n5_;have HB:=n6_;clear n0_ n1_ n2_ n3_ n4_ n5_ n6_;(try clear hb);(try clear hb2);(try clear hk);(try clear hi);(try clear ho0))|((with_reducible refine gate_dst (N:=9) rfl ?_);refine box_event ?hg (N:=9) ?hd (cs:=#[.slice none 0 0]) (t:=44) ?hr ?_;(case hd=>rfl);(case hg=>rfl);(case hr=>first|(go_simp;done)|(go_simp;rfl));intro gb383 hg w53 hbox hb;have n0_:=aK (Kd.S_below (sX HO371.out) hb);have n1_:=aK (Kd.R_below (rX HO376.out) hb);have n2_:=aK (Kd.S_below (sX HO382.out) hb);have n3_:=aK (bB (bX BK364.out) hb);have n4_:=aK (bB (bX BK365.out) hb);have n5_:=aK (bB (bX BK366.out) hb);have n6_:=aK (below_step (bW HB.out) hb);have n7_:=aK (hbox);have n8_:=aK ((by rw [hg];exact (below_size (bW HB.out)) : w.heap.size ≤ gb383));have n9_:=aK ((by rw [hg];exact (below_size (bW HB.out)) : w.heap.size ≤ gb383));have n10_:=aK ((by rw [hg];exact Nat.ne_of_lt (blk_lt (bX BK364.out)) : gb364 ≠ gb383));have n11_:=aK ((by rw [hg];exact Nat.ne_of_gt (blk_lt (bX BK364.out)) : gb383 ≠ gb364));have n12_:=aK ((by rw [hg];exact Nat.ne_of_lt (blk_lt (bX BK365.out)) : gb365 ≠ gb383));have n13_:=aK ((by rw [hg];exact Nat.ne_of_gt (blk_lt (bX BK365.out)) : gb383 ≠ gb365));have n14_:=aK ((by rw [hg];exact Nat.ne_of_lt (blk_lt (bX BK366.out)) : gb366 ≠ gb383));have n15_:=aK ((by rw [hg];exact Nat.ne_of_gt (blk_lt (bX BK366.out)) : gb383 ≠ gb366));clear HO371;clear HO376;clear HO382;clear BK364;clear BK365;clear BK366;clear HB;have HO371:=n0_;have HO376:=n1_;have HO382:=n2_;have BK364:=n3_;have BK365:=n4_;have BK366:=n5_;have HB:=n6_;have BK383:=n7_;have GW383:=n8_;have GE383:=n9_;have NB364_383:=n10_;have NB383_364:=n11_;have NB365_383:=n12_;have NB383_365:=n13_;have NB366_383:=n14_;have NB383_366:=n15_;clear n0_ n1_ n2_ n3_ n4_ n5_ n6_ n7_ n8_ n9_ n10_ n11_ n12_ n13_ n14_ n15_;clear hb hbox hg;obtain ⟨Ao54,co54,eo54⟩:=Kd.S_slice HO382.out;subst eo54;have hnb55:=NB383_364.out;have hnc55:=NB364_383.out;have hnb56:=NB383_365.out;have hnc56:=NB365_383.out;have hnb57:=NB383_366.out;have hnc57:=NB366_383.out;have hcz58_0 : w53.cell? ⟨gb383,0,none⟩ = some (.slice none 0 0):=(bC BK383.out 0).trans rfl;have hfz58_0:=blk_frozen BK383.out 0;have hcz59_0 : w53.cell? ⟨gb365,0,none⟩ = some (.int .i64 a1_0):=(bC BK365.out 0).trans rfl;have hcz59_1 : w53.cell? ⟨gb365,1,none⟩ = some (.int .i64 a1_1):=(bC BK365.out 1).trans rfl;have hcz59_2 : w53.cell? ⟨gb365,2,none⟩ = some (.slice A1_2 l1_2.length c1_2):=(bC BK365.out 2).trans rfl;have hfz59_0:=blk_frozen BK365.out 0;have hfz59_1:=blk_frozen BK365.out 1;have hfz59_2:=blk_frozen BK365.out 2)|((with_reducible refine gate_callee (f:=24) rfl ?_);refine goesL_ (some 32) rfl rfl Try.func24 (by kernel_rfl) rfl #[.agg #[.int .i64 a1_0,.int .i64 a1_1,.slice A1_2 l1_2.length c1_2]] rfl (by (try simp only [mA,mC,mN]);first|done|rfl) ?_;(with_reducible refine (laws_toPlay.calls k a1_0 a1_1 _ _ l1_2 t384 t385 t386 _ ?side1 ?side2 A30.out).mono ?_);(case side1=>exact Kd.C_below HR1_2.out (bW HB.out));(case side2=>exact HC1_2.out);rintro e w60 ⟨v387,rfl,ho0,hb⟩;refine ⟨_,rfl,?_⟩;have n0_:=aK (Kd.S_elder' (by (with_reducible repeat first|apply Kd.S_alloc|apply Kd.S_drewN|apply Kd.S_drew);exact (Kd.S_mono (Kd.S_far (p:=⟨gb383,0,none⟩) (Kd.S_types HO371.out BK383.out (by decide)) (fun _ hk=>by first|exact hk.2|exact aP hk) (.slice Ao54 t380.length co54)) (fun _ h_=>h_.1))) (Kd.R_base ho0) hb);have n1_:=aK (Kd.R_elder' (by (with_reducible repeat first|apply Kd.R_alloc|apply Kd.R_drewN|apply Kd.R_drew);exact (Kd.R_mono (Kd.R_far (p:=⟨gb383,0,none⟩) (Kd.R_types HO376.out BK383.out (by decide)) (fun _ hk=>by first|exact hk.2|exact aP hk) (.slice Ao54 t380.length co54)) (fun _ h_=>h_.1))) (Kd.R_base ho0) hb);have n2_:=aK (Kd.S_elder' (by (with_reducible repeat first|apply Kd.S_alloc|apply Kd.S_drewN|apply Kd.S_drew);exact (Kd.S_mono (Kd.S_far (p:=⟨gb383,0,none⟩) (Kd.S_types HO382.out BK383.out (by decide)) (fun _ hk=>by first|exact hk.2|exact aP hk) (.slice Ao54 t380.length co54)) (fun _ h_=>h_.1))) (Kd.R_base ho0) hb);have n3_:=aK (Kd.R_lower (Kd.R_new' ho0 (Kd.R_lt (by (with_reducible repeat first|apply Kd.R_alloc|apply Kd.R_drewN|apply Kd.R_drew);exact (Kd.R_mono (Kd.R_far (p:=⟨gb383,0,none⟩) (Kd.R_types HO376.out BK383.out (by decide)) (fun _ hk=>by first|exact hk.2|exact aP hk) (.slice Ao54 t380.length co54)) (fun _ h_=>h_.1))))) (below_size (bW HB.out)));have n4_:=aK (bB (g:=gb364) (o:=.cells #[.slice A0_0 l0_0.length c0_0] 41 (0,0)) (by (with_reducible repeat first|apply bN|apply bD|apply bA);refine blk_far ?_ NB364_383.out _;(with_reducible repeat first|apply bN|apply bD|apply bA);exact BK364.out) hb);have n5_:=aK (bB (g:=gb365) (o:=.cells #[.int .i64 a1_0,.int .i64 a1_1,.slice A1_2 l1_2.length c1_2] 24 (0,0)) (by (with_reducible repeat first|apply bN|apply bD|apply bA);refine blk_far ?_ NB365_383.out _;(with_reducible repeat first|apply bN|apply bD|apply bA);exact BK365.out) hb);have n6_:=aK (bB (g:=gb366) (o:=.cells #[.int .i64 a2_0,.int .i64 a2_1] 50 (0,0)) (by (with_reducible repeat first|apply bN|apply bD|apply bA);refine blk_far ?_ NB366_383.out _;(with_reducible repeat first|apply bN|apply bD|apply bA);exact BK366.out) hb);have n7_:=aK (bB (g:=gb383) (o:=.cells #[.slice Ao54 t380.length co54] 44 (0,0)) (by (with_reducible repeat first|apply bN|apply bD|apply bA);refine blk_put (cs:=#[.slice none 0 0]) ?_ 0 _ rfl;(with_reducible repeat first|apply bN|apply bD|apply bA);exact BK383.out) hb);have n8_:=aK (below_step (bW HB.out) hb);clear HO371;clear HO376;clear HO382;clear BK364;clear BK365;clear BK366;clear BK383;clear HB;have HO371:=n0_;have HO376:=n1_;have HO382:=n2_;have HO388:=n3_;have BK364:=n4_;have BK365:=n5_;have BK366:=n6_;have BK383:=n7_;have HB:=n8_;clear n0_ n1_ n2_ n3_ n4_ n5_ n6_ n7_ n8_;(try clear hb);(try clear hb2);(try clear hk);(try clear hi);(try clear ho0))|((with_reducible refine gate_dst (N:=10) rfl ?_);refine box_event ?hg (N:=10) ?hd (cs:=#[.int .i64 0,.int .i64 0,.slice none 0 0]) (t:=27) ?hr ?_;(case hd=>rfl);(case hg=>rfl);(case hr=>first|(go_simp;done)|(go_simp;rfl));intro gb389 hg w61 hbox hb;have n0_:=aK (Kd.S_below (sX HO371.out) hb);have n1_:=aK (Kd.R_below (rX HO376.out) hb);have n2_:=aK (Kd.S_below (sX HO382.out) hb);have n3_:=aK (Kd.R_below (rX HO388.out) hb);have n4_:=aK (bB (bX BK364.out) hb);have n5_:=aK (bB (bX BK365.out) hb);have n6_:=aK (bB (bX BK366.out) hb);have n7_:=aK (bB (bX BK383.out) hb);have n8_:=aK (below_step (bW HB.out) hb);have n9_:=aK (hbox);have n10_:=aK ((by rw [hg];exact (below_size (bW HB.out)) : w.heap.size ≤ gb389));have n11_:=aK ((by rw [hg];exact (below_size (bW HB.out)) : w.heap.size ≤ gb389));have n12_:=aK ((by rw [hg];exact Nat.ne_of_lt (blk_lt (bX BK364.out)) : gb364 ≠ gb389));have n13_:=aK ((by rw [hg];exact Nat.ne_of_gt (blk_lt (bX BK364.out)) : gb389 ≠ gb364));have n14_:=aK ((by rw [hg];exact Nat.ne_of_lt (blk_lt (bX BK365.out)) : gb365 ≠ gb389));have n15_:=aK ((by rw [hg];exact Nat.ne_of_gt (blk_lt (bX BK365.out)) : gb389 ≠ gb365));have n16_:=aK ((by rw [hg];exact Nat.ne_of_lt (blk_lt (bX BK366.out)) : gb366 ≠ gb389));have n17_:=aK ((by rw [hg];exact Nat.ne_of_gt (blk_lt (bX BK366.out)) : gb389 ≠ gb366));have n18_:=aK ((by rw [hg];exact Nat.ne_of_lt (blk_lt (bX BK383.out)) : gb383 ≠ gb389));have n19_:=aK ((by rw [hg];exact Nat.ne_of_gt (blk_lt (bX BK383.out)) : gb389 ≠ gb383));clear HO371;clear HO376;clear HO382;clear HO388;clear BK364;clear BK365;clear BK366;clear BK383;clear HB;have HO371:=n0_;have HO376:=n1_;have HO382:=n2_;have HO388:=n3_;have BK364:=n4_;have BK365:=n5_;have BK366:=n6_;have BK383:=n7_;have HB:=n8_;have BK389:=n9_;have GW389:=n10_;have GE389:=n11_;have NB364_389:=n12_;have NB389_364:=n13_;have NB365_389:=n14_;have NB389_365:=n15_;have NB366_389:=n16_;have NB389_366:=n17_;have NB383_389:=n18_;have NB389_383:=n19_;clear n0_ n1_ n2_ n3_ n4_ n5_ n6_ n7_ n8_ n9_ n10_ n11_ n12_ n13_ n14_ n15_ n16_ n17_ n18_ n19_;clear hb hbox hg;have hnb62:=NB389_364.out;have hnc62:=NB364_389.out;have hnb63:=NB389_365.out;have hnc63:=NB365_389.out;have hnb64:=NB389_366.out;have hnc64:=NB366_389.out;have hnb65:=NB389_383.out;have hnc65:=NB383_389.out;have hcz66_0 : w61.cell? ⟨gb389,0,none⟩ = some (.int .i64 0):=(bC BK389.out 0).trans rfl;have hcz66_1 : w61.cell? ⟨gb389,1,none⟩ = some (.int .i64 0):=(bC BK389.out 1).trans rfl;have hcz66_2 : w61.cell? ⟨gb389,2,none⟩ = some (.slice none 0 0):=(bC BK389.out 2).trans rfl;have hfz66_0:=blk_frozen BK389.out 0;have hfz66_1:=blk_frozen BK389.out 1;have hfz66_2:=blk_frozen BK389.out 2;obtain ⟨Ao67,co67,eo67⟩:=Kd.R_slice HO388.out;subst eo67))
    have n0_ : Aside0 (Kd.S (Kd.slice 2 (Kd.int .i64)) 22 (((w61.setCell ⟨gb389,0,none⟩ (.int .i64 t384)).setCell ⟨gb389,1,none⟩ (.int .i64 t385)).setCell ⟨gb389,2,none⟩ (.slice Ao67 t386.length co67)) w.heap.size (fun k_=>some k_ ≠ (.slice Ao49 t374.length co49 : Value).ownBlock ∧ some k_ ≠ (.slice Ao54 t380.length co54 : Value).ownBlock ∧ some k_ ≠ (.slice Ao67 t386.length co67 : Value).ownBlock) (.slice Ao48 t369.length co48) t369):=⟨by (with_reducible repeat first|apply Kd.S_alloc|apply Kd.S_drewN|apply Kd.S_drew);exact Kd.S_mono (Kd.S_far (p:=⟨gb389,2,none⟩) (Kd.S_far (p:=⟨gb389,1,none⟩) (Kd.S_far (p:=⟨gb389,0,none⟩) (Kd.S_types HO371.out BK389.out (by decide)) (fun _ hk=>by first|exact hk.2|exact aP hk) (.int .i64 t384)) (fun _ hk=>by first|exact hk.2|exact aP hk) (.int .i64 t385)) (fun _ hk=>by first|exact hk.2|exact aP hk) (.slice Ao67 t386.length co67)) (fun _ hk=>by first|exact ⟨hk.1.1.1.2,⟨hk.1.1.2,hk.1.2⟩⟩|exact aP hk)⟩
    have n1_ : Aside0 (Kd.R (Kd.int .i64) 2 (((w61.setCell ⟨gb389,0,none⟩ (.int .i64 t384)).setCell ⟨gb389,1,none⟩ (.int .i64 t385)).setCell ⟨gb389,2,none⟩ (.slice Ao67 t386.length co67)) w.heap.size (fun k_=>some k_ ≠ (.slice Ao67 t386.length co67 : Value).ownBlock) (.slice Ao49 t374.length co49) t374):=⟨by (with_reducible repeat first|apply Kd.R_alloc|apply Kd.R_drewN|apply Kd.R_drew);exact Kd.R_mono (Kd.R_far (p:=⟨gb389,2,none⟩) (Kd.R_far (p:=⟨gb389,1,none⟩) (Kd.R_far (p:=⟨gb389,0,none⟩) (Kd.R_types HO376.out BK389.out (by decide)) (fun _ hk=>by first|exact hk.2|exact aP hk) (.int .i64 t384)) (fun _ hk=>by first|exact hk.2|exact aP hk) (.int .i64 t385)) (fun _ hk=>by first|exact hk.2|exact aP hk) (.slice Ao67 t386.length co67)) (fun _ hk=>hk.1.2)⟩
    have n2_ : Aside0 (Kd.S (Kd.slice 2 (Kd.int .i64)) 22 (((w61.setCell ⟨gb389,0,none⟩ (.int .i64 t384)).setCell ⟨gb389,1,none⟩ (.int .i64 t385)).setCell ⟨gb389,2,none⟩ (.slice Ao67 t386.length co67)) w.heap.size (fun k_=>some k_ ≠ (.slice Ao48 t369.length co48 : Value).ownBlock ∧ some k_ ≠ (.slice Ao49 t374.length co49 : Value).ownBlock ∧ some k_ ≠ (.slice Ao67 t386.length co67 : Value).ownBlock) (.slice Ao54 t380.length co54) t380):=⟨by (with_reducible repeat first|apply Kd.S_alloc|apply Kd.S_drewN|apply Kd.S_drew);exact Kd.S_mono (Kd.S_far (p:=⟨gb389,2,none⟩) (Kd.S_far (p:=⟨gb389,1,none⟩) (Kd.S_far (p:=⟨gb389,0,none⟩) (Kd.S_types HO382.out BK389.out (by decide)) (fun _ hk=>by first|exact hk.2|exact aP hk) (.int .i64 t384)) (fun _ hk=>by first|exact hk.2|exact aP hk) (.int .i64 t385)) (fun _ hk=>by first|exact hk.2|exact aP hk) (.slice Ao67 t386.length co67)) (fun _ hk=>by first|exact ⟨hk.1.1.1.2,⟨hk.1.1.2,hk.1.2⟩⟩|exact aP hk)⟩
    have n3_ : Aside0 (Kd.R (Kd.int .i64) 2 (((w61.setCell ⟨gb389,0,none⟩ (.int .i64 t384)).setCell ⟨gb389,1,none⟩ (.int .i64 t385)).setCell ⟨gb389,2,none⟩ (.slice Ao67 t386.length co67)) w.heap.size (fun k_=>some k_ ≠ (.slice Ao49 t374.length co49 : Value).ownBlock) (.slice Ao67 t386.length co67) t386):=⟨by (with_reducible repeat first|apply Kd.R_alloc|apply Kd.R_drewN|apply Kd.R_drew);exact Kd.R_mono (Kd.R_far (p:=⟨gb389,2,none⟩) (Kd.R_far (p:=⟨gb389,1,none⟩) (Kd.R_far (p:=⟨gb389,0,none⟩) (Kd.R_types HO388.out BK389.out (by decide)) (fun _ hk=>by first|exact hk.2|exact aP hk) (.int .i64 t384)) (fun _ hk=>by first|exact hk.2|exact aP hk) (.int .i64 t385)) (fun _ hk=>by first|exact hk.2|exact aP hk) (.slice Ao67 t386.length co67)) (fun _ hk=>hk.1.2)⟩
    have n4_ : Aside0 ((((w61.setCell ⟨gb389,0,none⟩ (.int .i64 t384)).setCell ⟨gb389,1,none⟩ (.int .i64 t385)).setCell ⟨gb389,2,none⟩ (.slice Ao67 t386.length co67)).heap[gb364]? = some (.cells #[.slice A0_0 l0_0.length c0_0] 41 (0,0))):=⟨by (with_reducible repeat first|apply bN|apply bD|apply bA);refine blk_far ?_ NB364_389.out _;(with_reducible repeat first|apply bN|apply bD|apply bA);refine blk_far ?_ NB364_389.out _;(with_reducible repeat first|apply bN|apply bD|apply bA);refine blk_far ?_ NB364_389.out _;(with_reducible repeat first|apply bN|apply bD|apply bA);exact BK364.out⟩
    have n5_ : Aside0 ((((w61.setCell ⟨gb389,0,none⟩ (.int .i64 t384)).setCell ⟨gb389,1,none⟩ (.int .i64 t385)).setCell ⟨gb389,2,none⟩ (.slice Ao67 t386.length co67)).heap[gb365]? = some (.cells #[.int .i64 a1_0,.int .i64 a1_1,.slice A1_2 l1_2.length c1_2] 24 (0,0))):=⟨by (with_reducible repeat first|apply bN|apply bD|apply bA);refine blk_far ?_ NB365_389.out _;(with_reducible repeat first|apply bN|apply bD|apply bA);refine blk_far ?_ NB365_389.out _;(with_reducible repeat first|apply bN|apply bD|apply bA);refine blk_far ?_ NB365_389.out _;(with_reducible repeat first|apply bN|apply bD|apply bA);exact BK365.out⟩
    have n6_ : Aside0 ((((w61.setCell ⟨gb389,0,none⟩ (.int .i64 t384)).setCell ⟨gb389,1,none⟩ (.int .i64 t385)).setCell ⟨gb389,2,none⟩ (.slice Ao67 t386.length co67)).heap[gb366]? = some (.cells #[.int .i64 a2_0,.int .i64 a2_1] 50 (0,0))):=⟨by (with_reducible repeat first|apply bN|apply bD|apply bA);refine blk_far ?_ NB366_389.out _;(with_reducible repeat first|apply bN|apply bD|apply bA);refine blk_far ?_ NB366_389.out _;(with_reducible repeat first|apply bN|apply bD|apply bA);refine blk_far ?_ NB366_389.out _;(with_reducible repeat first|apply bN|apply bD|apply bA);exact BK366.out⟩
    have n7_ : Aside0 ((((w61.setCell ⟨gb389,0,none⟩ (.int .i64 t384)).setCell ⟨gb389,1,none⟩ (.int .i64 t385)).setCell ⟨gb389,2,none⟩ (.slice Ao67 t386.length co67)).heap[gb383]? = some (.cells #[.slice Ao54 t380.length co54] 44 (0,0))):=⟨by (with_reducible repeat first|apply bN|apply bD|apply bA);refine blk_far ?_ NB383_389.out _;(with_reducible repeat first|apply bN|apply bD|apply bA);refine blk_far ?_ NB383_389.out _;(with_reducible repeat first|apply bN|apply bD|apply bA);refine blk_far ?_ NB383_389.out _;(with_reducible repeat first|apply bN|apply bD|apply bA);exact BK383.out⟩
    have n8_ : Aside0 ((((w61.setCell ⟨gb389,0,none⟩ (.int .i64 t384)).setCell ⟨gb389,1,none⟩ (.int .i64 t385)).setCell ⟨gb389,2,none⟩ (.slice Ao67 t386.length co67)).heap[gb389]? = some (.cells #[.int .i64 t384,.int .i64 t385,.slice Ao67 t386.length co67] 27 (0,0))):=⟨by (with_reducible repeat first|apply bN|apply bD|apply bA);refine blk_put (cs:=#[.int .i64 t384,.int .i64 t385,.slice none 0 0]) ?_ 2 _ rfl;(with_reducible repeat first|apply bN|apply bD|apply bA);refine blk_put (cs:=#[.int .i64 t384,.int .i64 0,.slice none 0 0]) ?_ 1 _ rfl;(with_reducible repeat first|apply bN|apply bD|apply bA);refine blk_put (cs:=#[.int .i64 0,.int .i64 0,.slice none 0 0]) ?_ 0 _ rfl;(with_reducible repeat first|apply bN|apply bD|apply bA);exact BK389.out⟩
    have n9_ : Aside0 (Below w.heap.size w (((w61.setCell ⟨gb389,0,none⟩ (.int .i64 t384)).setCell ⟨gb389,1,none⟩ (.int .i64 t385)).setCell ⟨gb389,2,none⟩ (.slice Ao67 t386.length co67))):=⟨bW HB.out⟩
    (try clear HO371)
    (try clear HO376)
    (try clear HO382)
    (try clear HO388)
    (try clear BK364)
    (try clear BK365)
    (try clear BK366)
    (try clear BK383)
    (try clear BK389)
    (try clear HB)
    generalize (((w61.setCell ⟨gb389,0,none⟩ (.int .i64 t384)).setCell ⟨gb389,1,none⟩ (.int .i64 t385)).setCell ⟨gb389,2,none⟩ (.slice Ao67 t386.length co67)) = w68 at n0_ n1_ n2_ n3_ n4_ n5_ n6_ n7_ n8_ n9_ ⊢
    have HO371:=n0_
    have HO376:=n1_
    have HO382:=n2_
    have HO388:=n3_
    have BK364:=n4_
    have BK365:=n5_
    have BK366:=n6_
    have BK383:=n7_
    have BK389:=n8_
    have HB:=n9_
    clear n0_ n1_ n2_ n3_ n4_ n5_ n6_ n7_ n8_ n9_
    have n0_:=aK (Kd.S_drew HO371.out)
    have n1_:=aK (Kd.R_drew HO376.out)
    have n2_:=aK (Kd.S_drew HO382.out)
    have n3_:=aK (Kd.R_drew HO388.out)
    have n4_:=aK (bD BK364.out)
    have n5_:=aK (bD BK365.out)
    have n6_:=aK (bD BK366.out)
    have n7_:=aK (bD BK383.out)
    have n8_:=aK (bD BK389.out)
    have n9_:=aK (b1 HB.out)
    clear HO371
    clear HO376
    clear HO382
    clear HO388
    clear BK364
    clear BK365
    clear BK366
    clear BK383
    clear BK389
    clear HB
    have HO371:=n0_
    have HO376:=n1_
    have HO382:=n2_
    have HO388:=n3_
    have BK364:=n4_
    have BK365:=n5_
    have BK366:=n6_
    have BK383:=n7_
    have BK389:=n8_
    have HB:=n9_
    clear n0_ n1_ n2_ n3_ n4_ n5_ n6_ n7_ n8_ n9_
    refine start_ (n:=6) (S:=fun w'=>w'.cell? ⟨gb383,0,none⟩ = some (.slice Ao54 t380.length co54) ∧ w'.cell? ⟨gb389,0,none⟩ = some (.int .i64 t384) ∧ w'.cell? ⟨gb389,1,none⟩ = some (.int .i64 t385) ∧ w'.cell? ⟨gb389,2,none⟩ = some (.slice Ao67 t386.length co67) ∧ w'.cell? ⟨gb366,0,none⟩ = some (.int .i64 a2_0) ∧ w'.cell? ⟨gb366,1,none⟩ = some (.int .i64 a2_1)) (ds:=[]) #[false,false,false,false,false,false] (by kernel_rfl) rfl rfl ⟨(bC BK383.out 0).trans rfl,(bC BK389.out 0).trans rfl,(bC BK389.out 1).trans rfl,(bC BK389.out 2).trans rfl,(bC BK366.out 0).trans rfl,(bC BK366.out 1).trans rfl⟩ (fun hHeld=>?_)
    generalize w68.drew = w69 at HO371 HO376 HO382 HO388 BK364 BK365 BK366 BK383 BK389 HB hHeld ⊢
    refine take_ (i:=0) (N:=some 33) (v:=?_) (a':=?_) #[true,false,false,false,false,false] rfl rfl (by kernel_rfl) (fun _ _ _ h=>h) (Or.inl ⟨by rfl,?_⟩) hHeld ?_ ?_
    rotate_left
    ·rintro w' ⟨s0,s1,s2,s3,s4,s5⟩
     go_simp
     with_reducible rfl
    rotate_left
    ·simp only [Act.put,lA,l0',lS,i64_w,i32_w]
     rfl
    refine take_ (i:=1) (N:=some 34) (v:=?_) (a':=?_) #[true,true,false,false,false,false] rfl rfl (by kernel_rfl) (fun _ _ _ h=>h) (Or.inl ⟨by rfl,?_⟩) hHeld ?_ ?_
    rotate_left
    ·rintro w' ⟨s0,s1,s2,s3,s4,s5⟩
     go_simp
     with_reducible rfl
    rotate_left
    ·simp only [Act.put,lA,l0',lS,i64_w,i32_w]
     rfl
    refine take_ (i:=2) (N:=some 35) (v:=?_) (a':=?_) #[true,true,true,false,false,false] rfl rfl (by kernel_rfl) (fun _ _ _ h=>h) (Or.inl ⟨by rfl,?_⟩) hHeld ?_ ?_
    rotate_left
    ·rintro w' ⟨s0,s1,s2,s3,s4,s5⟩
     go_simp
     with_reducible rfl
    rotate_left
    ·simp only [Act.put,lA,l0',lS,i64_w,i32_w]
     rfl
    refine one_ (i:=3) (N:=some 36) #[true,true,true,true,false,false] rfl rfl (by kernel_rfl) (by decide) (fun K hK=>?_)
    refine goes_ Try.func50 (by kernel_rfl) rfl #[.agg #[.int .i64 a2_0,.int .i64 a2_1]] (by rfl) rfl rfl (by (try simp only [mA,mC,mN]);first|done|rfl) ?_
    with_reducible refine (laws_toClaim.calls a2_0 a2_1 t390 t391 _ A31.out).mono ?_
    rintro e w70 ⟨rfl,hb⟩
    refine ⟨_,rfl,?_⟩
    have n0_:=aK (Kd.S_below (sX HO371.out) hb)
    have n1_:=aK (Kd.R_below (rX HO376.out) hb)
    have n2_:=aK (Kd.S_below (sX HO382.out) hb)
    have n3_:=aK (Kd.R_below (rX HO388.out) hb)
    have n4_:=aK (bB (bX BK364.out) hb)
    have n5_:=aK (bB (bX BK365.out) hb)
    have n6_:=aK (bB (bX BK366.out) hb)
    have n7_:=aK (bB (bX BK383.out) hb)
    have n8_:=aK (bB (bX BK389.out) hb)
    have n9_:=aK (below_step (bW HB.out) hb)
    clear HO371
    clear HO376
    clear HO382
    clear HO388
    clear BK364
    clear BK365
    clear BK366
    clear BK383
    clear BK389
    clear HB
    have HO371:=n0_
    have HO376:=n1_
    have HO382:=n2_
    have HO388:=n3_
    have BK364:=n4_
    have BK365:=n5_
    have BK366:=n6_
    have BK383:=n7_
    have BK389:=n8_
    have HB:=n9_
    clear n0_ n1_ n2_ n3_ n4_ n5_ n6_ n7_ n8_ n9_
    (try clear hb)
    (try clear hb2)
    (try clear hk)
    (try clear hi)
    refine hK.out _ _ ⟨(bC BK383.out 0).trans rfl,(bC BK389.out 0).trans rfl,(bC BK389.out 1).trans rfl,(bC BK389.out 2).trans rfl,(bC BK366.out 0).trans rfl,(bC BK366.out 1).trans rfl⟩ (fun hHeld=>?_)
    clear hK K
    refine norm_ (a':=?_) ?_ ?_
    rotate_left
    ·show Act.put _ (some 36) _ = _
     simp only [Act.put,lA,l0',lS,i64_w,i32_w]
     rfl
    refine one_ (i:=4) (N:=some 37) #[true,true,true,true,true,false] rfl rfl (by kernel_rfl) (by decide) (fun K hK=>?_)
    refine goes_ Try.func51 (by kernel_rfl) rfl #[.agg #[.slice Ao54 t380.length co54],.agg #[.int .i64 t384,.int .i64 t385,.slice Ao67 t386.length co67],.agg #[.int .i64 t390,.int .i64 t391]] (by rfl) rfl rfl (by (try simp only [mA,mC,mN]);first|done|rfl) ?_
    with_reducible refine (impl_IsClaim.calls k _ _ t380 t384 t385 _ _ t386 t390 t391 t392 _ ?side1 ?side2 ?side3 ?side4 A32.out).mono ?_
    (case side1=>repeat (first|exact (Kd.S_reads' HO382.out).2.2|(with_reducible refine Kd.C_alloc ?_ _)|(with_reducible refine Kd.C_drewN ?_ _)|(with_reducible refine Kd.C_drew ?_)))
    (case side2=>exact (Kd.S_reads' HO382.out).2.1)
    (case side3=>repeat (first|exact (Kd.R_reads' HO388.out).2.2|(with_reducible refine Kd.C_alloc ?_ _)|(with_reducible refine Kd.C_drewN ?_ _)|(with_reducible refine Kd.C_drew ?_)))
    (case side4=>exact (Kd.R_reads' HO388.out).2.1)
    rintro e w71 ⟨rfl,hb⟩
    refine ⟨_,rfl,?_⟩
    have n0_:=aK (Kd.S_below (sX HO371.out) hb)
    have n1_:=aK (Kd.R_below (rX HO376.out) hb)
    have n2_:=aK (Kd.S_below (sX HO382.out) hb)
    have n3_:=aK (Kd.R_below (rX HO388.out) hb)
    have n4_:=aK (bB (bX BK364.out) hb)
    have n5_:=aK (bB (bX BK365.out) hb)
    have n6_:=aK (bB (bX BK366.out) hb)
    have n7_:=aK (bB (bX BK383.out) hb)
    have n8_:=aK (bB (bX BK389.out) hb)
    have n9_:=aK (below_step (bW HB.out) hb)
    clear HO371
    clear HO376
    clear HO382
    clear HO388
    clear BK364
    clear BK365
    clear BK366
    clear BK383
    clear BK389
    clear HB
    have HO371:=n0_
    have HO376:=n1_
    have HO382:=n2_
    have HO388:=n3_
    have BK364:=n4_
    have BK365:=n5_
    have BK366:=n6_
    have BK383:=n7_
    have BK389:=n8_
    have HB:=n9_
    clear n0_ n1_ n2_ n3_ n4_ n5_ n6_ n7_ n8_ n9_
    (try clear hb)
    (try clear hb2)
    (try clear hk)
    (try clear hi)
    refine hK.out _ _ ⟨(bC BK383.out 0).trans rfl,(bC BK389.out 0).trans rfl,(bC BK389.out 1).trans rfl,(bC BK389.out 2).trans rfl,(bC BK366.out 0).trans rfl,(bC BK366.out 1).trans rfl⟩ (fun hHeld=>?_)
    clear hK K
    refine norm_ (a':=?_) ?_ ?_
    rotate_left
    ·show Act.put _ (some 37) _ = _
     simp only [Act.put,lA,l0',lS,i64_w,i32_w]
     rfl
    refine pure_ (i:=5) (N:=some 11) (v:=?_) (a':=?_) #[true,true,true,true,true,true] rfl rfl (by kernel_rfl) (fun _ _ _ h=>h) (Or.inl ⟨by rfl,?_⟩) ?_ ?_
    rotate_left
    ·intro w'
     go_simp
     with_reducible rfl
    rotate_left
    ·simp only [Act.put,lA,l0',lS,i64_w,i32_w]
     rfl
    refine done_ (by kernel_rfl) ?_
    try go_wp2
    go_ret
    exact ⟨by first|rfl|(simp [errW_none,errW_some] <;> rfl)|(simp [*,errW_none,errW_some] <;> rfl),bW HB.out⟩
   ·rw [if_neg c33] at H
    have c33b0 : (t392 != t379) = false:=by simpa using c33
    (try (have c33b1 : decide (t392 = t379) = true:=by simpa using c33))
    (try (have c33b2 : (t392 == t379) = true:=by simpa using c33))
    clear c33
    replace H:=Option.bind_eq_some_iff.mp H
    obtain ⟨t393,A720,H⟩:=H
    replace H : ((laws_eqDeal.f k t380 t393).bind fun t396=>(if t396 = true then ((laws_toPlay.f k a1_0 a1_1 l1_2).bind fun bt397=>((laws_eqPlay.f k t384 t385 t386 bt397.1 bt397.2.1 bt397.2.2).bind fun t402=>(if t402 = true then (some true) else (some false)))) else (some false))) = some r:=H
    have A72:=aK A720
    clear A720
    replace H:=Option.bind_eq_some_iff.mp H
    obtain ⟨t396,A730,H⟩:=H
    replace H : (if t396 = true then ((laws_toPlay.f k a1_0 a1_1 l1_2).bind fun bt397=>((laws_eqPlay.f k t384 t385 t386 bt397.1 bt397.2.1 bt397.2.2).bind fun t402=>(if t402 = true then (some true) else (some false)))) else (some false)) = some r:=H
    have A73:=aK A730
    clear A730
    by_cases c74 : t396 = true
    ·subst c74
     have H1 : ((laws_toPlay.f k a1_0 a1_1 l1_2).bind fun bt397=>((laws_eqPlay.f k t384 t385 t386 bt397.1 bt397.2.1 bt397.2.2).bind fun t402=>(if t402 = true then (some true) else (some false)))) = some r:=by rw [if_pos rfl] at H;exact H
     clear H
     have H:=H1
     clear H1
     replace H:=Option.bind_eq_some_iff.mp H
     obtain ⟨⟨t397,t398,t399⟩,A750,H⟩:=H
     replace H : ((laws_eqPlay.f k t384 t385 t386 t397 t398 t399).bind fun t402=>(if t402 = true then (some true) else (some false))) = some r:=H
     have A75:=aK A750
     clear A750
     replace H:=Option.bind_eq_some_iff.mp H
     obtain ⟨t402,A760,H⟩:=H
     replace H : (if t402 = true then (some true) else (some false)) = some r:=H
     have A76:=aK A760
     clear A760
     by_cases c77 : t402 = true
     ·subst c77
      have H1 : (some true) = some r:=by rw [if_pos rfl] at H;exact H
      clear H
      have H:=H1
      clear H1
      obtain rfl:=Option.some.inj H
      go_enter Try.func11,Try.ntmps11
      try go_wp2_with (first|((with_reducible refine gate_dst (N:=3) rfl ?_);refine box_event ?hg (N:=3) ?hd (cs:=#[.slice A0_0 l0_0.length c0_0]) (t:=41) ?hr ?_;(case hd=>rfl);(case hg=>rfl);(case hr=>first|(go_simp;done)|(go_simp;rfl));intro gb364 hg w78 hbox hb;have n0_:=aK (below_step (bW HB.out) hb);have n1_:=aK (hbox);have n2_:=aK ((by rw [hg];exact (below_size (bW HB.out)) : w.heap.size ≤ gb364));have n3_:=aK ((by rw [hg];exact (below_size (bW HB.out)) : w.heap.size ≤ gb364));clear HB;have HB:=n0_;have BK364:=n1_;have GW364:=n2_;have GE364:=n3_;clear n0_ n1_ n2_ n3_;clear hb hbox hg)|((with_reducible refine gate_dst (N:=4) rfl ?_);refine box_event ?hg (N:=4) ?hd (cs:=#[.int .i64 a1_0,.int .i64 a1_1,.slice A1_2 l1_2.length c1_2]) (t:=24) ?hr ?_;(case hd=>rfl);(case hg=>rfl);(case hr=>first|(go_simp;done)|(go_simp;rfl));intro gb365 hg w79 hbox hb;have n0_:=aK (bB (bX BK364.out) hb);have n1_:=aK (below_step (bW HB.out) hb);have n2_:=aK (hbox);have n3_:=aK ((by rw [hg];exact (below_size (bW HB.out)) : w.heap.size ≤ gb365));have n4_:=aK ((by rw [hg];exact (below_size (bW HB.out)) : w.heap.size ≤ gb365));have n5_:=aK ((by rw [hg];exact Nat.ne_of_lt (blk_lt (bX BK364.out)) : gb364 ≠ gb365));have n6_:=aK ((by rw [hg];exact Nat.ne_of_gt (blk_lt (bX BK364.out)) : gb365 ≠ gb364));clear BK364;clear HB;have BK364:=n0_;have HB:=n1_;have BK365:=n2_;have GW365:=n3_;have GE365:=n4_;have NB364_365:=n5_;have NB365_364:=n6_;clear n0_ n1_ n2_ n3_ n4_ n5_ n6_;clear hb hbox hg)|((with_reducible refine gate_dst (N:=5) rfl ?_);refine box_event ?hg (N:=5) ?hd (cs:=#[.int .i64 a2_0,.int .i64 a2_1]) (t:=50) ?hr ?_;(case hd=>rfl);(case hg=>rfl);(case hr=>first|(go_simp;done)|(go_simp;rfl));intro gb366 hg w80 hbox hb;have n0_:=aK (bB (bX BK364.out) hb);have n1_:=aK (bB (bX BK365.out) hb);have n2_:=aK (below_step (bW HB.out) hb);have n3_:=aK (hbox);have n4_:=aK ((by rw [hg];exact (below_size (bW HB.out)) : w.heap.size ≤ gb366));have n5_:=aK ((by rw [hg];exact (below_size (bW HB.out)) : w.heap.size ≤ gb366));have n6_:=aK ((by rw [hg];exact Nat.ne_of_lt (blk_lt (bX BK364.out)) : gb364 ≠ gb366));have n7_:=aK ((by rw [hg];exact Nat.ne_of_gt (blk_lt (bX BK364.out)) : gb366 ≠ gb364));have n8_:=aK ((by rw [hg];exact Nat.ne_of_lt (blk_lt (bX BK365.out)) : gb365 ≠ gb366));have n9_:=aK ((by rw [hg];exact Nat.ne_of_gt (blk_lt (bX BK365.out)) : gb366 ≠ gb365));clear BK364;clear BK365;clear HB;have BK364:=n0_;have BK365:=n1_;have HB:=n2_;have BK366:=n3_;have GW366:=n4_;have GE366:=n5_;have NB364_366:=n6_;have NB366_364:=n7_;have NB365_366:=n8_;have NB366_365:=n9_;clear n0_ n1_ n2_ n3_ n4_ n5_ n6_ n7_ n8_ n9_;clear hb hbox hg;have hnb81:=NB364_365.out;have hnc81:=NB365_364.out;have hnb82:=NB364_366.out;have hnc82:=NB366_364.out;have hcz83_0 : w80.cell? ⟨gb364,0,none⟩ = some (.slice A0_0 l0_0.length c0_0):=(bC BK364.out 0).trans rfl;have hfz83_0:=blk_frozen BK364.out 0)|((with_reducible refine gate_callee (f:=40) rfl ?_);refine goesL_ (some 14) rfl rfl Try.func40 (by kernel_rfl) rfl #[.agg #[.slice A0_0 l0_0.length c0_0],.int .i64 1048576] rfl (by (try simp only [mA,mC,mN]);first|done|rfl) ?_;(with_reducible refine (laws_szDeal.calls k _ _ l0_0 1048576 t367 _ ?side1 ?side2 A4.out).mono ?_);(case side1=>repeat (first|exact (Kd.C_below HR0_0.out HB.out)|(with_reducible refine Kd.C_alloc ?_ _)|(with_reducible refine Kd.C_drewN ?_ _)|(with_reducible refine Kd.C_drew ?_)));(case side2=>exact HC0_0.out);rintro e w84 ⟨rfl,hb⟩;refine ⟨_,rfl,?_⟩;have n0_:=aK (bB (bX BK364.out) hb);have n1_:=aK (bB (bX BK365.out) hb);have n2_:=aK (bB (bX BK366.out) hb);have n3_:=aK (below_step (bW HB.out) hb);clear BK364;clear BK365;clear BK366;clear HB;have BK364:=n0_;have BK365:=n1_;have BK366:=n2_;have HB:=n3_;clear n0_ n1_ n2_ n3_;(try clear hb);(try clear hb2);(try clear hk);(try clear hi);have hnb85:=NB365_366.out;have hnc85:=NB366_365.out;have hcz86_0 : w84.cell? ⟨gb365,0,none⟩ = some (.int .i64 a1_0):=(bC BK365.out 0).trans rfl;have hcz86_1 : w84.cell? ⟨gb365,1,none⟩ = some (.int .i64 a1_1):=(bC BK365.out 1).trans rfl;have hcz86_2 : w84.cell? ⟨gb365,2,none⟩ = some (.slice A1_2 l1_2.length c1_2):=(bC BK365.out 2).trans rfl;have hfz86_0:=blk_frozen BK365.out 0;have hfz86_1:=blk_frozen BK365.out 1;have hfz86_2:=blk_frozen BK365.out 2)|((with_reducible refine gate_callee (f:=22) rfl ?_);refine goesL_ (some 19) rfl rfl Try.func22 (by kernel_rfl) rfl #[.agg #[.int .i64 a1_0,.int .i64 a1_1,.slice A1_2 l1_2.length c1_2],.int .i64 t367] rfl (by (try simp only [mA,mC,mN]);first|done|rfl) ?_;(with_reducible refine (laws_szPlay.calls a1_0 a1_1 _ _ l1_2 t367 t368 _ ?side1 ?side2 A13.out).mono ?_);(case side1=>repeat (first|exact (Kd.C_below HR1_2.out HB.out)|(with_reducible refine Kd.C_alloc ?_ _)|(with_reducible refine Kd.C_drewN ?_ _)|(with_reducible refine Kd.C_drew ?_)));(case side2=>exact HC1_2.out);rintro e w87 ⟨rfl,hb⟩;refine ⟨_,rfl,?_⟩;have n0_:=aK (bB (bX BK364.out) hb);have n1_:=aK (bB (bX BK365.out) hb);have n2_:=aK (bB (bX BK366.out) hb);have n3_:=aK (below_step (bW HB.out) hb);clear BK364;clear BK365;clear BK366;clear HB;have BK364:=n0_;have BK365:=n1_;have BK366:=n2_;have HB:=n3_;clear n0_ n1_ n2_ n3_;(try clear hb);(try clear hb2);(try clear hk);(try clear hi)))
      have n0_:=aK (bD BK364.out)
      have n1_:=aK (bD BK365.out)
      have n2_:=aK (bD BK366.out)
      have n3_:=aK (b1 HB.out)
      clear BK364
      clear BK365
      clear BK366
      clear HB
      have BK364:=n0_
      have BK365:=n1_
      have BK366:=n2_
      have HB:=n3_
      clear n0_ n1_ n2_ n3_
      refine start_ (n:=8) (S:=fun w'=>w'.cell? ⟨gb364,0,none⟩ = some (.slice A0_0 l0_0.length c0_0) ∧ w'.cell? ⟨gb365,0,none⟩ = some (.int .i64 a1_0) ∧ w'.cell? ⟨gb365,1,none⟩ = some (.int .i64 a1_1) ∧ w'.cell? ⟨gb365,2,none⟩ = some (.slice A1_2 l1_2.length c1_2) ∧ w'.cell? ⟨gb366,0,none⟩ = some (.int .i64 a2_0) ∧ w'.cell? ⟨gb366,1,none⟩ = some (.int .i64 a2_1)) (ds:=[]) #[false,false,false,false,false,false,false,false] (by kernel_rfl) rfl rfl ⟨(bC BK364.out 0).trans rfl,(bC BK365.out 0).trans rfl,(bC BK365.out 1).trans rfl,(bC BK365.out 2).trans rfl,(bC BK366.out 0).trans rfl,(bC BK366.out 1).trans rfl⟩ (fun hHeld=>?_);refine with_tabW laws_FnExactIsClaim.tab8 laws_FnExactIsClaim.bits8 (fun HT_ HW_=>?_)
      generalize w87.drew = w88 at BK364 BK365 BK366 HB hHeld ⊢
      refine take_ (i:=0) (N:=some 22) (v:=?_) (a':=?_) #[true,false,false,false,false,false,false,false] rfl rfl (take_ofW HT_.out HW_.out (by kernel_rfl)) (fun _ _ _ h=>h) (Or.inl ⟨by rfl,?_⟩) hHeld ?_ ?_
      rotate_left
      ·rintro w' ⟨s0,s1,s2,s3,s4,s5⟩
       go_simp
       with_reducible rfl
      rotate_left
      ·simp only [Act.put,lA,l0',lS,i64_w,i32_w]
       rfl
      refine take_ (i:=2) (N:=some 24) (v:=?_) (a':=?_) #[true,false,true,false,false,false,false,false] rfl rfl (take_ofW HT_.out HW_.out (by kernel_rfl)) (fun _ _ _ h=>h) (Or.inl ⟨by rfl,?_⟩) hHeld ?_ ?_
      rotate_left
      ·rintro w' ⟨s0,s1,s2,s3,s4,s5⟩
       go_simp
       with_reducible rfl
      rotate_left
      ·simp only [Act.put,lA,l0',lS,i64_w,i32_w]
       rfl
      refine take_ (i:=4) (N:=some 26) (v:=?_) (a':=?_) #[true,false,true,false,true,false,false,false] rfl rfl (take_ofW HT_.out HW_.out (by kernel_rfl)) (fun _ _ _ h=>h) (Or.inl ⟨by rfl,?_⟩) hHeld ?_ ?_
      rotate_left
      ·rintro w' ⟨s0,s1,s2,s3,s4,s5⟩
       go_simp
       with_reducible rfl
      rotate_left
      ·simp only [Act.put,lA,l0',lS,i64_w,i32_w]
       rfl
      refine one_ (i:=1) (N:=some 23) #[true,true,true,false,true,false,false,false] rfl rfl (one_of HT_.out (by kernel_rfl)) (by decide) (fun K hK=>?_)
      refine goes_ Try.func42 (by kernel_rfl) rfl #[.agg #[.slice A0_0 l0_0.length c0_0]] (by rfl) rfl rfl (by (try simp only [mA,mC,mN]);first|done|rfl) ?_
      with_reducible refine (laws_toDeal.calls k _ _ l0_0 t369 _ ?side1 ?side2 A25.out).mono ?_
      (case side1=>repeat (first|exact (Kd.C_below HR0_0.out HB.out)|(with_reducible refine Kd.C_alloc ?_ _)|(with_reducible refine Kd.C_drewN ?_ _)|(with_reducible refine Kd.C_drew ?_)))
      (case side2=>exact HC0_0.out)
      rintro e w89 ⟨v370,rfl,ho0,hb⟩
      refine ⟨_,rfl,?_⟩
      have n0_:=aK (Kd.S_lower ho0 (below_size (bW HB.out)))
      have n1_:=aK (bB (bX BK364.out) hb)
      have n2_:=aK (bB (bX BK365.out) hb)
      have n3_:=aK (bB (bX BK366.out) hb)
      have n4_:=aK (below_step (bW HB.out) hb)
      clear BK364
      clear BK365
      clear BK366
      clear HB
      have HO371:=n0_
      have BK364:=n1_
      have BK365:=n2_
      have BK366:=n3_
      have HB:=n4_
      clear n0_ n1_ n2_ n3_ n4_
      (try clear hb)
      (try clear hb2)
      (try clear hk)
      (try clear hi)
      (try clear ho0)
      refine hK.out _ _ ⟨(bC BK364.out 0).trans rfl,(bC BK365.out 0).trans rfl,(bC BK365.out 1).trans rfl,(bC BK365.out 2).trans rfl,(bC BK366.out 0).trans rfl,(bC BK366.out 1).trans rfl⟩ (fun hHeld=>?_)
      clear hK K
      refine norm_ (a':=?_) ?_ ?_
      rotate_left
      ·show Act.put _ (some 23) _ = _
       simp only [Act.put,lA,l0',lS,i64_w,i32_w]
       rfl
      refine one_ (i:=3) (N:=some 25) #[true,true,true,true,true,false,false,false] rfl rfl (one_of HT_.out (by kernel_rfl)) (by decide) (fun K hK=>?_)
      refine goes_ Try.func24 (by kernel_rfl) rfl #[.agg #[.int .i64 a1_0,.int .i64 a1_1,.slice A1_2 l1_2.length c1_2]] (by rfl) rfl rfl (by (try simp only [mA,mC,mN]);first|done|rfl) ?_
      with_reducible refine (laws_toPlay.calls k a1_0 a1_1 _ _ l1_2 t372 t373 t374 _ ?side1 ?side2 A26.out).mono ?_
      (case side1=>repeat (first|exact (Kd.C_below HR1_2.out HB.out)|(with_reducible refine Kd.C_alloc ?_ _)|(with_reducible refine Kd.C_drewN ?_ _)|(with_reducible refine Kd.C_drew ?_)))
      (case side2=>exact HC1_2.out)
      rintro e w90 ⟨v375,rfl,ho0,hb⟩
      refine ⟨_,rfl,?_⟩
      have n0_:=aK (Kd.S_elder' (sX HO371.out) (Kd.R_base ho0) hb)
      have n1_:=aK (Kd.R_lower ho0 (below_size (bW HB.out)))
      have n2_:=aK (bB (bX BK364.out) hb)
      have n3_:=aK (bB (bX BK365.out) hb)
      have n4_:=aK (bB (bX BK366.out) hb)
      have n5_:=aK (below_step (bW HB.out) hb)
      clear HO371
      clear BK364
      clear BK365
      clear BK366
      clear HB
      have HO371:=n0_
      have HO376:=n1_
      have BK364:=n2_
      have BK365:=n3_
      have BK366:=n4_
      have HB:=n5_
      clear n0_ n1_ n2_ n3_ n4_ n5_
      (try clear hb)
      (try clear hb2)
      (try clear hk)
      (try clear hi)
      (try clear ho0)
      refine hK.out _ _ ⟨(bC BK364.out 0).trans rfl,(bC BK365.out 0).trans rfl,(bC BK365.out 1).trans rfl,(bC BK365.out 2).trans rfl,(bC BK366.out 0).trans rfl,(bC BK366.out 1).trans rfl⟩ (fun hHeld=>?_)
      clear hK K
      refine norm_ (a':=?_) ?_ ?_
      rotate_left
      ·show Act.put _ (some 25) _ = _
       simp only [Act.put,lA,l0',lS,i64_w,i32_w]
       rfl
      refine one_ (i:=5) (N:=some 27) #[true,true,true,true,true,true,false,false] rfl rfl (one_of HT_.out (by kernel_rfl)) (by decide) (fun K hK=>?_)
      refine goes_ Try.func50 (by kernel_rfl) rfl #[.agg #[.int .i64 a2_0,.int .i64 a2_1]] (by rfl) rfl rfl (by (try simp only [mA,mC,mN]);first|done|rfl) ?_
      with_reducible refine (laws_toClaim.calls a2_0 a2_1 t377 t378 _ A27.out).mono ?_
      rintro e w91 ⟨rfl,hb⟩
      refine ⟨_,rfl,?_⟩
      have n0_:=aK (Kd.S_below (sX HO371.out) hb)
      have n1_:=aK (Kd.R_below (rX HO376.out) hb)
      have n2_:=aK (bB (bX BK364.out) hb)
      have n3_:=aK (bB (bX BK365.out) hb)
      have n4_:=aK (bB (bX BK366.out) hb)
      have n5_:=aK (below_step (bW HB.out) hb)
      clear HO371
      clear HO376
      clear BK364
      clear BK365
      clear BK366
      clear HB
      have HO371:=n0_
      have HO376:=n1_
      have BK364:=n2_
      have BK365:=n3_
      have BK366:=n4_
      have HB:=n5_
      clear n0_ n1_ n2_ n3_ n4_ n5_
      (try clear hb)
      (try clear hb2)
      (try clear hk)
      (try clear hi)
      obtain ⟨Ao92,co92,eo92⟩:=Kd.S_slice HO371.out
      (first|subst eo92|(injection eo92 with f1_ f2_ f3_;have f4_:=f1_.symm;have f5_:=f3_.symm;clear f1_ f2_ f3_;subst f4_;subst f5_))
      obtain ⟨Ao93,co93,eo93⟩:=Kd.R_slice HO376.out
      (first|subst eo93|(injection eo93 with f1_ f2_ f3_;have f4_:=f1_.symm;have f5_:=f3_.symm;clear f1_ f2_ f3_;subst f4_;subst f5_))
      refine hK.out _ _ ⟨(bC BK364.out 0).trans rfl,(bC BK365.out 0).trans rfl,(bC BK365.out 1).trans rfl,(bC BK365.out 2).trans rfl,(bC BK366.out 0).trans rfl,(bC BK366.out 1).trans rfl⟩ (fun hHeld=>?_)
      clear hK K
      refine norm_ (a':=?_) ?_ ?_
      rotate_left
      ·show Act.put _ (some 27) _ = _
       simp only [Act.put,lA,l0',lS,i64_w,i32_w]
       rfl
      refine one_ (i:=6) (N:=some 28) #[true,true,true,true,true,true,true,false] rfl rfl (one_of HT_.out (by kernel_rfl)) (by decide) (fun K hK=>?_)
      refine goes_ Try.func49 (by kernel_rfl) rfl #[.agg #[.slice Ao92 t369.length co92],.agg #[.int .i64 t372,.int .i64 t373,.slice Ao93 t374.length co93],.agg #[.int .i64 t377,.int .i64 t378]] (by rfl) rfl rfl (by (try simp only [mA,mC,mN]);first|done|rfl) ?_
      with_reducible refine (spec_IsClaim.calls k _ _ t369 t372 t373 _ _ t374 t377 t378 t379 _ ?side1 ?side2 ?side3 ?side4 A28.out).mono ?_
      (case side1=>repeat (first|exact (Kd.S_reads' HO371.out).2.2|(with_reducible refine Kd.C_alloc ?_ _)|(with_reducible refine Kd.C_drewN ?_ _)|(with_reducible refine Kd.C_drew ?_)))
      (case side2=>exact (Kd.S_reads' HO371.out).2.1)
      (case side3=>repeat (first|exact (Kd.R_reads' HO376.out).2.2|(with_reducible refine Kd.C_alloc ?_ _)|(with_reducible refine Kd.C_drewN ?_ _)|(with_reducible refine Kd.C_drew ?_)))
      (case side4=>exact (Kd.R_reads' HO376.out).2.1)
      rintro e w94 ⟨rfl,hb⟩
      refine ⟨_,rfl,?_⟩
      have n0_:=aK (Kd.S_below (sX HO371.out) hb)
      have n1_:=aK (Kd.R_below (rX HO376.out) hb)
      have n2_:=aK (bB (bX BK364.out) hb)
      have n3_:=aK (bB (bX BK365.out) hb)
      have n4_:=aK (bB (bX BK366.out) hb)
      have n5_:=aK (below_step (bW HB.out) hb)
      clear HO371
      clear HO376
      clear BK364
      clear BK365
      clear BK366
      clear HB
      have HO371:=n0_
      have HO376:=n1_
      have BK364:=n2_
      have BK365:=n3_
      have BK366:=n4_
      have HB:=n5_
      clear n0_ n1_ n2_ n3_ n4_ n5_
      (try clear hb)
      (try clear hb2)
      (try clear hk)
      (try clear hi)
      refine hK.out _ _ ⟨(bC BK364.out 0).trans rfl,(bC BK365.out 0).trans rfl,(bC BK365.out 1).trans rfl,(bC BK365.out 2).trans rfl,(bC BK366.out 0).trans rfl,(bC BK366.out 1).trans rfl⟩ (fun hHeld=>?_)
      clear hK K
      refine norm_ (a':=?_) ?_ ?_
      rotate_left
      ·show Act.put _ (some 28) _ = _
       simp only [Act.put,lA,l0',lS,i64_w,i32_w]
       rfl
      refine pure_ (i:=7) (N:=some 8) (v:=?_) (a':=?_) #[true,true,true,true,true,true,true,true] rfl rfl (any_of HT_.out (by kernel_rfl)) (fun _ _ _ h=>h) (Or.inl ⟨by rfl,?_⟩) ?_ ?_
      rotate_left
      ·intro w'
       go_simp
       with_reducible rfl
      rotate_left
      ·simp only [Act.put,lA,l0',lS,i64_w,i32_w]
       rfl
      refine done_ (done_of HT_.out (by kernel_rfl)) ?_
      have hcz95_0 : w94.cell? ⟨gb364,0,none⟩ = some (.slice A0_0 l0_0.length c0_0):=(bC BK364.out 0).trans rfl
      have hfz95_0:=blk_frozen BK364.out 0
      try go_wp2_with (first|((with_reducible refine gate_callee (f:=42) rfl ?_);refine goesL_ (some 30) rfl rfl Try.func42 (by kernel_rfl) rfl #[.agg #[.slice A0_0 l0_0.length c0_0]] rfl (by (try simp only [mA,mC,mN]);first|done|rfl) ?_;(with_reducible refine (laws_toDeal.calls k _ _ l0_0 t380 _ ?side1 ?side2 A29.out).mono ?_);(case side1=>repeat (first|exact (Kd.C_below HR0_0.out HB.out)|(with_reducible refine Kd.C_alloc ?_ _)|(with_reducible refine Kd.C_drewN ?_ _)|(with_reducible refine Kd.C_drew ?_)));(case side2=>exact HC0_0.out);rintro e w96 ⟨v381,rfl,ho0,hb⟩;refine ⟨_,rfl,?_⟩;have n0_:=aK (Kd.S_elder' (sX HO371.out) (Kd.S_base ho0) hb);have n1_:=aK (Kd.R_below (rX HO376.out) hb);have n2_:=aK (Kd.S_lower (Kd.S_new' (Kd.S_new' ho0 (Kd.S_lt (sX HO371.out))) (Kd.R_lt (rX HO376.out))) (below_size (bW HB.out)));have n3_:=aK (bB (bX BK364.out) hb);have n4_:=aK (bB (bX BK365.out) hb);have n5_:=aK (bB (bX BK366.out) hb);have n6_:=aK (below_step (bW HB.out) hb);clear HO371;clear HO376;clear BK364;clear BK365;clear BK366;clear HB;have HO371:=n0_;have HO376:=n1_;have HO382:=n2_;have BK364:=n3_;have BK365:=n4_;have BK366:=n5_;have HB:=n6_;clear n0_ n1_ n2_ n3_ n4_ n5_ n6_;(try clear hb);(try clear hb2);(try clear hk);(try clear hi);(try clear ho0))|((with_reducible refine gate_dst (N:=9) rfl ?_);refine box_event ?hg (N:=9) ?hd (cs:=#[.slice none 0 0]) (t:=44) ?hr ?_;(case hd=>rfl);(case hg=>rfl);(case hr=>first|(go_simp;done)|(go_simp;rfl));intro gb383 hg w97 hbox hb;have n0_:=aK (Kd.S_below (sX HO371.out) hb);have n1_:=aK (Kd.R_below (rX HO376.out) hb);have n2_:=aK (Kd.S_below (sX HO382.out) hb);have n3_:=aK (bB (bX BK364.out) hb);have n4_:=aK (bB (bX BK365.out) hb);have n5_:=aK (bB (bX BK366.out) hb);have n6_:=aK (below_step (bW HB.out) hb);have n7_:=aK (hbox);have n8_:=aK ((by rw [hg];exact (below_size (bW HB.out)) : w.heap.size ≤ gb383));have n9_:=aK ((by rw [hg];exact (below_size (bW HB.out)) : w.heap.size ≤ gb383));have n10_:=aK ((by rw [hg];exact Nat.ne_of_lt (blk_lt (bX BK364.out)) : gb364 ≠ gb383));have n11_:=aK ((by rw [hg];exact Nat.ne_of_gt (blk_lt (bX BK364.out)) : gb383 ≠ gb364));have n12_:=aK ((by rw [hg];exact Nat.ne_of_lt (blk_lt (bX BK365.out)) : gb365 ≠ gb383));have n13_:=aK ((by rw [hg];exact Nat.ne_of_gt (blk_lt (bX BK365.out)) : gb383 ≠ gb365));have n14_:=aK ((by rw [hg];exact Nat.ne_of_lt (blk_lt (bX BK366.out)) : gb366 ≠ gb383));have n15_:=aK ((by rw [hg];exact Nat.ne_of_gt (blk_lt (bX BK366.out)) : gb383 ≠ gb366));clear HO371;clear HO376;clear HO382;clear BK364;clear BK365;clear BK366;clear HB;have HO371:=n0_;have HO376:=n1_;have HO382:=n2_;have BK364:=n3_;have BK365:=n4_;have BK366:=n5_;have HB:=n6_;have BK383:=n7_;have GW383:=n8_;have GE383:=n9_;have NB364_383:=n10_;have NB383_364:=n11_;have NB365_383:=n12_;have NB383_365:=n13_;have NB366_383:=n14_;have NB383_366:=n15_;clear n0_ n1_ n2_ n3_ n4_ n5_ n6_ n7_ n8_ n9_ n10_ n11_ n12_ n13_ n14_ n15_;clear hb hbox hg;obtain ⟨Ao98,co98,eo98⟩:=Kd.S_slice HO382.out;subst eo98;have hnb99:=NB383_364.out;have hnc99:=NB364_383.out;have hnb100:=NB383_365.out;have hnc100:=NB365_383.out;have hnb101:=NB383_366.out;have hnc101:=NB366_383.out;have hcz102_0 : w97.cell? ⟨gb383,0,none⟩ = some (.slice none 0 0):=(bC BK383.out 0).trans rfl;have hfz102_0:=blk_frozen BK383.out 0;have hcz103_0 : w97.cell? ⟨gb365,0,none⟩ = some (.int .i64 a1_0):=(bC BK365.out 0).trans rfl;have hcz103_1 : w97.cell? ⟨gb365,1,none⟩ = some (.int .i64 a1_1):=(bC BK365.out 1).trans rfl;have hcz103_2 : w97.cell? ⟨gb365,2,none⟩ = some (.slice A1_2 l1_2.length c1_2):=(bC BK365.out 2).trans rfl;have hfz103_0:=blk_frozen BK365.out 0;have hfz103_1:=blk_frozen BK365.out 1;have hfz103_2:=blk_frozen BK365.out 2)|((with_reducible refine gate_callee (f:=24) rfl ?_);refine goesL_ (some 32) rfl rfl Try.func24 (by kernel_rfl) rfl #[.agg #[.int .i64 a1_0,.int .i64 a1_1,.slice A1_2 l1_2.length c1_2]] rfl (by (try simp only [mA,mC,mN]);first|done|rfl) ?_;(with_reducible refine (laws_toPlay.calls k a1_0 a1_1 _ _ l1_2 t384 t385 t386 _ ?side1 ?side2 A30.out).mono ?_);(case side1=>exact Kd.C_below HR1_2.out (bW HB.out));(case side2=>exact HC1_2.out);rintro e w104 ⟨v387,rfl,ho0,hb⟩;refine ⟨_,rfl,?_⟩;have n0_:=aK (Kd.S_elder' (by (with_reducible repeat first|apply Kd.S_alloc|apply Kd.S_drewN|apply Kd.S_drew);exact (Kd.S_mono (Kd.S_far (p:=⟨gb383,0,none⟩) (Kd.S_types HO371.out BK383.out (by decide)) (fun _ hk=>by first|exact hk.2|exact aP hk) (.slice Ao98 t380.length co98)) (fun _ h_=>h_.1))) (Kd.R_base ho0) hb);have n1_:=aK (Kd.R_elder' (by (with_reducible repeat first|apply Kd.R_alloc|apply Kd.R_drewN|apply Kd.R_drew);exact (Kd.R_mono (Kd.R_far (p:=⟨gb383,0,none⟩) (Kd.R_types HO376.out BK383.out (by decide)) (fun _ hk=>by first|exact hk.2|exact aP hk) (.slice Ao98 t380.length co98)) (fun _ h_=>h_.1))) (Kd.R_base ho0) hb);have n2_:=aK (Kd.S_elder' (by (with_reducible repeat first|apply Kd.S_alloc|apply Kd.S_drewN|apply Kd.S_drew);exact (Kd.S_mono (Kd.S_far (p:=⟨gb383,0,none⟩) (Kd.S_types HO382.out BK383.out (by decide)) (fun _ hk=>by first|exact hk.2|exact aP hk) (.slice Ao98 t380.length co98)) (fun _ h_=>h_.1))) (Kd.R_base ho0) hb);have n3_:=aK (Kd.R_lower (Kd.R_new' ho0 (Kd.R_lt (by (with_reducible repeat first|apply Kd.R_alloc|apply Kd.R_drewN|apply Kd.R_drew);exact (Kd.R_mono (Kd.R_far (p:=⟨gb383,0,none⟩) (Kd.R_types HO376.out BK383.out (by decide)) (fun _ hk=>by first|exact hk.2|exact aP hk) (.slice Ao98 t380.length co98)) (fun _ h_=>h_.1))))) (below_size (bW HB.out)));have n4_:=aK (bB (g:=gb364) (o:=.cells #[.slice A0_0 l0_0.length c0_0] 41 (0,0)) (by (with_reducible repeat first|apply bN|apply bD|apply bA);refine blk_far ?_ NB364_383.out _;(with_reducible repeat first|apply bN|apply bD|apply bA);exact BK364.out) hb);have n5_:=aK (bB (g:=gb365) (o:=.cells #[.int .i64 a1_0,.int .i64 a1_1,.slice A1_2 l1_2.length c1_2] 24 (0,0)) (by (with_reducible repeat first|apply bN|apply bD|apply bA);refine blk_far ?_ NB365_383.out _;(with_reducible repeat first|apply bN|apply bD|apply bA);exact BK365.out) hb);have n6_:=aK (bB (g:=gb366) (o:=.cells #[.int .i64 a2_0,.int .i64 a2_1] 50 (0,0)) (by (with_reducible repeat first|apply bN|apply bD|apply bA);refine blk_far ?_ NB366_383.out _;(with_reducible repeat first|apply bN|apply bD|apply bA);exact BK366.out) hb);have n7_:=aK (bB (g:=gb383) (o:=.cells #[.slice Ao98 t380.length co98] 44 (0,0)) (by (with_reducible repeat first|apply bN|apply bD|apply bA);refine blk_put (cs:=#[.slice none 0 0]) ?_ 0 _ rfl;(with_reducible repeat first|apply bN|apply bD|apply bA);exact BK383.out) hb);have n8_:=aK (below_step (bW HB.out) hb);clear HO371;clear HO376;clear HO382;clear BK364;clear BK365;clear BK366;clear BK383;clear HB;have HO371:=n0_;have HO376:=n1_;have HO382:=n2_;have HO388:=n3_;have BK364:=n4_;have BK365:=n5_;have BK366:=n6_;have BK383:=n7_;have HB:=n8_;clear n0_ n1_ n2_ n3_ n4_ n5_ n6_ n7_ n8_;(try clear hb);(try clear hb2);(try clear hk);(try clear hi);(try clear ho0))|((with_reducible refine gate_dst (N:=10) rfl ?_);refine box_event ?hg (N:=10) ?hd (cs:=#[.int .i64 0,.int .i64 0,.slice none 0 0]) (t:=27) ?hr ?_;(case hd=>rfl);(case hg=>rfl);(case hr=>first|(go_simp;done)|(go_simp;rfl));intro gb389 hg w105 hbox hb;have n0_:=aK (Kd.S_below (sX HO371.out) hb);have n1_:=aK (Kd.R_below (rX HO376.out) hb);have n2_:=aK (Kd.S_below (sX HO382.out) hb);have n3_:=aK (Kd.R_below (rX HO388.out) hb);have n4_:=aK (bB (bX BK364.out) hb);have n5_:=aK (bB (bX BK365.out) hb);have n6_:=aK (bB (bX BK366.out) hb);have n7_:=aK (bB (bX BK383.out) hb);have n8_:=aK (below_step (bW HB.out) hb);have n9_:=aK (hbox);have n10_:=aK ((by rw [hg];exact (below_size (bW HB.out)) : w.heap.size ≤ gb389));have n11_:=aK ((by rw [hg];exact (below_size (bW HB.out)) : w.heap.size ≤ gb389));have n12_:=aK ((by rw [hg];exact Nat.ne_of_lt (blk_lt (bX BK364.out)) : gb364 ≠ gb389));have n13_:=aK ((by rw [hg];exact Nat.ne_of_gt (blk_lt (bX BK364.out)) : gb389 ≠ gb364));have n14_:=aK ((by rw [hg];exact Nat.ne_of_lt (blk_lt (bX BK365.out)) : gb365 ≠ gb389));have n15_:=aK ((by rw [hg];exact Nat.ne_of_gt (blk_lt (bX BK365.out)) : gb389 ≠ gb365));have n16_:=aK ((by rw [hg];exact Nat.ne_of_lt (blk_lt (bX BK366.out)) : gb366 ≠ gb389));have n17_:=aK ((by rw [hg];exact Nat.ne_of_gt (blk_lt (bX BK366.out)) : gb389 ≠ gb366));have n18_:=aK ((by rw [hg];exact Nat.ne_of_lt (blk_lt (bX BK383.out)) : gb383 ≠ gb389));have n19_:=aK ((by rw [hg];exact Nat.ne_of_gt (blk_lt (bX BK383.out)) : gb389 ≠ gb383));clear HO371;clear HO376;clear HO382;clear HO388;clear BK364;clear BK365;clear BK366;clear BK383;clear HB;have HO371:=n0_;have HO376:=n1_;have HO382:=n2_;have HO388:=n3_;have BK364:=n4_;have BK365:=n5_;have BK366:=n6_;have BK383:=n7_;have HB:=n8_;have BK389:=n9_;have GW389:=n10_;have GE389:=n11_;have NB364_389:=n12_;have NB389_364:=n13_;have NB365_389:=n14_;have NB389_365:=n15_;have NB366_389:=n16_;have NB389_366:=n17_;have NB383_389:=n18_;have NB389_383:=n19_;clear n0_ n1_ n2_ n3_ n4_ n5_ n6_ n7_ n8_ n9_ n10_ n11_ n12_ n13_ n14_ n15_ n16_ n17_ n18_ n19_;clear hb hbox hg;have hnb106:=NB389_364.out;have hnc106:=NB364_389.out;have hnb107:=NB389_365.out;have hnc107:=NB365_389.out;have hnb108:=NB389_366.out;have hnc108:=NB366_389.out;have hnb109:=NB389_383.out;have hnc109:=NB383_389.out;have hcz110_0 : w105.cell? ⟨gb389,0,none⟩ = some (.int .i64 0):=(bC BK389.out 0).trans rfl;have hcz110_1 : w105.cell? ⟨gb389,1,none⟩ = some (.int .i64 0):=(bC BK389.out 1).trans rfl;have hcz110_2 : w105.cell? ⟨gb389,2,none⟩ = some (.slice none 0 0):=(bC BK389.out 2).trans rfl;have hfz110_0:=blk_frozen BK389.out 0;have hfz110_1:=blk_frozen BK389.out 1;have hfz110_2:=blk_frozen BK389.out 2;obtain ⟨Ao111,co111,eo111⟩:=Kd.R_slice HO388.out;subst eo111))
      have n0_ : Aside0 (Kd.S (Kd.slice 2 (Kd.int .i64)) 22 (((w105.setCell ⟨gb389,0,none⟩ (.int .i64 t384)).setCell ⟨gb389,1,none⟩ (.int .i64 t385)).setCell ⟨gb389,2,none⟩ (.slice Ao111 t386.length co111)) w.heap.size (fun k_=>some k_ ≠ (.slice Ao93 t374.length co93 : Value).ownBlock ∧ some k_ ≠ (.slice Ao98 t380.length co98 : Value).ownBlock ∧ some k_ ≠ (.slice Ao111 t386.length co111 : Value).ownBlock) (.slice Ao92 t369.length co92) t369):=⟨by (with_reducible repeat first|apply Kd.S_alloc|apply Kd.S_drewN|apply Kd.S_drew);exact Kd.S_mono (Kd.S_far (p:=⟨gb389,2,none⟩) (Kd.S_far (p:=⟨gb389,1,none⟩) (Kd.S_far (p:=⟨gb389,0,none⟩) (Kd.S_types HO371.out BK389.out (by decide)) (fun _ hk=>by first|exact hk.2|exact aP hk) (.int .i64 t384)) (fun _ hk=>by first|exact hk.2|exact aP hk) (.int .i64 t385)) (fun _ hk=>by first|exact hk.2|exact aP hk) (.slice Ao111 t386.length co111)) (fun _ hk=>by first|exact ⟨hk.1.1.1.2,⟨hk.1.1.2,hk.1.2⟩⟩|exact aP hk)⟩
      have n1_ : Aside0 (Kd.R (Kd.int .i64) 2 (((w105.setCell ⟨gb389,0,none⟩ (.int .i64 t384)).setCell ⟨gb389,1,none⟩ (.int .i64 t385)).setCell ⟨gb389,2,none⟩ (.slice Ao111 t386.length co111)) w.heap.size (fun k_=>some k_ ≠ (.slice Ao111 t386.length co111 : Value).ownBlock) (.slice Ao93 t374.length co93) t374):=⟨by (with_reducible repeat first|apply Kd.R_alloc|apply Kd.R_drewN|apply Kd.R_drew);exact Kd.R_mono (Kd.R_far (p:=⟨gb389,2,none⟩) (Kd.R_far (p:=⟨gb389,1,none⟩) (Kd.R_far (p:=⟨gb389,0,none⟩) (Kd.R_types HO376.out BK389.out (by decide)) (fun _ hk=>by first|exact hk.2|exact aP hk) (.int .i64 t384)) (fun _ hk=>by first|exact hk.2|exact aP hk) (.int .i64 t385)) (fun _ hk=>by first|exact hk.2|exact aP hk) (.slice Ao111 t386.length co111)) (fun _ hk=>hk.1.2)⟩
      have n2_ : Aside0 (Kd.S (Kd.slice 2 (Kd.int .i64)) 22 (((w105.setCell ⟨gb389,0,none⟩ (.int .i64 t384)).setCell ⟨gb389,1,none⟩ (.int .i64 t385)).setCell ⟨gb389,2,none⟩ (.slice Ao111 t386.length co111)) w.heap.size (fun k_=>some k_ ≠ (.slice Ao92 t369.length co92 : Value).ownBlock ∧ some k_ ≠ (.slice Ao93 t374.length co93 : Value).ownBlock ∧ some k_ ≠ (.slice Ao111 t386.length co111 : Value).ownBlock) (.slice Ao98 t380.length co98) t380):=⟨by (with_reducible repeat first|apply Kd.S_alloc|apply Kd.S_drewN|apply Kd.S_drew);exact Kd.S_mono (Kd.S_far (p:=⟨gb389,2,none⟩) (Kd.S_far (p:=⟨gb389,1,none⟩) (Kd.S_far (p:=⟨gb389,0,none⟩) (Kd.S_types HO382.out BK389.out (by decide)) (fun _ hk=>by first|exact hk.2|exact aP hk) (.int .i64 t384)) (fun _ hk=>by first|exact hk.2|exact aP hk) (.int .i64 t385)) (fun _ hk=>by first|exact hk.2|exact aP hk) (.slice Ao111 t386.length co111)) (fun _ hk=>by first|exact ⟨hk.1.1.1.2,⟨hk.1.1.2,hk.1.2⟩⟩|exact aP hk)⟩
      have n3_ : Aside0 (Kd.R (Kd.int .i64) 2 (((w105.setCell ⟨gb389,0,none⟩ (.int .i64 t384)).setCell ⟨gb389,1,none⟩ (.int .i64 t385)).setCell ⟨gb389,2,none⟩ (.slice Ao111 t386.length co111)) w.heap.size (fun k_=>some k_ ≠ (.slice Ao93 t374.length co93 : Value).ownBlock) (.slice Ao111 t386.length co111) t386):=⟨by (with_reducible repeat first|apply Kd.R_alloc|apply Kd.R_drewN|apply Kd.R_drew);exact Kd.R_mono (Kd.R_far (p:=⟨gb389,2,none⟩) (Kd.R_far (p:=⟨gb389,1,none⟩) (Kd.R_far (p:=⟨gb389,0,none⟩) (Kd.R_types HO388.out BK389.out (by decide)) (fun _ hk=>by first|exact hk.2|exact aP hk) (.int .i64 t384)) (fun _ hk=>by first|exact hk.2|exact aP hk) (.int .i64 t385)) (fun _ hk=>by first|exact hk.2|exact aP hk) (.slice Ao111 t386.length co111)) (fun _ hk=>hk.1.2)⟩
      have n4_ : Aside0 ((((w105.setCell ⟨gb389,0,none⟩ (.int .i64 t384)).setCell ⟨gb389,1,none⟩ (.int .i64 t385)).setCell ⟨gb389,2,none⟩ (.slice Ao111 t386.length co111)).heap[gb364]? = some (.cells #[.slice A0_0 l0_0.length c0_0] 41 (0,0))):=⟨by (with_reducible repeat first|apply bN|apply bD|apply bA);refine blk_far ?_ NB364_389.out _;(with_reducible repeat first|apply bN|apply bD|apply bA);refine blk_far ?_ NB364_389.out _;(with_reducible repeat first|apply bN|apply bD|apply bA);refine blk_far ?_ NB364_389.out _;(with_reducible repeat first|apply bN|apply bD|apply bA);exact BK364.out⟩
      have n5_ : Aside0 ((((w105.setCell ⟨gb389,0,none⟩ (.int .i64 t384)).setCell ⟨gb389,1,none⟩ (.int .i64 t385)).setCell ⟨gb389,2,none⟩ (.slice Ao111 t386.length co111)).heap[gb365]? = some (.cells #[.int .i64 a1_0,.int .i64 a1_1,.slice A1_2 l1_2.length c1_2] 24 (0,0))):=⟨by (with_reducible repeat first|apply bN|apply bD|apply bA);refine blk_far ?_ NB365_389.out _;(with_reducible repeat first|apply bN|apply bD|apply bA);refine blk_far ?_ NB365_389.out _;(with_reducible repeat first|apply bN|apply bD|apply bA);refine blk_far ?_ NB365_389.out _;(with_reducible repeat first|apply bN|apply bD|apply bA);exact BK365.out⟩
      have n6_ : Aside0 ((((w105.setCell ⟨gb389,0,none⟩ (.int .i64 t384)).setCell ⟨gb389,1,none⟩ (.int .i64 t385)).setCell ⟨gb389,2,none⟩ (.slice Ao111 t386.length co111)).heap[gb366]? = some (.cells #[.int .i64 a2_0,.int .i64 a2_1] 50 (0,0))):=⟨by (with_reducible repeat first|apply bN|apply bD|apply bA);refine blk_far ?_ NB366_389.out _;(with_reducible repeat first|apply bN|apply bD|apply bA);refine blk_far ?_ NB366_389.out _;(with_reducible repeat first|apply bN|apply bD|apply bA);refine blk_far ?_ NB366_389.out _;(with_reducible repeat first|apply bN|apply bD|apply bA);exact BK366.out⟩
      have n7_ : Aside0 ((((w105.setCell ⟨gb389,0,none⟩ (.int .i64 t384)).setCell ⟨gb389,1,none⟩ (.int .i64 t385)).setCell ⟨gb389,2,none⟩ (.slice Ao111 t386.length co111)).heap[gb383]? = some (.cells #[.slice Ao98 t380.length co98] 44 (0,0))):=⟨by (with_reducible repeat first|apply bN|apply bD|apply bA);refine blk_far ?_ NB383_389.out _;(with_reducible repeat first|apply bN|apply bD|apply bA);refine blk_far ?_ NB383_389.out _;(with_reducible repeat first|apply bN|apply bD|apply bA);refine blk_far ?_ NB383_389.out _;(with_reducible repeat first|apply bN|apply bD|apply bA);exact BK383.out⟩
      have n8_ : Aside0 ((((w105.setCell ⟨gb389,0,none⟩ (.int .i64 t384)).setCell ⟨gb389,1,none⟩ (.int .i64 t385)).setCell ⟨gb389,2,none⟩ (.slice Ao111 t386.length co111)).heap[gb389]? = some (.cells #[.int .i64 t384,.int .i64 t385,.slice Ao111 t386.length co111] 27 (0,0))):=⟨by (with_reducible repeat first|apply bN|apply bD|apply bA);refine blk_put (cs:=#[.int .i64 t384,.int .i64 t385,.slice none 0 0]) ?_ 2 _ rfl;(with_reducible repeat first|apply bN|apply bD|apply bA);refine blk_put (cs:=#[.int .i64 t384,.int .i64 0,.slice none 0 0]) ?_ 1 _ rfl;(with_reducible repeat first|apply bN|apply bD|apply bA);refine blk_put (cs:=#[.int .i64 0,.int .i64 0,.slice none 0 0]) ?_ 0 _ rfl;(with_reducible repeat first|apply bN|apply bD|apply bA);exact BK389.out⟩
      have n9_ : Aside0 (Below w.heap.size w (((w105.setCell ⟨gb389,0,none⟩ (.int .i64 t384)).setCell ⟨gb389,1,none⟩ (.int .i64 t385)).setCell ⟨gb389,2,none⟩ (.slice Ao111 t386.length co111))):=⟨bW HB.out⟩
      (try clear HO371)
      (try clear HO376)
      (try clear HO382)
      (try clear HO388)
      (try clear BK364)
      (try clear BK365)
      (try clear BK366)
      (try clear BK383)
      (try clear BK389)
      (try clear HB)
      generalize (((w105.setCell ⟨gb389,0,none⟩ (.int .i64 t384)).setCell ⟨gb389,1,none⟩ (.int .i64 t385)).setCell ⟨gb389,2,none⟩ (.slice Ao111 t386.length co111)) = w112 at n0_ n1_ n2_ n3_ n4_ n5_ n6_ n7_ n8_ n9_ ⊢
      have HO371:=n0_
      have HO376:=n1_
      have HO382:=n2_
      have HO388:=n3_
      have BK364:=n4_
      have BK365:=n5_
      have BK366:=n6_
      have BK383:=n7_
      have BK389:=n8_
      have HB:=n9_
      clear n0_ n1_ n2_ n3_ n4_ n5_ n6_ n7_ n8_ n9_
      have n0_:=aK (Kd.S_drew HO371.out)
      have n1_:=aK (Kd.R_drew HO376.out)
      have n2_:=aK (Kd.S_drew HO382.out)
      have n3_:=aK (Kd.R_drew HO388.out)
      have n4_:=aK (bD BK364.out)
      have n5_:=aK (bD BK365.out)
      have n6_:=aK (bD BK366.out)
      have n7_:=aK (bD BK383.out)
      have n8_:=aK (bD BK389.out)
      have n9_:=aK (b1 HB.out)
      clear HO371
      clear HO376
      clear HO382
      clear HO388
      clear BK364
      clear BK365
      clear BK366
      clear BK383
      clear BK389
      clear HB
      have HO371:=n0_
      have HO376:=n1_
      have HO382:=n2_
      have HO388:=n3_
      have BK364:=n4_
      have BK365:=n5_
      have BK366:=n6_
      have BK383:=n7_
      have BK389:=n8_
      have HB:=n9_
      clear n0_ n1_ n2_ n3_ n4_ n5_ n6_ n7_ n8_ n9_
      refine start_ (n:=6) (S:=fun w'=>w'.cell? ⟨gb383,0,none⟩ = some (.slice Ao98 t380.length co98) ∧ w'.cell? ⟨gb389,0,none⟩ = some (.int .i64 t384) ∧ w'.cell? ⟨gb389,1,none⟩ = some (.int .i64 t385) ∧ w'.cell? ⟨gb389,2,none⟩ = some (.slice Ao111 t386.length co111) ∧ w'.cell? ⟨gb366,0,none⟩ = some (.int .i64 a2_0) ∧ w'.cell? ⟨gb366,1,none⟩ = some (.int .i64 a2_1)) (ds:=[]) #[false,false,false,false,false,false] (by kernel_rfl) rfl rfl ⟨(bC BK383.out 0).trans rfl,(bC BK389.out 0).trans rfl,(bC BK389.out 1).trans rfl,(bC BK389.out 2).trans rfl,(bC BK366.out 0).trans rfl,(bC BK366.out 1).trans rfl⟩ (fun hHeld=>?_)
      generalize w112.drew = w113 at HO371 HO376 HO382 HO388 BK364 BK365 BK366 BK383 BK389 HB hHeld ⊢
      refine take_ (i:=0) (N:=some 33) (v:=?_) (a':=?_) #[true,false,false,false,false,false] rfl rfl (by kernel_rfl) (fun _ _ _ h=>h) (Or.inl ⟨by rfl,?_⟩) hHeld ?_ ?_
      rotate_left
      ·rintro w' ⟨s0,s1,s2,s3,s4,s5⟩
       go_simp
       with_reducible rfl
      rotate_left
      ·simp only [Act.put,lA,l0',lS,i64_w,i32_w]
       rfl
      refine take_ (i:=1) (N:=some 34) (v:=?_) (a':=?_) #[true,true,false,false,false,false] rfl rfl (by kernel_rfl) (fun _ _ _ h=>h) (Or.inl ⟨by rfl,?_⟩) hHeld ?_ ?_
      rotate_left
      ·rintro w' ⟨s0,s1,s2,s3,s4,s5⟩
       go_simp
       with_reducible rfl
      rotate_left
      ·simp only [Act.put,lA,l0',lS,i64_w,i32_w]
       rfl
      refine take_ (i:=2) (N:=some 35) (v:=?_) (a':=?_) #[true,true,true,false,false,false] rfl rfl (by kernel_rfl) (fun _ _ _ h=>h) (Or.inl ⟨by rfl,?_⟩) hHeld ?_ ?_
      rotate_left
      ·rintro w' ⟨s0,s1,s2,s3,s4,s5⟩
       go_simp
       with_reducible rfl
      rotate_left
      ·simp only [Act.put,lA,l0',lS,i64_w,i32_w]
       rfl
      refine one_ (i:=3) (N:=some 36) #[true,true,true,true,false,false] rfl rfl (by kernel_rfl) (by decide) (fun K hK=>?_)
      refine goes_ Try.func50 (by kernel_rfl) rfl #[.agg #[.int .i64 a2_0,.int .i64 a2_1]] (by rfl) rfl rfl (by (try simp only [mA,mC,mN]);first|done|rfl) ?_
      with_reducible refine (laws_toClaim.calls a2_0 a2_1 t390 t391 _ A31.out).mono ?_
      rintro e w114 ⟨rfl,hb⟩
      refine ⟨_,rfl,?_⟩
      have n0_:=aK (Kd.S_below (sX HO371.out) hb)
      have n1_:=aK (Kd.R_below (rX HO376.out) hb)
      have n2_:=aK (Kd.S_below (sX HO382.out) hb)
      have n3_:=aK (Kd.R_below (rX HO388.out) hb)
      have n4_:=aK (bB (bX BK364.out) hb)
      have n5_:=aK (bB (bX BK365.out) hb)
      have n6_:=aK (bB (bX BK366.out) hb)
      have n7_:=aK (bB (bX BK383.out) hb)
      have n8_:=aK (bB (bX BK389.out) hb)
      have n9_:=aK (below_step (bW HB.out) hb)
      clear HO371
      clear HO376
      clear HO382
      clear HO388
      clear BK364
      clear BK365
      clear BK366
      clear BK383
      clear BK389
      clear HB
      have HO371:=n0_
      have HO376:=n1_
      have HO382:=n2_
      have HO388:=n3_
      have BK364:=n4_
      have BK365:=n5_
      have BK366:=n6_
      have BK383:=n7_
      have BK389:=n8_
      have HB:=n9_
      clear n0_ n1_ n2_ n3_ n4_ n5_ n6_ n7_ n8_ n9_
      (try clear hb)
      (try clear hb2)
      (try clear hk)
      (try clear hi)
      refine hK.out _ _ ⟨(bC BK383.out 0).trans rfl,(bC BK389.out 0).trans rfl,(bC BK389.out 1).trans rfl,(bC BK389.out 2).trans rfl,(bC BK366.out 0).trans rfl,(bC BK366.out 1).trans rfl⟩ (fun hHeld=>?_)
      clear hK K
      refine norm_ (a':=?_) ?_ ?_
      rotate_left
      ·show Act.put _ (some 36) _ = _
       simp only [Act.put,lA,l0',lS,i64_w,i32_w]
       rfl
      refine one_ (i:=4) (N:=some 37) #[true,true,true,true,true,false] rfl rfl (by kernel_rfl) (by decide) (fun K hK=>?_)
      refine goes_ Try.func51 (by kernel_rfl) rfl #[.agg #[.slice Ao98 t380.length co98],.agg #[.int .i64 t384,.int .i64 t385,.slice Ao111 t386.length co111],.agg #[.int .i64 t390,.int .i64 t391]] (by rfl) rfl rfl (by (try simp only [mA,mC,mN]);first|done|rfl) ?_
      with_reducible refine (impl_IsClaim.calls k _ _ t380 t384 t385 _ _ t386 t390 t391 t392 _ ?side1 ?side2 ?side3 ?side4 A32.out).mono ?_
      (case side1=>repeat (first|exact (Kd.S_reads' HO382.out).2.2|(with_reducible refine Kd.C_alloc ?_ _)|(with_reducible refine Kd.C_drewN ?_ _)|(with_reducible refine Kd.C_drew ?_)))
      (case side2=>exact (Kd.S_reads' HO382.out).2.1)
      (case side3=>repeat (first|exact (Kd.R_reads' HO388.out).2.2|(with_reducible refine Kd.C_alloc ?_ _)|(with_reducible refine Kd.C_drewN ?_ _)|(with_reducible refine Kd.C_drew ?_)))
      (case side4=>exact (Kd.R_reads' HO388.out).2.1)
      rintro e w115 ⟨rfl,hb⟩
      refine ⟨_,rfl,?_⟩
      have n0_:=aK (Kd.S_below (sX HO371.out) hb)
      have n1_:=aK (Kd.R_below (rX HO376.out) hb)
      have n2_:=aK (Kd.S_below (sX HO382.out) hb)
      have n3_:=aK (Kd.R_below (rX HO388.out) hb)
      have n4_:=aK (bB (bX BK364.out) hb)
      have n5_:=aK (bB (bX BK365.out) hb)
      have n6_:=aK (bB (bX BK366.out) hb)
      have n7_:=aK (bB (bX BK383.out) hb)
      have n8_:=aK (bB (bX BK389.out) hb)
      have n9_:=aK (below_step (bW HB.out) hb)
      clear HO371
      clear HO376
      clear HO382
      clear HO388
      clear BK364
      clear BK365
      clear BK366
      clear BK383
      clear BK389
      clear HB
      have HO371:=n0_
      have HO376:=n1_
      have HO382:=n2_
      have HO388:=n3_
      have BK364:=n4_
      have BK365:=n5_
      have BK366:=n6_
      have BK383:=n7_
      have BK389:=n8_
      have HB:=n9_
      clear n0_ n1_ n2_ n3_ n4_ n5_ n6_ n7_ n8_ n9_
      (try clear hb)
      (try clear hb2)
      (try clear hk)
      (try clear hi)
      refine hK.out _ _ ⟨(bC BK383.out 0).trans rfl,(bC BK389.out 0).trans rfl,(bC BK389.out 1).trans rfl,(bC BK389.out 2).trans rfl,(bC BK366.out 0).trans rfl,(bC BK366.out 1).trans rfl⟩ (fun hHeld=>?_)
      clear hK K
      refine norm_ (a':=?_) ?_ ?_
      rotate_left
      ·show Act.put _ (some 37) _ = _
       simp only [Act.put,lA,l0',lS,i64_w,i32_w]
       rfl
      refine pure_ (i:=5) (N:=some 11) (v:=?_) (a':=?_) #[true,true,true,true,true,true] rfl rfl (by kernel_rfl) (fun _ _ _ h=>h) (Or.inl ⟨by rfl,?_⟩) ?_ ?_
      rotate_left
      ·intro w'
       go_simp
       with_reducible rfl
      rotate_left
      ·simp only [Act.put,lA,l0',lS,i64_w,i32_w]
       rfl
      refine done_ (by kernel_rfl) ?_
      try go_wp2
      have n0_:=aK (Kd.S_drew HO371.out)
      have n1_:=aK (Kd.R_drew HO376.out)
      have n2_:=aK (Kd.S_drew HO382.out)
      have n3_:=aK (Kd.R_drew HO388.out)
      have n4_:=aK (bD BK364.out)
      have n5_:=aK (bD BK365.out)
      have n6_:=aK (bD BK366.out)
      have n7_:=aK (bD BK383.out)
      have n8_:=aK (bD BK389.out)
      have n9_:=aK (b1 HB.out)
      clear HO371
      clear HO376
      clear HO382
      clear HO388
      clear BK364
      clear BK365
      clear BK366
      clear BK383
      clear BK389
      clear HB
      have HO371:=n0_
      have HO376:=n1_
      have HO382:=n2_
      have HO388:=n3_
      have BK364:=n4_
      have BK365:=n5_
      have BK366:=n6_
      have BK383:=n7_
      have BK389:=n8_
      have HB:=n9_
      clear n0_ n1_ n2_ n3_ n4_ n5_ n6_ n7_ n8_ n9_
      refine start_ (n:=5) (S:=fun w'=>w'.cell? ⟨gb383,0,none⟩ = some (.slice Ao98 t380.length co98) ∧ w'.cell? ⟨gb364,0,none⟩ = some (.slice A0_0 l0_0.length c0_0)) (ds:=[]) #[false,false,false,false,false] (by kernel_rfl) rfl rfl ⟨(bC BK383.out 0).trans rfl,(bC BK364.out 0).trans rfl⟩ (fun hHeld=>?_)
      generalize w115.drew = w116 at HO371 HO376 HO382 HO388 BK364 BK365 BK366 BK383 BK389 HB hHeld ⊢
      refine take_ (i:=0) (N:=some 41) (v:=?_) (a':=?_) #[true,false,false,false,false] rfl rfl (by kernel_rfl) (fun _ _ _ h=>h) (Or.inl ⟨by rfl,?_⟩) hHeld ?_ ?_
      rotate_left
      ·rintro w' ⟨s0,s1⟩
       go_simp
       with_reducible rfl
      rotate_left
      ·simp only [Act.put,lA,l0',lS,i64_w,i32_w]
       rfl
      refine take_ (i:=1) (N:=some 42) (v:=?_) (a':=?_) #[true,true,false,false,false] rfl rfl (by kernel_rfl) (fun _ _ _ h=>h) (Or.inl ⟨by rfl,?_⟩) hHeld ?_ ?_
      rotate_left
      ·rintro w' ⟨s0,s1⟩
       go_simp
       with_reducible rfl
      rotate_left
      ·simp only [Act.put,lA,l0',lS,i64_w,i32_w]
       rfl
      refine one_ (i:=2) (N:=some 43) #[true,true,true,false,false] rfl rfl (by kernel_rfl) (by decide) (fun K hK=>?_)
      refine goes_ Try.func42 (by kernel_rfl) rfl #[.agg #[.slice A0_0 l0_0.length c0_0]] (by rfl) rfl rfl (by (try simp only [mA,mC,mN]);first|done|rfl) ?_
      with_reducible refine (laws_toDeal.calls k _ _ l0_0 t393 _ ?side1 ?side2 A72.out).mono ?_
      (case side1=>repeat (first|exact (Kd.C_below HR0_0.out HB.out)|(with_reducible refine Kd.C_alloc ?_ _)|(with_reducible refine Kd.C_drewN ?_ _)|(with_reducible refine Kd.C_drew ?_)))
      (case side2=>exact HC0_0.out)
      rintro e w117 ⟨v394,rfl,ho0,hb⟩
      refine ⟨_,rfl,?_⟩
      have n0_:=aK (Kd.S_elder' (sX HO371.out) (Kd.S_base ho0) hb)
      have n1_:=aK (Kd.R_below (rX HO376.out) hb)
      have n2_:=aK (Kd.S_elder' (sX HO382.out) (Kd.S_base ho0) hb)
      have n3_:=aK (Kd.R_below (rX HO388.out) hb)
      have n4_:=aK (Kd.S_lower (Kd.S_new' (Kd.S_new' (Kd.S_new' (Kd.S_new' ho0 (Kd.S_lt (sX HO371.out))) (Kd.R_lt (rX HO376.out))) (Kd.S_lt (sX HO382.out))) (Kd.R_lt (rX HO388.out))) (below_size (bW HB.out)))
      have n5_:=aK (bB (bX BK364.out) hb)
      have n6_:=aK (bB (bX BK365.out) hb)
      have n7_:=aK (bB (bX BK366.out) hb)
      have n8_:=aK (bB (bX BK383.out) hb)
      have n9_:=aK (bB (bX BK389.out) hb)
      have n10_:=aK (below_step (bW HB.out) hb)
      clear HO371
      clear HO376
      clear HO382
      clear HO388
      clear BK364
      clear BK365
      clear BK366
      clear BK383
      clear BK389
      clear HB
      have HO371:=n0_
      have HO376:=n1_
      have HO382:=n2_
      have HO388:=n3_
      have HO395:=n4_
      have BK364:=n5_
      have BK365:=n6_
      have BK366:=n7_
      have BK383:=n8_
      have BK389:=n9_
      have HB:=n10_
      clear n0_ n1_ n2_ n3_ n4_ n5_ n6_ n7_ n8_ n9_ n10_
      (try clear hb)
      (try clear hb2)
      (try clear hk)
      (try clear hi)
      (try clear ho0)
      obtain ⟨Ao118,co118,eo118⟩:=Kd.S_slice HO395.out
      (first|subst eo118|(injection eo118 with f1_ f2_ f3_;have f4_:=f1_.symm;have f5_:=f3_.symm;clear f1_ f2_ f3_;subst f4_;subst f5_))
      refine hK.out _ _ ⟨(bC BK383.out 0).trans rfl,(bC BK364.out 0).trans rfl⟩ (fun hHeld=>?_)
      clear hK K
      refine norm_ (a':=?_) ?_ ?_
      rotate_left
      ·show Act.put _ (some 43) _ = _
       simp only [Act.put,lA,l0',lS,i64_w,i32_w]
       rfl
      refine one_ (i:=3) (N:=some 44) #[true,true,true,true,false] rfl rfl (by kernel_rfl) (by decide) (fun K hK=>?_)
      refine goes_ Try.func44 (by kernel_rfl) rfl #[.agg #[.slice Ao98 t380.length co98],.agg #[.slice Ao118 t393.length co118]] (by rfl) rfl rfl (by (try simp only [mA,mC,mN]);first|done|rfl) ?_
      with_reducible refine (laws_eqDeal.calls k _ _ t380 _ _ t393 true _ ?side1 ?side2 ?side3 ?side4 A73.out).mono ?_
      (case side1=>repeat (first|exact (Kd.S_reads' HO382.out).2.2|(with_reducible refine Kd.C_alloc ?_ _)|(with_reducible refine Kd.C_drewN ?_ _)|(with_reducible refine Kd.C_drew ?_)))
      (case side2=>exact (Kd.S_reads' HO382.out).2.1)
      (case side3=>repeat (first|exact (Kd.S_reads' HO395.out).2.2|(with_reducible refine Kd.C_alloc ?_ _)|(with_reducible refine Kd.C_drewN ?_ _)|(with_reducible refine Kd.C_drew ?_)))
      (case side4=>exact (Kd.S_reads' HO395.out).2.1)
      rintro e w119 ⟨rfl,hb⟩
      refine ⟨_,rfl,?_⟩
      have n0_:=aK (Kd.S_below (sX HO371.out) hb)
      have n1_:=aK (Kd.R_below (rX HO376.out) hb)
      have n2_:=aK (Kd.S_below (sX HO382.out) hb)
      have n3_:=aK (Kd.R_below (rX HO388.out) hb)
      have n4_:=aK (Kd.S_below (sX HO395.out) hb)
      have n5_:=aK (bB (bX BK364.out) hb)
      have n6_:=aK (bB (bX BK365.out) hb)
      have n7_:=aK (bB (bX BK366.out) hb)
      have n8_:=aK (bB (bX BK383.out) hb)
      have n9_:=aK (bB (bX BK389.out) hb)
      have n10_:=aK (below_step (bW HB.out) hb)
      clear HO371
      clear HO376
      clear HO382
      clear HO388
      clear HO395
      clear BK364
      clear BK365
      clear BK366
      clear BK383
      clear BK389
      clear HB
      have HO371:=n0_
      have HO376:=n1_
      have HO382:=n2_
      have HO388:=n3_
      have HO395:=n4_
      have BK364:=n5_
      have BK365:=n6_
      have BK366:=n7_
      have BK383:=n8_
      have BK389:=n9_
      have HB:=n10_
      clear n0_ n1_ n2_ n3_ n4_ n5_ n6_ n7_ n8_ n9_ n10_
      (try clear hb)
      (try clear hb2)
      (try clear hk)
      (try clear hi)
      refine hK.out _ _ ⟨(bC BK383.out 0).trans rfl,(bC BK364.out 0).trans rfl⟩ (fun hHeld=>?_)
      clear hK K
      refine norm_ (a':=?_) ?_ ?_
      rotate_left
      ·show Act.put _ (some 44) _ = _
       simp only [Act.put,lA,l0',lS,i64_w,i32_w]
       rfl
      refine pure_ (i:=4) (N:=some 45) (v:=?_) (a':=?_) #[true,true,true,true,true] rfl rfl (by kernel_rfl) (fun _ _ _ h=>h) (Or.inl ⟨by rfl,?_⟩) ?_ ?_
      rotate_left
      ·intro w'
       go_simp
       with_reducible rfl
      rotate_left
      ·simp only [Act.put,lA,l0',lS,i64_w,i32_w]
       rfl
      refine done_ (by kernel_rfl) ?_
      try go_wp2
      have n0_:=aK (Kd.S_drew HO371.out)
      have n1_:=aK (Kd.R_drew HO376.out)
      have n2_:=aK (Kd.S_drew HO382.out)
      have n3_:=aK (Kd.R_drew HO388.out)
      have n4_:=aK (Kd.S_drew HO395.out)
      have n5_:=aK (bD BK364.out)
      have n6_:=aK (bD BK365.out)
      have n7_:=aK (bD BK366.out)
      have n8_:=aK (bD BK383.out)
      have n9_:=aK (bD BK389.out)
      have n10_:=aK (b1 HB.out)
      clear HO371
      clear HO376
      clear HO382
      clear HO388
      clear HO395
      clear BK364
      clear BK365
      clear BK366
      clear BK383
      clear BK389
      clear HB
      have HO371:=n0_
      have HO376:=n1_
      have HO382:=n2_
      have HO388:=n3_
      have HO395:=n4_
      have BK364:=n5_
      have BK365:=n6_
      have BK366:=n7_
      have BK383:=n8_
      have BK389:=n9_
      have HB:=n10_
      clear n0_ n1_ n2_ n3_ n4_ n5_ n6_ n7_ n8_ n9_ n10_
      refine start_ (n:=5) (S:=fun w'=>w'.cell? ⟨gb389,0,none⟩ = some (.int .i64 t384) ∧ w'.cell? ⟨gb389,1,none⟩ = some (.int .i64 t385) ∧ w'.cell? ⟨gb389,2,none⟩ = some (.slice Ao111 t386.length co111) ∧ w'.cell? ⟨gb365,0,none⟩ = some (.int .i64 a1_0) ∧ w'.cell? ⟨gb365,1,none⟩ = some (.int .i64 a1_1) ∧ w'.cell? ⟨gb365,2,none⟩ = some (.slice A1_2 l1_2.length c1_2)) (ds:=[]) #[false,false,false,false,false] (by kernel_rfl) rfl rfl ⟨(bC BK389.out 0).trans rfl,(bC BK389.out 1).trans rfl,(bC BK389.out 2).trans rfl,(bC BK365.out 0).trans rfl,(bC BK365.out 1).trans rfl,(bC BK365.out 2).trans rfl⟩ (fun hHeld=>?_)
      generalize w119.drew = w120 at HO371 HO376 HO382 HO388 HO395 BK364 BK365 BK366 BK383 BK389 HB hHeld ⊢
      refine take_ (i:=0) (N:=some 46) (v:=?_) (a':=?_) #[true,false,false,false,false] rfl rfl (by kernel_rfl) (fun _ _ _ h=>h) (Or.inl ⟨by rfl,?_⟩) hHeld ?_ ?_
      rotate_left
      ·rintro w' ⟨s0,s1,s2,s3,s4,s5⟩
       go_simp
       with_reducible rfl
      rotate_left
      ·simp only [Act.put,lA,l0',lS,i64_w,i32_w]
       rfl
      refine take_ (i:=1) (N:=some 47) (v:=?_) (a':=?_) #[true,true,false,false,false] rfl rfl (by kernel_rfl) (fun _ _ _ h=>h) (Or.inl ⟨by rfl,?_⟩) hHeld ?_ ?_
      rotate_left
      ·rintro w' ⟨s0,s1,s2,s3,s4,s5⟩
       go_simp
       with_reducible rfl
      rotate_left
      ·simp only [Act.put,lA,l0',lS,i64_w,i32_w]
       rfl
      refine one_ (i:=2) (N:=some 48) #[true,true,true,false,false] rfl rfl (by kernel_rfl) (by decide) (fun K hK=>?_)
      refine goes_ Try.func24 (by kernel_rfl) rfl #[.agg #[.int .i64 a1_0,.int .i64 a1_1,.slice A1_2 l1_2.length c1_2]] (by rfl) rfl rfl (by (try simp only [mA,mC,mN]);first|done|rfl) ?_
      with_reducible refine (laws_toPlay.calls k a1_0 a1_1 _ _ l1_2 t397 t398 t399 _ ?side1 ?side2 A75.out).mono ?_
      (case side1=>repeat (first|exact (Kd.C_below HR1_2.out HB.out)|(with_reducible refine Kd.C_alloc ?_ _)|(with_reducible refine Kd.C_drewN ?_ _)|(with_reducible refine Kd.C_drew ?_)))
      (case side2=>exact HC1_2.out)
      rintro e w121 ⟨v400,rfl,ho0,hb⟩
      refine ⟨_,rfl,?_⟩
      have n0_:=aK (Kd.S_elder' (sX HO371.out) (Kd.R_base ho0) hb)
      have n1_:=aK (Kd.R_elder' (rX HO376.out) (Kd.R_base ho0) hb)
      have n2_:=aK (Kd.S_elder' (sX HO382.out) (Kd.R_base ho0) hb)
      have n3_:=aK (Kd.R_elder' (rX HO388.out) (Kd.R_base ho0) hb)
      have n4_:=aK (Kd.S_elder' (sX HO395.out) (Kd.R_base ho0) hb)
      have n5_:=aK (Kd.R_lower (Kd.R_new' (Kd.R_new' ho0 (Kd.R_lt (rX HO376.out))) (Kd.R_lt (rX HO388.out))) (below_size (bW HB.out)))
      have n6_:=aK (bB (bX BK364.out) hb)
      have n7_:=aK (bB (bX BK365.out) hb)
      have n8_:=aK (bB (bX BK366.out) hb)
      have n9_:=aK (bB (bX BK383.out) hb)
      have n10_:=aK (bB (bX BK389.out) hb)
      have n11_:=aK (below_step (bW HB.out) hb)
      clear HO371
      clear HO376
      clear HO382
      clear HO388
      clear HO395
      clear BK364
      clear BK365
      clear BK366
      clear BK383
      clear BK389
      clear HB
      have HO371:=n0_
      have HO376:=n1_
      have HO382:=n2_
      have HO388:=n3_
      have HO395:=n4_
      have HO401:=n5_
      have BK364:=n6_
      have BK365:=n7_
      have BK366:=n8_
      have BK383:=n9_
      have BK389:=n10_
      have HB:=n11_
      clear n0_ n1_ n2_ n3_ n4_ n5_ n6_ n7_ n8_ n9_ n10_ n11_
      (try clear hb)
      (try clear hb2)
      (try clear hk)
      (try clear hi)
      (try clear ho0)
      obtain ⟨Ao122,co122,eo122⟩:=Kd.R_slice HO401.out
      (first|subst eo122|(injection eo122 with f1_ f2_ f3_;have f4_:=f1_.symm;have f5_:=f3_.symm;clear f1_ f2_ f3_;subst f4_;subst f5_))
      refine hK.out _ _ ⟨(bC BK389.out 0).trans rfl,(bC BK389.out 1).trans rfl,(bC BK389.out 2).trans rfl,(bC BK365.out 0).trans rfl,(bC BK365.out 1).trans rfl,(bC BK365.out 2).trans rfl⟩ (fun hHeld=>?_)
      clear hK K
      refine norm_ (a':=?_) ?_ ?_
      rotate_left
      ·show Act.put _ (some 48) _ = _
       simp only [Act.put,lA,l0',lS,i64_w,i32_w]
       rfl
      refine one_ (i:=3) (N:=some 49) #[true,true,true,true,false] rfl rfl (by kernel_rfl) (by decide) (fun K hK=>?_)
      refine goes_ Try.func26 (by kernel_rfl) rfl #[.agg #[.int .i64 t384,.int .i64 t385,.slice Ao111 t386.length co111],.agg #[.int .i64 t397,.int .i64 t398,.slice Ao122 t399.length co122]] (by rfl) rfl rfl (by (try simp only [mA,mC,mN]);first|done|rfl) ?_
      with_reducible refine (laws_eqPlay.calls k t384 t385 _ _ t386 t397 t398 _ _ t399 true _ ?side1 ?side2 ?side3 ?side4 A76.out).mono ?_
      (case side1=>repeat (first|exact (Kd.R_reads' HO388.out).2.2|(with_reducible refine Kd.C_alloc ?_ _)|(with_reducible refine Kd.C_drewN ?_ _)|(with_reducible refine Kd.C_drew ?_)))
      (case side2=>exact (Kd.R_reads' HO388.out).2.1)
      (case side3=>repeat (first|exact (Kd.R_reads' HO401.out).2.2|(with_reducible refine Kd.C_alloc ?_ _)|(with_reducible refine Kd.C_drewN ?_ _)|(with_reducible refine Kd.C_drew ?_)))
      (case side4=>exact (Kd.R_reads' HO401.out).2.1)
      rintro e w123 ⟨rfl,hb⟩
      refine ⟨_,rfl,?_⟩
      have n0_:=aK (Kd.S_below (sX HO371.out) hb)
      have n1_:=aK (Kd.R_below (rX HO376.out) hb)
      have n2_:=aK (Kd.S_below (sX HO382.out) hb)
      have n3_:=aK (Kd.R_below (rX HO388.out) hb)
      have n4_:=aK (Kd.S_below (sX HO395.out) hb)
      have n5_:=aK (Kd.R_below (rX HO401.out) hb)
      have n6_:=aK (bB (bX BK364.out) hb)
      have n7_:=aK (bB (bX BK365.out) hb)
      have n8_:=aK (bB (bX BK366.out) hb)
      have n9_:=aK (bB (bX BK383.out) hb)
      have n10_:=aK (bB (bX BK389.out) hb)
      have n11_:=aK (below_step (bW HB.out) hb)
      clear HO371
      clear HO376
      clear HO382
      clear HO388
      clear HO395
      clear HO401
      clear BK364
      clear BK365
      clear BK366
      clear BK383
      clear BK389
      clear HB
      have HO371:=n0_
      have HO376:=n1_
      have HO382:=n2_
      have HO388:=n3_
      have HO395:=n4_
      have HO401:=n5_
      have BK364:=n6_
      have BK365:=n7_
      have BK366:=n8_
      have BK383:=n9_
      have BK389:=n10_
      have HB:=n11_
      clear n0_ n1_ n2_ n3_ n4_ n5_ n6_ n7_ n8_ n9_ n10_ n11_
      (try clear hb)
      (try clear hb2)
      (try clear hk)
      (try clear hi)
      refine hK.out _ _ ⟨(bC BK389.out 0).trans rfl,(bC BK389.out 1).trans rfl,(bC BK389.out 2).trans rfl,(bC BK365.out 0).trans rfl,(bC BK365.out 1).trans rfl,(bC BK365.out 2).trans rfl⟩ (fun hHeld=>?_)
      clear hK K
      refine norm_ (a':=?_) ?_ ?_
      rotate_left
      ·show Act.put _ (some 49) _ = _
       simp only [Act.put,lA,l0',lS,i64_w,i32_w]
       rfl
      refine pure_ (i:=4) (N:=some 50) (v:=?_) (a':=?_) #[true,true,true,true,true] rfl rfl (by kernel_rfl) (fun _ _ _ h=>h) (Or.inl ⟨by rfl,?_⟩) ?_ ?_
      rotate_left
      ·intro w'
       go_simp
       with_reducible rfl
      rotate_left
      ·simp only [Act.put,lA,l0',lS,i64_w,i32_w]
       rfl
      refine done_ (by kernel_rfl) ?_
      try go_wp2
      go_ret
      exact ⟨by first|rfl|(simp [errW_none,errW_some] <;> rfl)|(simp [*,errW_none,errW_some] <;> rfl),bW HB.out⟩
     ·replace c77:=Bool.eq_false_iff.mpr c77
      subst c77
      have H1 : (some false) = some r:=by rw [if_neg (show ¬ (false = true) by decide)] at H;exact H
      clear H
      have H:=H1
      clear H1
      obtain rfl:=Option.some.inj H
      go_enter Try.func11,Try.ntmps11
      try go_wp2_with (first|((with_reducible refine gate_dst (N:=3) rfl ?_);refine box_event ?hg (N:=3) ?hd (cs:=#[.slice A0_0 l0_0.length c0_0]) (t:=41) ?hr ?_;(case hd=>rfl);(case hg=>rfl);(case hr=>first|(go_simp;done)|(go_simp;rfl));intro gb364 hg w124 hbox hb;have n0_:=aK (below_step (bW HB.out) hb);have n1_:=aK (hbox);have n2_:=aK ((by rw [hg];exact (below_size (bW HB.out)) : w.heap.size ≤ gb364));have n3_:=aK ((by rw [hg];exact (below_size (bW HB.out)) : w.heap.size ≤ gb364));clear HB;have HB:=n0_;have BK364:=n1_;have GW364:=n2_;have GE364:=n3_;clear n0_ n1_ n2_ n3_;clear hb hbox hg)|((with_reducible refine gate_dst (N:=4) rfl ?_);refine box_event ?hg (N:=4) ?hd (cs:=#[.int .i64 a1_0,.int .i64 a1_1,.slice A1_2 l1_2.length c1_2]) (t:=24) ?hr ?_;(case hd=>rfl);(case hg=>rfl);(case hr=>first|(go_simp;done)|(go_simp;rfl));intro gb365 hg w125 hbox hb;have n0_:=aK (bB (bX BK364.out) hb);have n1_:=aK (below_step (bW HB.out) hb);have n2_:=aK (hbox);have n3_:=aK ((by rw [hg];exact (below_size (bW HB.out)) : w.heap.size ≤ gb365));have n4_:=aK ((by rw [hg];exact (below_size (bW HB.out)) : w.heap.size ≤ gb365));have n5_:=aK ((by rw [hg];exact Nat.ne_of_lt (blk_lt (bX BK364.out)) : gb364 ≠ gb365));have n6_:=aK ((by rw [hg];exact Nat.ne_of_gt (blk_lt (bX BK364.out)) : gb365 ≠ gb364));clear BK364;clear HB;have BK364:=n0_;have HB:=n1_;have BK365:=n2_;have GW365:=n3_;have GE365:=n4_;have NB364_365:=n5_;have NB365_364:=n6_;clear n0_ n1_ n2_ n3_ n4_ n5_ n6_;clear hb hbox hg)|((with_reducible refine gate_dst (N:=5) rfl ?_);refine box_event ?hg (N:=5) ?hd (cs:=#[.int .i64 a2_0,.int .i64 a2_1]) (t:=50) ?hr ?_;(case hd=>rfl);(case hg=>rfl);(case hr=>first|(go_simp;done)|(go_simp;rfl));intro gb366 hg w126 hbox hb;have n0_:=aK (bB (bX BK364.out) hb);have n1_:=aK (bB (bX BK365.out) hb);have n2_:=aK (below_step (bW HB.out) hb);have n3_:=aK (hbox);have n4_:=aK ((by rw [hg];exact (below_size (bW HB.out)) : w.heap.size ≤ gb366));have n5_:=aK ((by rw [hg];exact (below_size (bW HB.out)) : w.heap.size ≤ gb366));have n6_:=aK ((by rw [hg];exact Nat.ne_of_lt (blk_lt (bX BK364.out)) : gb364 ≠ gb366));have n7_:=aK ((by rw [hg];exact Nat.ne_of_gt (blk_lt (bX BK364.out)) : gb366 ≠ gb364));have n8_:=aK ((by rw [hg];exact Nat.ne_of_lt (blk_lt (bX BK365.out)) : gb365 ≠ gb366));have n9_:=aK ((by rw [hg];exact Nat.ne_of_gt (blk_lt (bX BK365.out)) : gb366 ≠ gb365));clear BK364;clear BK365;clear HB;have BK364:=n0_;have BK365:=n1_;have HB:=n2_;have BK366:=n3_;have GW366:=n4_;have GE366:=n5_;have NB364_366:=n6_;have NB366_364:=n7_;have NB365_366:=n8_;have NB366_365:=n9_;clear n0_ n1_ n2_ n3_ n4_ n5_ n6_ n7_ n8_ n9_;clear hb hbox hg;have hnb127:=NB364_365.out;have hnc127:=NB365_364.out;have hnb128:=NB364_366.out;have hnc128:=NB366_364.out;have hcz129_0 : w126.cell? ⟨gb364,0,none⟩ = some (.slice A0_0 l0_0.length c0_0):=(bC BK364.out 0).trans rfl;have hfz129_0:=blk_frozen BK364.out 0)|((with_reducible refine gate_callee (f:=40) rfl ?_);refine goesL_ (some 14) rfl rfl Try.func40 (by kernel_rfl) rfl #[.agg #[.slice A0_0 l0_0.length c0_0],.int .i64 1048576] rfl (by (try simp only [mA,mC,mN]);first|done|rfl) ?_;(with_reducible refine (laws_szDeal.calls k _ _ l0_0 1048576 t367 _ ?side1 ?side2 A4.out).mono ?_);(case side1=>repeat (first|exact (Kd.C_below HR0_0.out HB.out)|(with_reducible refine Kd.C_alloc ?_ _)|(with_reducible refine Kd.C_drewN ?_ _)|(with_reducible refine Kd.C_drew ?_)));(case side2=>exact HC0_0.out);rintro e w130 ⟨rfl,hb⟩;refine ⟨_,rfl,?_⟩;have n0_:=aK (bB (bX BK364.out) hb);have n1_:=aK (bB (bX BK365.out) hb);have n2_:=aK (bB (bX BK366.out) hb);have n3_:=aK (below_step (bW HB.out) hb);clear BK364;clear BK365;clear BK366;clear HB;have BK364:=n0_;have BK365:=n1_;have BK366:=n2_;have HB:=n3_;clear n0_ n1_ n2_ n3_;(try clear hb);(try clear hb2);(try clear hk);(try clear hi);have hnb131:=NB365_366.out;have hnc131:=NB366_365.out;have hcz132_0 : w130.cell? ⟨gb365,0,none⟩ = some (.int .i64 a1_0):=(bC BK365.out 0).trans rfl;have hcz132_1 : w130.cell? ⟨gb365,1,none⟩ = some (.int .i64 a1_1):=(bC BK365.out 1).trans rfl;have hcz132_2 : w130.cell? ⟨gb365,2,none⟩ = some (.slice A1_2 l1_2.length c1_2):=(bC BK365.out 2).trans rfl;have hfz132_0:=blk_frozen BK365.out 0;have hfz132_1:=blk_frozen BK365.out 1;have hfz132_2:=blk_frozen BK365.out 2)|((with_reducible refine gate_callee (f:=22) rfl ?_);refine goesL_ (some 19) rfl rfl Try.func22 (by kernel_rfl) rfl #[.agg #[.int .i64 a1_0,.int .i64 a1_1,.slice A1_2 l1_2.length c1_2],.int .i64 t367] rfl (by (try simp only [mA,mC,mN]);first|done|rfl) ?_;(with_reducible refine (laws_szPlay.calls a1_0 a1_1 _ _ l1_2 t367 t368 _ ?side1 ?side2 A13.out).mono ?_);(case side1=>repeat (first|exact (Kd.C_below HR1_2.out HB.out)|(with_reducible refine Kd.C_alloc ?_ _)|(with_reducible refine Kd.C_drewN ?_ _)|(with_reducible refine Kd.C_drew ?_)));(case side2=>exact HC1_2.out);rintro e w133 ⟨rfl,hb⟩;refine ⟨_,rfl,?_⟩;have n0_:=aK (bB (bX BK364.out) hb);have n1_:=aK (bB (bX BK365.out) hb);have n2_:=aK (bB (bX BK366.out) hb);have n3_:=aK (below_step (bW HB.out) hb);clear BK364;clear BK365;clear BK366;clear HB;have BK364:=n0_;have BK365:=n1_;have BK366:=n2_;have HB:=n3_;clear n0_ n1_ n2_ n3_;(try clear hb);(try clear hb2);(try clear hk);(try clear hi)))
      have n0_:=aK (bD BK364.out)
      have n1_:=aK (bD BK365.out)
      have n2_:=aK (bD BK366.out)
      have n3_:=aK (b1 HB.out)
      clear BK364
      clear BK365
      clear BK366
      clear HB
      have BK364:=n0_
      have BK365:=n1_
      have BK366:=n2_
      have HB:=n3_
      clear n0_ n1_ n2_ n3_
      refine start_ (n:=8) (S:=fun w'=>w'.cell? ⟨gb364,0,none⟩ = some (.slice A0_0 l0_0.length c0_0) ∧ w'.cell? ⟨gb365,0,none⟩ = some (.int .i64 a1_0) ∧ w'.cell? ⟨gb365,1,none⟩ = some (.int .i64 a1_1) ∧ w'.cell? ⟨gb365,2,none⟩ = some (.slice A1_2 l1_2.length c1_2) ∧ w'.cell? ⟨gb366,0,none⟩ = some (.int .i64 a2_0) ∧ w'.cell? ⟨gb366,1,none⟩ = some (.int .i64 a2_1)) (ds:=[]) #[false,false,false,false,false,false,false,false] (by kernel_rfl) rfl rfl ⟨(bC BK364.out 0).trans rfl,(bC BK365.out 0).trans rfl,(bC BK365.out 1).trans rfl,(bC BK365.out 2).trans rfl,(bC BK366.out 0).trans rfl,(bC BK366.out 1).trans rfl⟩ (fun hHeld=>?_);refine with_tabW laws_FnExactIsClaim.tab8 laws_FnExactIsClaim.bits8 (fun HT_ HW_=>?_)
      generalize w133.drew = w134 at BK364 BK365 BK366 HB hHeld ⊢
      refine take_ (i:=0) (N:=some 22) (v:=?_) (a':=?_) #[true,false,false,false,false,false,false,false] rfl rfl (take_ofW HT_.out HW_.out (by kernel_rfl)) (fun _ _ _ h=>h) (Or.inl ⟨by rfl,?_⟩) hHeld ?_ ?_
      rotate_left
      ·rintro w' ⟨s0,s1,s2,s3,s4,s5⟩
       go_simp
       with_reducible rfl
      rotate_left
      ·simp only [Act.put,lA,l0',lS,i64_w,i32_w]
       rfl
      refine take_ (i:=2) (N:=some 24) (v:=?_) (a':=?_) #[true,false,true,false,false,false,false,false] rfl rfl (take_ofW HT_.out HW_.out (by kernel_rfl)) (fun _ _ _ h=>h) (Or.inl ⟨by rfl,?_⟩) hHeld ?_ ?_
      rotate_left
      ·rintro w' ⟨s0,s1,s2,s3,s4,s5⟩
       go_simp
       with_reducible rfl
      rotate_left
      ·simp only [Act.put,lA,l0',lS,i64_w,i32_w]
       rfl
      refine take_ (i:=4) (N:=some 26) (v:=?_) (a':=?_) #[true,false,true,false,true,false,false,false] rfl rfl (take_ofW HT_.out HW_.out (by kernel_rfl)) (fun _ _ _ h=>h) (Or.inl ⟨by rfl,?_⟩) hHeld ?_ ?_
      rotate_left
      ·rintro w' ⟨s0,s1,s2,s3,s4,s5⟩
       go_simp
       with_reducible rfl
      rotate_left
      ·simp only [Act.put,lA,l0',lS,i64_w,i32_w]
       rfl
      refine one_ (i:=1) (N:=some 23) #[true,true,true,false,true,false,false,false] rfl rfl (one_of HT_.out (by kernel_rfl)) (by decide) (fun K hK=>?_)
      refine goes_ Try.func42 (by kernel_rfl) rfl #[.agg #[.slice A0_0 l0_0.length c0_0]] (by rfl) rfl rfl (by (try simp only [mA,mC,mN]);first|done|rfl) ?_
      with_reducible refine (laws_toDeal.calls k _ _ l0_0 t369 _ ?side1 ?side2 A25.out).mono ?_
      (case side1=>repeat (first|exact (Kd.C_below HR0_0.out HB.out)|(with_reducible refine Kd.C_alloc ?_ _)|(with_reducible refine Kd.C_drewN ?_ _)|(with_reducible refine Kd.C_drew ?_)))
      (case side2=>exact HC0_0.out)
      rintro e w135 ⟨v370,rfl,ho0,hb⟩
      refine ⟨_,rfl,?_⟩
      have n0_:=aK (Kd.S_lower ho0 (below_size (bW HB.out)))
      have n1_:=aK (bB (bX BK364.out) hb)
      have n2_:=aK (bB (bX BK365.out) hb)
      have n3_:=aK (bB (bX BK366.out) hb)
      have n4_:=aK (below_step (bW HB.out) hb)
      clear BK364
      clear BK365
      clear BK366
      clear HB
      have HO371:=n0_
      have BK364:=n1_
      have BK365:=n2_
      have BK366:=n3_
      have HB:=n4_
      clear n0_ n1_ n2_ n3_ n4_
      (try clear hb)
      (try clear hb2)
      (try clear hk)
      (try clear hi)
      (try clear ho0)
      refine hK.out _ _ ⟨(bC BK364.out 0).trans rfl,(bC BK365.out 0).trans rfl,(bC BK365.out 1).trans rfl,(bC BK365.out 2).trans rfl,(bC BK366.out 0).trans rfl,(bC BK366.out 1).trans rfl⟩ (fun hHeld=>?_)
      clear hK K
      refine norm_ (a':=?_) ?_ ?_
      rotate_left
      ·show Act.put _ (some 23) _ = _
       simp only [Act.put,lA,l0',lS,i64_w,i32_w]
       rfl
      refine one_ (i:=3) (N:=some 25) #[true,true,true,true,true,false,false,false] rfl rfl (one_of HT_.out (by kernel_rfl)) (by decide) (fun K hK=>?_)
      refine goes_ Try.func24 (by kernel_rfl) rfl #[.agg #[.int .i64 a1_0,.int .i64 a1_1,.slice A1_2 l1_2.length c1_2]] (by rfl) rfl rfl (by (try simp only [mA,mC,mN]);first|done|rfl) ?_
      with_reducible refine (laws_toPlay.calls k a1_0 a1_1 _ _ l1_2 t372 t373 t374 _ ?side1 ?side2 A26.out).mono ?_
      (case side1=>repeat (first|exact (Kd.C_below HR1_2.out HB.out)|(with_reducible refine Kd.C_alloc ?_ _)|(with_reducible refine Kd.C_drewN ?_ _)|(with_reducible refine Kd.C_drew ?_)))
      (case side2=>exact HC1_2.out)
      rintro e w136 ⟨v375,rfl,ho0,hb⟩
      refine ⟨_,rfl,?_⟩
      have n0_:=aK (Kd.S_elder' (sX HO371.out) (Kd.R_base ho0) hb)
      have n1_:=aK (Kd.R_lower ho0 (below_size (bW HB.out)))
      have n2_:=aK (bB (bX BK364.out) hb)
      have n3_:=aK (bB (bX BK365.out) hb)
      have n4_:=aK (bB (bX BK366.out) hb)
      have n5_:=aK (below_step (bW HB.out) hb)
      clear HO371
      clear BK364
      clear BK365
      clear BK366
      clear HB
      have HO371:=n0_
      have HO376:=n1_
      have BK364:=n2_
      have BK365:=n3_
      have BK366:=n4_
      have HB:=n5_
      clear n0_ n1_ n2_ n3_ n4_ n5_
      (try clear hb)
      (try clear hb2)
      (try clear hk)
      (try clear hi)
      (try clear ho0)
      refine hK.out _ _ ⟨(bC BK364.out 0).trans rfl,(bC BK365.out 0).trans rfl,(bC BK365.out 1).trans rfl,(bC BK365.out 2).trans rfl,(bC BK366.out 0).trans rfl,(bC BK366.out 1).trans rfl⟩ (fun hHeld=>?_)
      clear hK K
      refine norm_ (a':=?_) ?_ ?_
      rotate_left
      ·show Act.put _ (some 25) _ = _
       simp only [Act.put,lA,l0',lS,i64_w,i32_w]
       rfl
      refine one_ (i:=5) (N:=some 27) #[true,true,true,true,true,true,false,false] rfl rfl (one_of HT_.out (by kernel_rfl)) (by decide) (fun K hK=>?_)
      refine goes_ Try.func50 (by kernel_rfl) rfl #[.agg #[.int .i64 a2_0,.int .i64 a2_1]] (by rfl) rfl rfl (by (try simp only [mA,mC,mN]);first|done|rfl) ?_
      with_reducible refine (laws_toClaim.calls a2_0 a2_1 t377 t378 _ A27.out).mono ?_
      rintro e w137 ⟨rfl,hb⟩
      refine ⟨_,rfl,?_⟩
      have n0_:=aK (Kd.S_below (sX HO371.out) hb)
      have n1_:=aK (Kd.R_below (rX HO376.out) hb)
      have n2_:=aK (bB (bX BK364.out) hb)
      have n3_:=aK (bB (bX BK365.out) hb)
      have n4_:=aK (bB (bX BK366.out) hb)
      have n5_:=aK (below_step (bW HB.out) hb)
      clear HO371
      clear HO376
      clear BK364
      clear BK365
      clear BK366
      clear HB
      have HO371:=n0_
      have HO376:=n1_
      have BK364:=n2_
      have BK365:=n3_
      have BK366:=n4_
      have HB:=n5_
      clear n0_ n1_ n2_ n3_ n4_ n5_
      (try clear hb)
      (try clear hb2)
      (try clear hk)
      (try clear hi)
      obtain ⟨Ao138,co138,eo138⟩:=Kd.S_slice HO371.out
      (first|subst eo138|(injection eo138 with f1_ f2_ f3_;have f4_:=f1_.symm;have f5_:=f3_.symm;clear f1_ f2_ f3_;subst f4_;subst f5_))
      obtain ⟨Ao139,co139,eo139⟩:=Kd.R_slice HO376.out
      (first|subst eo139|(injection eo139 with f1_ f2_ f3_;have f4_:=f1_.symm;have f5_:=f3_.symm;clear f1_ f2_ f3_;subst f4_;subst f5_))
      refine hK.out _ _ ⟨(bC BK364.out 0).trans rfl,(bC BK365.out 0).trans rfl,(bC BK365.out 1).trans rfl,(bC BK365.out 2).trans rfl,(bC BK366.out 0).trans rfl,(bC BK366.out 1).trans rfl⟩ (fun hHeld=>?_)
      clear hK K
      refine norm_ (a':=?_) ?_ ?_
      rotate_left
      ·show Act.put _ (some 27) _ = _
       simp only [Act.put,lA,l0',lS,i64_w,i32_w]
       rfl
      refine one_ (i:=6) (N:=some 28) #[true,true,true,true,true,true,true,false] rfl rfl (one_of HT_.out (by kernel_rfl)) (by decide) (fun K hK=>?_)
      refine goes_ Try.func49 (by kernel_rfl) rfl #[.agg #[.slice Ao138 t369.length co138],.agg #[.int .i64 t372,.int .i64 t373,.slice Ao139 t374.length co139],.agg #[.int .i64 t377,.int .i64 t378]] (by rfl) rfl rfl (by (try simp only [mA,mC,mN]);first|done|rfl) ?_
      with_reducible refine (spec_IsClaim.calls k _ _ t369 t372 t373 _ _ t374 t377 t378 t379 _ ?side1 ?side2 ?side3 ?side4 A28.out).mono ?_
      (case side1=>repeat (first|exact (Kd.S_reads' HO371.out).2.2|(with_reducible refine Kd.C_alloc ?_ _)|(with_reducible refine Kd.C_drewN ?_ _)|(with_reducible refine Kd.C_drew ?_)))
      (case side2=>exact (Kd.S_reads' HO371.out).2.1)
      (case side3=>repeat (first|exact (Kd.R_reads' HO376.out).2.2|(with_reducible refine Kd.C_alloc ?_ _)|(with_reducible refine Kd.C_drewN ?_ _)|(with_reducible refine Kd.C_drew ?_)))
      (case side4=>exact (Kd.R_reads' HO376.out).2.1)
      rintro e w140 ⟨rfl,hb⟩
      refine ⟨_,rfl,?_⟩
      have n0_:=aK (Kd.S_below (sX HO371.out) hb)
      have n1_:=aK (Kd.R_below (rX HO376.out) hb)
      have n2_:=aK (bB (bX BK364.out) hb)
      have n3_:=aK (bB (bX BK365.out) hb)
      have n4_:=aK (bB (bX BK366.out) hb)
      have n5_:=aK (below_step (bW HB.out) hb)
      clear HO371
      clear HO376
      clear BK364
      clear BK365
      clear BK366
      clear HB
      have HO371:=n0_
      have HO376:=n1_
      have BK364:=n2_
      have BK365:=n3_
      have BK366:=n4_
      have HB:=n5_
      clear n0_ n1_ n2_ n3_ n4_ n5_
      (try clear hb)
      (try clear hb2)
      (try clear hk)
      (try clear hi)
      refine hK.out _ _ ⟨(bC BK364.out 0).trans rfl,(bC BK365.out 0).trans rfl,(bC BK365.out 1).trans rfl,(bC BK365.out 2).trans rfl,(bC BK366.out 0).trans rfl,(bC BK366.out 1).trans rfl⟩ (fun hHeld=>?_)
      clear hK K
      refine norm_ (a':=?_) ?_ ?_
      rotate_left
      ·show Act.put _ (some 28) _ = _
       simp only [Act.put,lA,l0',lS,i64_w,i32_w]
       rfl
      refine pure_ (i:=7) (N:=some 8) (v:=?_) (a':=?_) #[true,true,true,true,true,true,true,true] rfl rfl (any_of HT_.out (by kernel_rfl)) (fun _ _ _ h=>h) (Or.inl ⟨by rfl,?_⟩) ?_ ?_
      rotate_left
      ·intro w'
       go_simp
       with_reducible rfl
      rotate_left
      ·simp only [Act.put,lA,l0',lS,i64_w,i32_w]
       rfl
      refine done_ (done_of HT_.out (by kernel_rfl)) ?_
      have hcz141_0 : w140.cell? ⟨gb364,0,none⟩ = some (.slice A0_0 l0_0.length c0_0):=(bC BK364.out 0).trans rfl
      have hfz141_0:=blk_frozen BK364.out 0
      try go_wp2_with (first|((with_reducible refine gate_callee (f:=42) rfl ?_);refine goesL_ (some 30) rfl rfl Try.func42 (by kernel_rfl) rfl #[.agg #[.slice A0_0 l0_0.length c0_0]] rfl (by (try simp only [mA,mC,mN]);first|done|rfl) ?_;(with_reducible refine (laws_toDeal.calls k _ _ l0_0 t380 _ ?side1 ?side2 A29.out).mono ?_);(case side1=>repeat (first|exact (Kd.C_below HR0_0.out HB.out)|(with_reducible refine Kd.C_alloc ?_ _)|(with_reducible refine Kd.C_drewN ?_ _)|(with_reducible refine Kd.C_drew ?_)));(case side2=>exact HC0_0.out);rintro e w142 ⟨v381,rfl,ho0,hb⟩;refine ⟨_,rfl,?_⟩;have n0_:=aK (Kd.S_elder' (sX HO371.out) (Kd.S_base ho0) hb);have n1_:=aK (Kd.R_below (rX HO376.out) hb);have n2_:=aK (Kd.S_lower (Kd.S_new' (Kd.S_new' ho0 (Kd.S_lt (sX HO371.out))) (Kd.R_lt (rX HO376.out))) (below_size (bW HB.out)));have n3_:=aK (bB (bX BK364.out) hb);have n4_:=aK (bB (bX BK365.out) hb);have n5_:=aK (bB (bX BK366.out) hb);have n6_:=aK (below_step (bW HB.out) hb);clear HO371;clear HO376;clear BK364;clear BK365;clear BK366;clear HB;have HO371:=n0_;have HO376:=n1_;have HO382:=n2_;have BK364:=n3_;have BK365:=n4_;have BK366:=n5_;have HB:=n6_;clear n0_ n1_ n2_ n3_ n4_ n5_ n6_;(try clear hb);(try clear hb2);(try clear hk);(try clear hi);(try clear ho0))|((with_reducible refine gate_dst (N:=9) rfl ?_);refine box_event ?hg (N:=9) ?hd (cs:=#[.slice none 0 0]) (t:=44) ?hr ?_;(case hd=>rfl);(case hg=>rfl);(case hr=>first|(go_simp;done)|(go_simp;rfl));intro gb383 hg w143 hbox hb;have n0_:=aK (Kd.S_below (sX HO371.out) hb);have n1_:=aK (Kd.R_below (rX HO376.out) hb);have n2_:=aK (Kd.S_below (sX HO382.out) hb);have n3_:=aK (bB (bX BK364.out) hb);have n4_:=aK (bB (bX BK365.out) hb);have n5_:=aK (bB (bX BK366.out) hb);have n6_:=aK (below_step (bW HB.out) hb);have n7_:=aK (hbox);have n8_:=aK ((by rw [hg];exact (below_size (bW HB.out)) : w.heap.size ≤ gb383));have n9_:=aK ((by rw [hg];exact (below_size (bW HB.out)) : w.heap.size ≤ gb383));have n10_:=aK ((by rw [hg];exact Nat.ne_of_lt (blk_lt (bX BK364.out)) : gb364 ≠ gb383));have n11_:=aK ((by rw [hg];exact Nat.ne_of_gt (blk_lt (bX BK364.out)) : gb383 ≠ gb364));have n12_:=aK ((by rw [hg];exact Nat.ne_of_lt (blk_lt (bX BK365.out)) : gb365 ≠ gb383));have n13_:=aK ((by rw [hg];exact Nat.ne_of_gt (blk_lt (bX BK365.out)) : gb383 ≠ gb365));have n14_:=aK ((by rw [hg];exact Nat.ne_of_lt (blk_lt (bX BK366.out)) : gb366 ≠ gb383));have n15_:=aK ((by rw [hg];exact Nat.ne_of_gt (blk_lt (bX BK366.out)) : gb383 ≠ gb366));clear HO371;clear HO376;clear HO382;clear BK364;clear BK365;clear BK366;clear HB;have HO371:=n0_;have HO376:=n1_;have HO382:=n2_;have BK364:=n3_;have BK365:=n4_;have BK366:=n5_;have HB:=n6_;have BK383:=n7_;have GW383:=n8_;have GE383:=n9_;have NB364_383:=n10_;have NB383_364:=n11_;have NB365_383:=n12_;have NB383_365:=n13_;have NB366_383:=n14_;have NB383_366:=n15_;clear n0_ n1_ n2_ n3_ n4_ n5_ n6_ n7_ n8_ n9_ n10_ n11_ n12_ n13_ n14_ n15_;clear hb hbox hg;obtain ⟨Ao144,co144,eo144⟩:=Kd.S_slice HO382.out;subst eo144;have hnb145:=NB383_364.out;have hnc145:=NB364_383.out;have hnb146:=NB383_365.out;have hnc146:=NB365_383.out;have hnb147:=NB383_366.out;have hnc147:=NB366_383.out;have hcz148_0 : w143.cell? ⟨gb383,0,none⟩ = some (.slice none 0 0):=(bC BK383.out 0).trans rfl;have hfz148_0:=blk_frozen BK383.out 0;have hcz149_0 : w143.cell? ⟨gb365,0,none⟩ = some (.int .i64 a1_0):=(bC BK365.out 0).trans rfl;have hcz149_1 : w143.cell? ⟨gb365,1,none⟩ = some (.int .i64 a1_1):=(bC BK365.out 1).trans rfl;have hcz149_2 : w143.cell? ⟨gb365,2,none⟩ = some (.slice A1_2 l1_2.length c1_2):=(bC BK365.out 2).trans rfl;have hfz149_0:=blk_frozen BK365.out 0;have hfz149_1:=blk_frozen BK365.out 1;have hfz149_2:=blk_frozen BK365.out 2)|((with_reducible refine gate_callee (f:=24) rfl ?_);refine goesL_ (some 32) rfl rfl Try.func24 (by kernel_rfl) rfl #[.agg #[.int .i64 a1_0,.int .i64 a1_1,.slice A1_2 l1_2.length c1_2]] rfl (by (try simp only [mA,mC,mN]);first|done|rfl) ?_;(with_reducible refine (laws_toPlay.calls k a1_0 a1_1 _ _ l1_2 t384 t385 t386 _ ?side1 ?side2 A30.out).mono ?_);(case side1=>exact Kd.C_below HR1_2.out (bW HB.out));(case side2=>exact HC1_2.out);rintro e w150 ⟨v387,rfl,ho0,hb⟩;refine ⟨_,rfl,?_⟩;have n0_:=aK (Kd.S_elder' (by (with_reducible repeat first|apply Kd.S_alloc|apply Kd.S_drewN|apply Kd.S_drew);exact (Kd.S_mono (Kd.S_far (p:=⟨gb383,0,none⟩) (Kd.S_types HO371.out BK383.out (by decide)) (fun _ hk=>by first|exact hk.2|exact aP hk) (.slice Ao144 t380.length co144)) (fun _ h_=>h_.1))) (Kd.R_base ho0) hb);have n1_:=aK (Kd.R_elder' (by (with_reducible repeat first|apply Kd.R_alloc|apply Kd.R_drewN|apply Kd.R_drew);exact (Kd.R_mono (Kd.R_far (p:=⟨gb383,0,none⟩) (Kd.R_types HO376.out BK383.out (by decide)) (fun _ hk=>by first|exact hk.2|exact aP hk) (.slice Ao144 t380.length co144)) (fun _ h_=>h_.1))) (Kd.R_base ho0) hb);have n2_:=aK (Kd.S_elder' (by (with_reducible repeat first|apply Kd.S_alloc|apply Kd.S_drewN|apply Kd.S_drew);exact (Kd.S_mono (Kd.S_far (p:=⟨gb383,0,none⟩) (Kd.S_types HO382.out BK383.out (by decide)) (fun _ hk=>by first|exact hk.2|exact aP hk) (.slice Ao144 t380.length co144)) (fun _ h_=>h_.1))) (Kd.R_base ho0) hb);have n3_:=aK (Kd.R_lower (Kd.R_new' ho0 (Kd.R_lt (by (with_reducible repeat first|apply Kd.R_alloc|apply Kd.R_drewN|apply Kd.R_drew);exact (Kd.R_mono (Kd.R_far (p:=⟨gb383,0,none⟩) (Kd.R_types HO376.out BK383.out (by decide)) (fun _ hk=>by first|exact hk.2|exact aP hk) (.slice Ao144 t380.length co144)) (fun _ h_=>h_.1))))) (below_size (bW HB.out)));have n4_:=aK (bB (g:=gb364) (o:=.cells #[.slice A0_0 l0_0.length c0_0] 41 (0,0)) (by (with_reducible repeat first|apply bN|apply bD|apply bA);refine blk_far ?_ NB364_383.out _;(with_reducible repeat first|apply bN|apply bD|apply bA);exact BK364.out) hb);have n5_:=aK (bB (g:=gb365) (o:=.cells #[.int .i64 a1_0,.int .i64 a1_1,.slice A1_2 l1_2.length c1_2] 24 (0,0)) (by (with_reducible repeat first|apply bN|apply bD|apply bA);refine blk_far ?_ NB365_383.out _;(with_reducible repeat first|apply bN|apply bD|apply bA);exact BK365.out) hb);have n6_:=aK (bB (g:=gb366) (o:=.cells #[.int .i64 a2_0,.int .i64 a2_1] 50 (0,0)) (by (with_reducible repeat first|apply bN|apply bD|apply bA);refine blk_far ?_ NB366_383.out _;(with_reducible repeat first|apply bN|apply bD|apply bA);exact BK366.out) hb);have n7_:=aK (bB (g:=gb383) (o:=.cells #[.slice Ao144 t380.length co144] 44 (0,0)) (by (with_reducible repeat first|apply bN|apply bD|apply bA);refine blk_put (cs:=#[.slice none 0 0]) ?_ 0 _ rfl;(with_reducible repeat first|apply bN|apply bD|apply bA);exact BK383.out) hb);have n8_:=aK (below_step (bW HB.out) hb);clear HO371;clear HO376;clear HO382;clear BK364;clear BK365;clear BK366;clear BK383;clear HB;have HO371:=n0_;have HO376:=n1_;have HO382:=n2_;have HO388:=n3_;have BK364:=n4_;have BK365:=n5_;have BK366:=n6_;have BK383:=n7_;have HB:=n8_;clear n0_ n1_ n2_ n3_ n4_ n5_ n6_ n7_ n8_;(try clear hb);(try clear hb2);(try clear hk);(try clear hi);(try clear ho0))|((with_reducible refine gate_dst (N:=10) rfl ?_);refine box_event ?hg (N:=10) ?hd (cs:=#[.int .i64 0,.int .i64 0,.slice none 0 0]) (t:=27) ?hr ?_;(case hd=>rfl);(case hg=>rfl);(case hr=>first|(go_simp;done)|(go_simp;rfl));intro gb389 hg w151 hbox hb;have n0_:=aK (Kd.S_below (sX HO371.out) hb);have n1_:=aK (Kd.R_below (rX HO376.out) hb);have n2_:=aK (Kd.S_below (sX HO382.out) hb);have n3_:=aK (Kd.R_below (rX HO388.out) hb);have n4_:=aK (bB (bX BK364.out) hb);have n5_:=aK (bB (bX BK365.out) hb);have n6_:=aK (bB (bX BK366.out) hb);have n7_:=aK (bB (bX BK383.out) hb);have n8_:=aK (below_step (bW HB.out) hb);have n9_:=aK (hbox);have n10_:=aK ((by rw [hg];exact (below_size (bW HB.out)) : w.heap.size ≤ gb389));have n11_:=aK ((by rw [hg];exact (below_size (bW HB.out)) : w.heap.size ≤ gb389));have n12_:=aK ((by rw [hg];exact Nat.ne_of_lt (blk_lt (bX BK364.out)) : gb364 ≠ gb389));have n13_:=aK ((by rw [hg];exact Nat.ne_of_gt (blk_lt (bX BK364.out)) : gb389 ≠ gb364));have n14_:=aK ((by rw [hg];exact Nat.ne_of_lt (blk_lt (bX BK365.out)) : gb365 ≠ gb389));have n15_:=aK ((by rw [hg];exact Nat.ne_of_gt (blk_lt (bX BK365.out)) : gb389 ≠ gb365));have n16_:=aK ((by rw [hg];exact Nat.ne_of_lt (blk_lt (bX BK366.out)) : gb366 ≠ gb389));have n17_:=aK ((by rw [hg];exact Nat.ne_of_gt (blk_lt (bX BK366.out)) : gb389 ≠ gb366));have n18_:=aK ((by rw [hg];exact Nat.ne_of_lt (blk_lt (bX BK383.out)) : gb383 ≠ gb389));have n19_:=aK ((by rw [hg];exact Nat.ne_of_gt (blk_lt (bX BK383.out)) : gb389 ≠ gb383));clear HO371;clear HO376;clear HO382;clear HO388;clear BK364;clear BK365;clear BK366;clear BK383;clear HB;have HO371:=n0_;have HO376:=n1_;have HO382:=n2_;have HO388:=n3_;have BK364:=n4_;have BK365:=n5_;have BK366:=n6_;have BK383:=n7_;have HB:=n8_;have BK389:=n9_;have GW389:=n10_;have GE389:=n11_;have NB364_389:=n12_;have NB389_364:=n13_;have NB365_389:=n14_;have NB389_365:=n15_;have NB366_389:=n16_;have NB389_366:=n17_;have NB383_389:=n18_;have NB389_383:=n19_;clear n0_ n1_ n2_ n3_ n4_ n5_ n6_ n7_ n8_ n9_ n10_ n11_ n12_ n13_ n14_ n15_ n16_ n17_ n18_ n19_;clear hb hbox hg;have hnb152:=NB389_364.out;have hnc152:=NB364_389.out;have hnb153:=NB389_365.out;have hnc153:=NB365_389.out;have hnb154:=NB389_366.out;have hnc154:=NB366_389.out;have hnb155:=NB389_383.out;have hnc155:=NB383_389.out;have hcz156_0 : w151.cell? ⟨gb389,0,none⟩ = some (.int .i64 0):=(bC BK389.out 0).trans rfl;have hcz156_1 : w151.cell? ⟨gb389,1,none⟩ = some (.int .i64 0):=(bC BK389.out 1).trans rfl;have hcz156_2 : w151.cell? ⟨gb389,2,none⟩ = some (.slice none 0 0):=(bC BK389.out 2).trans rfl;have hfz156_0:=blk_frozen BK389.out 0;have hfz156_1:=blk_frozen BK389.out 1;have hfz156_2:=blk_frozen BK389.out 2;obtain ⟨Ao157,co157,eo157⟩:=Kd.R_slice HO388.out;subst eo157))
      have n0_ : Aside0 (Kd.S (Kd.slice 2 (Kd.int .i64)) 22 (((w151.setCell ⟨gb389,0,none⟩ (.int .i64 t384)).setCell ⟨gb389,1,none⟩ (.int .i64 t385)).setCell ⟨gb389,2,none⟩ (.slice Ao157 t386.length co157)) w.heap.size (fun k_=>some k_ ≠ (.slice Ao139 t374.length co139 : Value).ownBlock ∧ some k_ ≠ (.slice Ao144 t380.length co144 : Value).ownBlock ∧ some k_ ≠ (.slice Ao157 t386.length co157 : Value).ownBlock) (.slice Ao138 t369.length co138) t369):=⟨by (with_reducible repeat first|apply Kd.S_alloc|apply Kd.S_drewN|apply Kd.S_drew);exact Kd.S_mono (Kd.S_far (p:=⟨gb389,2,none⟩) (Kd.S_far (p:=⟨gb389,1,none⟩) (Kd.S_far (p:=⟨gb389,0,none⟩) (Kd.S_types HO371.out BK389.out (by decide)) (fun _ hk=>by first|exact hk.2|exact aP hk) (.int .i64 t384)) (fun _ hk=>by first|exact hk.2|exact aP hk) (.int .i64 t385)) (fun _ hk=>by first|exact hk.2|exact aP hk) (.slice Ao157 t386.length co157)) (fun _ hk=>by first|exact ⟨hk.1.1.1.2,⟨hk.1.1.2,hk.1.2⟩⟩|exact aP hk)⟩
      have n1_ : Aside0 (Kd.R (Kd.int .i64) 2 (((w151.setCell ⟨gb389,0,none⟩ (.int .i64 t384)).setCell ⟨gb389,1,none⟩ (.int .i64 t385)).setCell ⟨gb389,2,none⟩ (.slice Ao157 t386.length co157)) w.heap.size (fun k_=>some k_ ≠ (.slice Ao157 t386.length co157 : Value).ownBlock) (.slice Ao139 t374.length co139) t374):=⟨by (with_reducible repeat first|apply Kd.R_alloc|apply Kd.R_drewN|apply Kd.R_drew);exact Kd.R_mono (Kd.R_far (p:=⟨gb389,2,none⟩) (Kd.R_far (p:=⟨gb389,1,none⟩) (Kd.R_far (p:=⟨gb389,0,none⟩) (Kd.R_types HO376.out BK389.out (by decide)) (fun _ hk=>by first|exact hk.2|exact aP hk) (.int .i64 t384)) (fun _ hk=>by first|exact hk.2|exact aP hk) (.int .i64 t385)) (fun _ hk=>by first|exact hk.2|exact aP hk) (.slice Ao157 t386.length co157)) (fun _ hk=>hk.1.2)⟩
      have n2_ : Aside0 (Kd.S (Kd.slice 2 (Kd.int .i64)) 22 (((w151.setCell ⟨gb389,0,none⟩ (.int .i64 t384)).setCell ⟨gb389,1,none⟩ (.int .i64 t385)).setCell ⟨gb389,2,none⟩ (.slice Ao157 t386.length co157)) w.heap.size (fun k_=>some k_ ≠ (.slice Ao138 t369.length co138 : Value).ownBlock ∧ some k_ ≠ (.slice Ao139 t374.length co139 : Value).ownBlock ∧ some k_ ≠ (.slice Ao157 t386.length co157 : Value).ownBlock) (.slice Ao144 t380.length co144) t380):=⟨by (with_reducible repeat first|apply Kd.S_alloc|apply Kd.S_drewN|apply Kd.S_drew);exact Kd.S_mono (Kd.S_far (p:=⟨gb389,2,none⟩) (Kd.S_far (p:=⟨gb389,1,none⟩) (Kd.S_far (p:=⟨gb389,0,none⟩) (Kd.S_types HO382.out BK389.out (by decide)) (fun _ hk=>by first|exact hk.2|exact aP hk) (.int .i64 t384)) (fun _ hk=>by first|exact hk.2|exact aP hk) (.int .i64 t385)) (fun _ hk=>by first|exact hk.2|exact aP hk) (.slice Ao157 t386.length co157)) (fun _ hk=>by first|exact ⟨hk.1.1.1.2,⟨hk.1.1.2,hk.1.2⟩⟩|exact aP hk)⟩
      have n3_ : Aside0 (Kd.R (Kd.int .i64) 2 (((w151.setCell ⟨gb389,0,none⟩ (.int .i64 t384)).setCell ⟨gb389,1,none⟩ (.int .i64 t385)).setCell ⟨gb389,2,none⟩ (.slice Ao157 t386.length co157)) w.heap.size (fun k_=>some k_ ≠ (.slice Ao139 t374.length co139 : Value).ownBlock) (.slice Ao157 t386.length co157) t386):=⟨by (with_reducible repeat first|apply Kd.R_alloc|apply Kd.R_drewN|apply Kd.R_drew);exact Kd.R_mono (Kd.R_far (p:=⟨gb389,2,none⟩) (Kd.R_far (p:=⟨gb389,1,none⟩) (Kd.R_far (p:=⟨gb389,0,none⟩) (Kd.R_types HO388.out BK389.out (by decide)) (fun _ hk=>by first|exact hk.2|exact aP hk) (.int .i64 t384)) (fun _ hk=>by first|exact hk.2|exact aP hk) (.int .i64 t385)) (fun _ hk=>by first|exact hk.2|exact aP hk) (.slice Ao157 t386.length co157)) (fun _ hk=>hk.1.2)⟩
      have n4_ : Aside0 ((((w151.setCell ⟨gb389,0,none⟩ (.int .i64 t384)).setCell ⟨gb389,1,none⟩ (.int .i64 t385)).setCell ⟨gb389,2,none⟩ (.slice Ao157 t386.length co157)).heap[gb364]? = some (.cells #[.slice A0_0 l0_0.length c0_0] 41 (0,0))):=⟨by (with_reducible repeat first|apply bN|apply bD|apply bA);refine blk_far ?_ NB364_389.out _;(with_reducible repeat first|apply bN|apply bD|apply bA);refine blk_far ?_ NB364_389.out _;(with_reducible repeat first|apply bN|apply bD|apply bA);refine blk_far ?_ NB364_389.out _;(with_reducible repeat first|apply bN|apply bD|apply bA);exact BK364.out⟩
      have n5_ : Aside0 ((((w151.setCell ⟨gb389,0,none⟩ (.int .i64 t384)).setCell ⟨gb389,1,none⟩ (.int .i64 t385)).setCell ⟨gb389,2,none⟩ (.slice Ao157 t386.length co157)).heap[gb365]? = some (.cells #[.int .i64 a1_0,.int .i64 a1_1,.slice A1_2 l1_2.length c1_2] 24 (0,0))):=⟨by (with_reducible repeat first|apply bN|apply bD|apply bA);refine blk_far ?_ NB365_389.out _;(with_reducible repeat first|apply bN|apply bD|apply bA);refine blk_far ?_ NB365_389.out _;(with_reducible repeat first|apply bN|apply bD|apply bA);refine blk_far ?_ NB365_389.out _;(with_reducible repeat first|apply bN|apply bD|apply bA);exact BK365.out⟩
      have n6_ : Aside0 ((((w151.setCell ⟨gb389,0,none⟩ (.int .i64 t384)).setCell ⟨gb389,1,none⟩ (.int .i64 t385)).setCell ⟨gb389,2,none⟩ (.slice Ao157 t386.length co157)).heap[gb366]? = some (.cells #[.int .i64 a2_0,.int .i64 a2_1] 50 (0,0))):=⟨by (with_reducible repeat first|apply bN|apply bD|apply bA);refine blk_far ?_ NB366_389.out _;(with_reducible repeat first|apply bN|apply bD|apply bA);refine blk_far ?_ NB366_389.out _;(with_reducible repeat first|apply bN|apply bD|apply bA);refine blk_far ?_ NB366_389.out _;(with_reducible repeat first|apply bN|apply bD|apply bA);exact BK366.out⟩
      have n7_ : Aside0 ((((w151.setCell ⟨gb389,0,none⟩ (.int .i64 t384)).setCell ⟨gb389,1,none⟩ (.int .i64 t385)).setCell ⟨gb389,2,none⟩ (.slice Ao157 t386.length co157)).heap[gb383]? = some (.cells #[.slice Ao144 t380.length co144] 44 (0,0))):=⟨by (with_reducible repeat first|apply bN|apply bD|apply bA);refine blk_far ?_ NB383_389.out _;(with_reducible repeat first|apply bN|apply bD|apply bA);refine blk_far ?_ NB383_389.out _;(with_reducible repeat first|apply bN|apply bD|apply bA);refine blk_far ?_ NB383_389.out _;(with_reducible repeat first|apply bN|apply bD|apply bA);exact BK383.out⟩
      have n8_ : Aside0 ((((w151.setCell ⟨gb389,0,none⟩ (.int .i64 t384)).setCell ⟨gb389,1,none⟩ (.int .i64 t385)).setCell ⟨gb389,2,none⟩ (.slice Ao157 t386.length co157)).heap[gb389]? = some (.cells #[.int .i64 t384,.int .i64 t385,.slice Ao157 t386.length co157] 27 (0,0))):=⟨by (with_reducible repeat first|apply bN|apply bD|apply bA);refine blk_put (cs:=#[.int .i64 t384,.int .i64 t385,.slice none 0 0]) ?_ 2 _ rfl;(with_reducible repeat first|apply bN|apply bD|apply bA);refine blk_put (cs:=#[.int .i64 t384,.int .i64 0,.slice none 0 0]) ?_ 1 _ rfl;(with_reducible repeat first|apply bN|apply bD|apply bA);refine blk_put (cs:=#[.int .i64 0,.int .i64 0,.slice none 0 0]) ?_ 0 _ rfl;(with_reducible repeat first|apply bN|apply bD|apply bA);exact BK389.out⟩
      have n9_ : Aside0 (Below w.heap.size w (((w151.setCell ⟨gb389,0,none⟩ (.int .i64 t384)).setCell ⟨gb389,1,none⟩ (.int .i64 t385)).setCell ⟨gb389,2,none⟩ (.slice Ao157 t386.length co157))):=⟨bW HB.out⟩
      (try clear HO371)
      (try clear HO376)
      (try clear HO382)
      (try clear HO388)
      (try clear BK364)
      (try clear BK365)
      (try clear BK366)
      (try clear BK383)
      (try clear BK389)
      (try clear HB)
      generalize (((w151.setCell ⟨gb389,0,none⟩ (.int .i64 t384)).setCell ⟨gb389,1,none⟩ (.int .i64 t385)).setCell ⟨gb389,2,none⟩ (.slice Ao157 t386.length co157)) = w158 at n0_ n1_ n2_ n3_ n4_ n5_ n6_ n7_ n8_ n9_ ⊢
      have HO371:=n0_
      have HO376:=n1_
      have HO382:=n2_
      have HO388:=n3_
      have BK364:=n4_
      have BK365:=n5_
      have BK366:=n6_
      have BK383:=n7_
      have BK389:=n8_
      have HB:=n9_
      clear n0_ n1_ n2_ n3_ n4_ n5_ n6_ n7_ n8_ n9_
      have n0_:=aK (Kd.S_drew HO371.out)
      have n1_:=aK (Kd.R_drew HO376.out)
      have n2_:=aK (Kd.S_drew HO382.out)
      have n3_:=aK (Kd.R_drew HO388.out)
      have n4_:=aK (bD BK364.out)
      have n5_:=aK (bD BK365.out)
      have n6_:=aK (bD BK366.out)
      have n7_:=aK (bD BK383.out)
      have n8_:=aK (bD BK389.out)
      have n9_:=aK (b1 HB.out)
      clear HO371
      clear HO376
      clear HO382
      clear HO388
      clear BK364
      clear BK365
      clear BK366
      clear BK383
      clear BK389
      clear HB
      have HO371:=n0_
      have HO376:=n1_
      have HO382:=n2_
      have HO388:=n3_
      have BK364:=n4_
      have BK365:=n5_
      have BK366:=n6_
      have BK383:=n7_
      have BK389:=n8_
      have HB:=n9_
      clear n0_ n1_ n2_ n3_ n4_ n5_ n6_ n7_ n8_ n9_
      refine start_ (n:=6) (S:=fun w'=>w'.cell? ⟨gb383,0,none⟩ = some (.slice Ao144 t380.length co144) ∧ w'.cell? ⟨gb389,0,none⟩ = some (.int .i64 t384) ∧ w'.cell? ⟨gb389,1,none⟩ = some (.int .i64 t385) ∧ w'.cell? ⟨gb389,2,none⟩ = some (.slice Ao157 t386.length co157) ∧ w'.cell? ⟨gb366,0,none⟩ = some (.int .i64 a2_0) ∧ w'.cell? ⟨gb366,1,none⟩ = some (.int .i64 a2_1)) (ds:=[]) #[false,false,false,false,false,false] (by kernel_rfl) rfl rfl ⟨(bC BK383.out 0).trans rfl,(bC BK389.out 0).trans rfl,(bC BK389.out 1).trans rfl,(bC BK389.out 2).trans rfl,(bC BK366.out 0).trans rfl,(bC BK366.out 1).trans rfl⟩ (fun hHeld=>?_)
      generalize w158.drew = w159 at HO371 HO376 HO382 HO388 BK364 BK365 BK366 BK383 BK389 HB hHeld ⊢
      refine take_ (i:=0) (N:=some 33) (v:=?_) (a':=?_) #[true,false,false,false,false,false] rfl rfl (by kernel_rfl) (fun _ _ _ h=>h) (Or.inl ⟨by rfl,?_⟩) hHeld ?_ ?_
      rotate_left
      ·rintro w' ⟨s0,s1,s2,s3,s4,s5⟩
       go_simp
       with_reducible rfl
      rotate_left
      ·simp only [Act.put,lA,l0',lS,i64_w,i32_w]
       rfl
      refine take_ (i:=1) (N:=some 34) (v:=?_) (a':=?_) #[true,true,false,false,false,false] rfl rfl (by kernel_rfl) (fun _ _ _ h=>h) (Or.inl ⟨by rfl,?_⟩) hHeld ?_ ?_
      rotate_left
      ·rintro w' ⟨s0,s1,s2,s3,s4,s5⟩
       go_simp
       with_reducible rfl
      rotate_left
      ·simp only [Act.put,lA,l0',lS,i64_w,i32_w]
       rfl
      refine take_ (i:=2) (N:=some 35) (v:=?_) (a':=?_) #[true,true,true,false,false,false] rfl rfl (by kernel_rfl) (fun _ _ _ h=>h) (Or.inl ⟨by rfl,?_⟩) hHeld ?_ ?_
      rotate_left
      ·rintro w' ⟨s0,s1,s2,s3,s4,s5⟩
       go_simp
       with_reducible rfl
      rotate_left
      ·simp only [Act.put,lA,l0',lS,i64_w,i32_w]
       rfl
      refine one_ (i:=3) (N:=some 36) #[true,true,true,true,false,false] rfl rfl (by kernel_rfl) (by decide) (fun K hK=>?_)
      refine goes_ Try.func50 (by kernel_rfl) rfl #[.agg #[.int .i64 a2_0,.int .i64 a2_1]] (by rfl) rfl rfl (by (try simp only [mA,mC,mN]);first|done|rfl) ?_
      with_reducible refine (laws_toClaim.calls a2_0 a2_1 t390 t391 _ A31.out).mono ?_
      rintro e w160 ⟨rfl,hb⟩
      refine ⟨_,rfl,?_⟩
      have n0_:=aK (Kd.S_below (sX HO371.out) hb)
      have n1_:=aK (Kd.R_below (rX HO376.out) hb)
      have n2_:=aK (Kd.S_below (sX HO382.out) hb)
      have n3_:=aK (Kd.R_below (rX HO388.out) hb)
      have n4_:=aK (bB (bX BK364.out) hb)
      have n5_:=aK (bB (bX BK365.out) hb)
      have n6_:=aK (bB (bX BK366.out) hb)
      have n7_:=aK (bB (bX BK383.out) hb)
      have n8_:=aK (bB (bX BK389.out) hb)
      have n9_:=aK (below_step (bW HB.out) hb)
      clear HO371
      clear HO376
      clear HO382
      clear HO388
      clear BK364
      clear BK365
      clear BK366
      clear BK383
      clear BK389
      clear HB
      have HO371:=n0_
      have HO376:=n1_
      have HO382:=n2_
      have HO388:=n3_
      have BK364:=n4_
      have BK365:=n5_
      have BK366:=n6_
      have BK383:=n7_
      have BK389:=n8_
      have HB:=n9_
      clear n0_ n1_ n2_ n3_ n4_ n5_ n6_ n7_ n8_ n9_
      (try clear hb)
      (try clear hb2)
      (try clear hk)
      (try clear hi)
      refine hK.out _ _ ⟨(bC BK383.out 0).trans rfl,(bC BK389.out 0).trans rfl,(bC BK389.out 1).trans rfl,(bC BK389.out 2).trans rfl,(bC BK366.out 0).trans rfl,(bC BK366.out 1).trans rfl⟩ (fun hHeld=>?_)
      clear hK K
      refine norm_ (a':=?_) ?_ ?_
      rotate_left
      ·show Act.put _ (some 36) _ = _
       simp only [Act.put,lA,l0',lS,i64_w,i32_w]
       rfl
      refine one_ (i:=4) (N:=some 37) #[true,true,true,true,true,false] rfl rfl (by kernel_rfl) (by decide) (fun K hK=>?_)
      refine goes_ Try.func51 (by kernel_rfl) rfl #[.agg #[.slice Ao144 t380.length co144],.agg #[.int .i64 t384,.int .i64 t385,.slice Ao157 t386.length co157],.agg #[.int .i64 t390,.int .i64 t391]] (by rfl) rfl rfl (by (try simp only [mA,mC,mN]);first|done|rfl) ?_
      with_reducible refine (impl_IsClaim.calls k _ _ t380 t384 t385 _ _ t386 t390 t391 t392 _ ?side1 ?side2 ?side3 ?side4 A32.out).mono ?_
      (case side1=>repeat (first|exact (Kd.S_reads' HO382.out).2.2|(with_reducible refine Kd.C_alloc ?_ _)|(with_reducible refine Kd.C_drewN ?_ _)|(with_reducible refine Kd.C_drew ?_)))
      (case side2=>exact (Kd.S_reads' HO382.out).2.1)
      (case side3=>repeat (first|exact (Kd.R_reads' HO388.out).2.2|(with_reducible refine Kd.C_alloc ?_ _)|(with_reducible refine Kd.C_drewN ?_ _)|(with_reducible refine Kd.C_drew ?_)))
      (case side4=>exact (Kd.R_reads' HO388.out).2.1)
      rintro e w161 ⟨rfl,hb⟩
      refine ⟨_,rfl,?_⟩
      have n0_:=aK (Kd.S_below (sX HO371.out) hb)
      have n1_:=aK (Kd.R_below (rX HO376.out) hb)
      have n2_:=aK (Kd.S_below (sX HO382.out) hb)
      have n3_:=aK (Kd.R_below (rX HO388.out) hb)
      have n4_:=aK (bB (bX BK364.out) hb)
      have n5_:=aK (bB (bX BK365.out) hb)
      have n6_:=aK (bB (bX BK366.out) hb)
      have n7_:=aK (bB (bX BK383.out) hb)
      have n8_:=aK (bB (bX BK389.out) hb)
      have n9_:=aK (below_step (bW HB.out) hb)
      clear HO371
      clear HO376
      clear HO382
      clear HO388
      clear BK364
      clear BK365
      clear BK366
      clear BK383
      clear BK389
      clear HB
      have HO371:=n0_
      have HO376:=n1_
      have HO382:=n2_
      have HO388:=n3_
      have BK364:=n4_
      have BK365:=n5_
      have BK366:=n6_
      have BK383:=n7_
      have BK389:=n8_
      have HB:=n9_
      clear n0_ n1_ n2_ n3_ n4_ n5_ n6_ n7_ n8_ n9_
      (try clear hb)
      (try clear hb2)
      (try clear hk)
      (try clear hi)
      refine hK.out _ _ ⟨(bC BK383.out 0).trans rfl,(bC BK389.out 0).trans rfl,(bC BK389.out 1).trans rfl,(bC BK389.out 2).trans rfl,(bC BK366.out 0).trans rfl,(bC BK366.out 1).trans rfl⟩ (fun hHeld=>?_)
      clear hK K
      refine norm_ (a':=?_) ?_ ?_
      rotate_left
      ·show Act.put _ (some 37) _ = _
       simp only [Act.put,lA,l0',lS,i64_w,i32_w]
       rfl
      refine pure_ (i:=5) (N:=some 11) (v:=?_) (a':=?_) #[true,true,true,true,true,true] rfl rfl (by kernel_rfl) (fun _ _ _ h=>h) (Or.inl ⟨by rfl,?_⟩) ?_ ?_
      rotate_left
      ·intro w'
       go_simp
       with_reducible rfl
      rotate_left
      ·simp only [Act.put,lA,l0',lS,i64_w,i32_w]
       rfl
      refine done_ (by kernel_rfl) ?_
      try go_wp2
      have n0_:=aK (Kd.S_drew HO371.out)
      have n1_:=aK (Kd.R_drew HO376.out)
      have n2_:=aK (Kd.S_drew HO382.out)
      have n3_:=aK (Kd.R_drew HO388.out)
      have n4_:=aK (bD BK364.out)
      have n5_:=aK (bD BK365.out)
      have n6_:=aK (bD BK366.out)
      have n7_:=aK (bD BK383.out)
      have n8_:=aK (bD BK389.out)
      have n9_:=aK (b1 HB.out)
      clear HO371
      clear HO376
      clear HO382
      clear HO388
      clear BK364
      clear BK365
      clear BK366
      clear BK383
      clear BK389
      clear HB
      have HO371:=n0_
      have HO376:=n1_
      have HO382:=n2_
      have HO388:=n3_
      have BK364:=n4_
      have BK365:=n5_
      have BK366:=n6_
      have BK383:=n7_
      have BK389:=n8_
      have HB:=n9_
      clear n0_ n1_ n2_ n3_ n4_ n5_ n6_ n7_ n8_ n9_
      refine start_ (n:=5) (S:=fun w'=>w'.cell? ⟨gb383,0,none⟩ = some (.slice Ao144 t380.length co144) ∧ w'.cell? ⟨gb364,0,none⟩ = some (.slice A0_0 l0_0.length c0_0)) (ds:=[]) #[false,false,false,false,false] (by kernel_rfl) rfl rfl ⟨(bC BK383.out 0).trans rfl,(bC BK364.out 0).trans rfl⟩ (fun hHeld=>?_)
      generalize w161.drew = w162 at HO371 HO376 HO382 HO388 BK364 BK365 BK366 BK383 BK389 HB hHeld ⊢
      refine take_ (i:=0) (N:=some 41) (v:=?_) (a':=?_) #[true,false,false,false,false] rfl rfl (by kernel_rfl) (fun _ _ _ h=>h) (Or.inl ⟨by rfl,?_⟩) hHeld ?_ ?_
      rotate_left
      ·rintro w' ⟨s0,s1⟩
       go_simp
       with_reducible rfl
      rotate_left
      ·simp only [Act.put,lA,l0',lS,i64_w,i32_w]
       rfl
      refine take_ (i:=1) (N:=some 42) (v:=?_) (a':=?_) #[true,true,false,false,false] rfl rfl (by kernel_rfl) (fun _ _ _ h=>h) (Or.inl ⟨by rfl,?_⟩) hHeld ?_ ?_
      rotate_left
      ·rintro w' ⟨s0,s1⟩
       go_simp
       with_reducible rfl
      rotate_left
      ·simp only [Act.put,lA,l0',lS,i64_w,i32_w]
       rfl
      refine one_ (i:=2) (N:=some 43) #[true,true,true,false,false] rfl rfl (by kernel_rfl) (by decide) (fun K hK=>?_)
      refine goes_ Try.func42 (by kernel_rfl) rfl #[.agg #[.slice A0_0 l0_0.length c0_0]] (by rfl) rfl rfl (by (try simp only [mA,mC,mN]);first|done|rfl) ?_
      with_reducible refine (laws_toDeal.calls k _ _ l0_0 t393 _ ?side1 ?side2 A72.out).mono ?_
      (case side1=>repeat (first|exact (Kd.C_below HR0_0.out HB.out)|(with_reducible refine Kd.C_alloc ?_ _)|(with_reducible refine Kd.C_drewN ?_ _)|(with_reducible refine Kd.C_drew ?_)))
      (case side2=>exact HC0_0.out)
      rintro e w163 ⟨v394,rfl,ho0,hb⟩
      refine ⟨_,rfl,?_⟩
      have n0_:=aK (Kd.S_elder' (sX HO371.out) (Kd.S_base ho0) hb)
      have n1_:=aK (Kd.R_below (rX HO376.out) hb)
      have n2_:=aK (Kd.S_elder' (sX HO382.out) (Kd.S_base ho0) hb)
      have n3_:=aK (Kd.R_below (rX HO388.out) hb)
      have n4_:=aK (Kd.S_lower (Kd.S_new' (Kd.S_new' (Kd.S_new' (Kd.S_new' ho0 (Kd.S_lt (sX HO371.out))) (Kd.R_lt (rX HO376.out))) (Kd.S_lt (sX HO382.out))) (Kd.R_lt (rX HO388.out))) (below_size (bW HB.out)))
      have n5_:=aK (bB (bX BK364.out) hb)
      have n6_:=aK (bB (bX BK365.out) hb)
      have n7_:=aK (bB (bX BK366.out) hb)
      have n8_:=aK (bB (bX BK383.out) hb)
      have n9_:=aK (bB (bX BK389.out) hb)
      have n10_:=aK (below_step (bW HB.out) hb)
      clear HO371
      clear HO376
      clear HO382
      clear HO388
      clear BK364
      clear BK365
      clear BK366
      clear BK383
      clear BK389
      clear HB
      have HO371:=n0_
      have HO376:=n1_
      have HO382:=n2_
      have HO388:=n3_
      have HO395:=n4_
      have BK364:=n5_
      have BK365:=n6_
      have BK366:=n7_
      have BK383:=n8_
      have BK389:=n9_
      have HB:=n10_
      clear n0_ n1_ n2_ n3_ n4_ n5_ n6_ n7_ n8_ n9_ n10_
      (try clear hb)
      (try clear hb2)
      (try clear hk)
      (try clear hi)
      (try clear ho0)
      obtain ⟨Ao164,co164,eo164⟩:=Kd.S_slice HO395.out
      (first|subst eo164|(injection eo164 with f1_ f2_ f3_;have f4_:=f1_.symm;have f5_:=f3_.symm;clear f1_ f2_ f3_;subst f4_;subst f5_))
      refine hK.out _ _ ⟨(bC BK383.out 0).trans rfl,(bC BK364.out 0).trans rfl⟩ (fun hHeld=>?_)
      clear hK K
      refine norm_ (a':=?_) ?_ ?_
      rotate_left
      ·show Act.put _ (some 43) _ = _
       simp only [Act.put,lA,l0',lS,i64_w,i32_w]
       rfl
      refine one_ (i:=3) (N:=some 44) #[true,true,true,true,false] rfl rfl (by kernel_rfl) (by decide) (fun K hK=>?_)
      refine goes_ Try.func44 (by kernel_rfl) rfl #[.agg #[.slice Ao144 t380.length co144],.agg #[.slice Ao164 t393.length co164]] (by rfl) rfl rfl (by (try simp only [mA,mC,mN]);first|done|rfl) ?_
      with_reducible refine (laws_eqDeal.calls k _ _ t380 _ _ t393 true _ ?side1 ?side2 ?side3 ?side4 A73.out).mono ?_
      (case side1=>repeat (first|exact (Kd.S_reads' HO382.out).2.2|(with_reducible refine Kd.C_alloc ?_ _)|(with_reducible refine Kd.C_drewN ?_ _)|(with_reducible refine Kd.C_drew ?_)))
      (case side2=>exact (Kd.S_reads' HO382.out).2.1)
      (case side3=>repeat (first|exact (Kd.S_reads' HO395.out).2.2|(with_reducible refine Kd.C_alloc ?_ _)|(with_reducible refine Kd.C_drewN ?_ _)|(with_reducible refine Kd.C_drew ?_)))
      (case side4=>exact (Kd.S_reads' HO395.out).2.1)
      rintro e w165 ⟨rfl,hb⟩
      refine ⟨_,rfl,?_⟩
      have n0_:=aK (Kd.S_below (sX HO371.out) hb)
      have n1_:=aK (Kd.R_below (rX HO376.out) hb)
      have n2_:=aK (Kd.S_below (sX HO382.out) hb)
      have n3_:=aK (Kd.R_below (rX HO388.out) hb)
      have n4_:=aK (Kd.S_below (sX HO395.out) hb)
      have n5_:=aK (bB (bX BK364.out) hb)
      have n6_:=aK (bB (bX BK365.out) hb)
      have n7_:=aK (bB (bX BK366.out) hb)
      have n8_:=aK (bB (bX BK383.out) hb)
      have n9_:=aK (bB (bX BK389.out) hb)
      have n10_:=aK (below_step (bW HB.out) hb)
      clear HO371
      clear HO376
      clear HO382
      clear HO388
      clear HO395
      clear BK364
      clear BK365
      clear BK366
      clear BK383
      clear BK389
      clear HB
      have HO371:=n0_
      have HO376:=n1_
      have HO382:=n2_
      have HO388:=n3_
      have HO395:=n4_
      have BK364:=n5_
      have BK365:=n6_
      have BK366:=n7_
      have BK383:=n8_
      have BK389:=n9_
      have HB:=n10_
      clear n0_ n1_ n2_ n3_ n4_ n5_ n6_ n7_ n8_ n9_ n10_
      (try clear hb)
      (try clear hb2)
      (try clear hk)
      (try clear hi)
      refine hK.out _ _ ⟨(bC BK383.out 0).trans rfl,(bC BK364.out 0).trans rfl⟩ (fun hHeld=>?_)
      clear hK K
      refine norm_ (a':=?_) ?_ ?_
      rotate_left
      ·show Act.put _ (some 44) _ = _
       simp only [Act.put,lA,l0',lS,i64_w,i32_w]
       rfl
      refine pure_ (i:=4) (N:=some 45) (v:=?_) (a':=?_) #[true,true,true,true,true] rfl rfl (by kernel_rfl) (fun _ _ _ h=>h) (Or.inl ⟨by rfl,?_⟩) ?_ ?_
      rotate_left
      ·intro w'
       go_simp
       with_reducible rfl
      rotate_left
      ·simp only [Act.put,lA,l0',lS,i64_w,i32_w]
       rfl
      refine done_ (by kernel_rfl) ?_
      try go_wp2
      have n0_:=aK (Kd.S_drew HO371.out)
      have n1_:=aK (Kd.R_drew HO376.out)
      have n2_:=aK (Kd.S_drew HO382.out)
      have n3_:=aK (Kd.R_drew HO388.out)
      have n4_:=aK (Kd.S_drew HO395.out)
      have n5_:=aK (bD BK364.out)
      have n6_:=aK (bD BK365.out)
      have n7_:=aK (bD BK366.out)
      have n8_:=aK (bD BK383.out)
      have n9_:=aK (bD BK389.out)
      have n10_:=aK (b1 HB.out)
      clear HO371
      clear HO376
      clear HO382
      clear HO388
      clear HO395
      clear BK364
      clear BK365
      clear BK366
      clear BK383
      clear BK389
      clear HB
      have HO371:=n0_
      have HO376:=n1_
      have HO382:=n2_
      have HO388:=n3_
      have HO395:=n4_
      have BK364:=n5_
      have BK365:=n6_
      have BK366:=n7_
      have BK383:=n8_
      have BK389:=n9_
      have HB:=n10_
      clear n0_ n1_ n2_ n3_ n4_ n5_ n6_ n7_ n8_ n9_ n10_
      refine start_ (n:=5) (S:=fun w'=>w'.cell? ⟨gb389,0,none⟩ = some (.int .i64 t384) ∧ w'.cell? ⟨gb389,1,none⟩ = some (.int .i64 t385) ∧ w'.cell? ⟨gb389,2,none⟩ = some (.slice Ao157 t386.length co157) ∧ w'.cell? ⟨gb365,0,none⟩ = some (.int .i64 a1_0) ∧ w'.cell? ⟨gb365,1,none⟩ = some (.int .i64 a1_1) ∧ w'.cell? ⟨gb365,2,none⟩ = some (.slice A1_2 l1_2.length c1_2)) (ds:=[]) #[false,false,false,false,false] (by kernel_rfl) rfl rfl ⟨(bC BK389.out 0).trans rfl,(bC BK389.out 1).trans rfl,(bC BK389.out 2).trans rfl,(bC BK365.out 0).trans rfl,(bC BK365.out 1).trans rfl,(bC BK365.out 2).trans rfl⟩ (fun hHeld=>?_)
      generalize w165.drew = w166 at HO371 HO376 HO382 HO388 HO395 BK364 BK365 BK366 BK383 BK389 HB hHeld ⊢
      refine take_ (i:=0) (N:=some 46) (v:=?_) (a':=?_) #[true,false,false,false,false] rfl rfl (by kernel_rfl) (fun _ _ _ h=>h) (Or.inl ⟨by rfl,?_⟩) hHeld ?_ ?_
      rotate_left
      ·rintro w' ⟨s0,s1,s2,s3,s4,s5⟩
       go_simp
       with_reducible rfl
      rotate_left
      ·simp only [Act.put,lA,l0',lS,i64_w,i32_w]
       rfl
      refine take_ (i:=1) (N:=some 47) (v:=?_) (a':=?_) #[true,true,false,false,false] rfl rfl (by kernel_rfl) (fun _ _ _ h=>h) (Or.inl ⟨by rfl,?_⟩) hHeld ?_ ?_
      rotate_left
      ·rintro w' ⟨s0,s1,s2,s3,s4,s5⟩
       go_simp
       with_reducible rfl
      rotate_left
      ·simp only [Act.put,lA,l0',lS,i64_w,i32_w]
       rfl
      refine one_ (i:=2) (N:=some 48) #[true,true,true,false,false] rfl rfl (by kernel_rfl) (by decide) (fun K hK=>?_)
      refine goes_ Try.func24 (by kernel_rfl) rfl #[.agg #[.int .i64 a1_0,.int .i64 a1_1,.slice A1_2 l1_2.length c1_2]] (by rfl) rfl rfl (by (try simp only [mA,mC,mN]);first|done|rfl) ?_
      with_reducible refine (laws_toPlay.calls k a1_0 a1_1 _ _ l1_2 t397 t398 t399 _ ?side1 ?side2 A75.out).mono ?_
      (case side1=>repeat (first|exact (Kd.C_below HR1_2.out HB.out)|(with_reducible refine Kd.C_alloc ?_ _)|(with_reducible refine Kd.C_drewN ?_ _)|(with_reducible refine Kd.C_drew ?_)))
      (case side2=>exact HC1_2.out)
      rintro e w167 ⟨v400,rfl,ho0,hb⟩
      refine ⟨_,rfl,?_⟩
      have n0_:=aK (Kd.S_elder' (sX HO371.out) (Kd.R_base ho0) hb)
      have n1_:=aK (Kd.R_elder' (rX HO376.out) (Kd.R_base ho0) hb)
      have n2_:=aK (Kd.S_elder' (sX HO382.out) (Kd.R_base ho0) hb)
      have n3_:=aK (Kd.R_elder' (rX HO388.out) (Kd.R_base ho0) hb)
      have n4_:=aK (Kd.S_elder' (sX HO395.out) (Kd.R_base ho0) hb)
      have n5_:=aK (Kd.R_lower (Kd.R_new' (Kd.R_new' ho0 (Kd.R_lt (rX HO376.out))) (Kd.R_lt (rX HO388.out))) (below_size (bW HB.out)))
      have n6_:=aK (bB (bX BK364.out) hb)
      have n7_:=aK (bB (bX BK365.out) hb)
      have n8_:=aK (bB (bX BK366.out) hb)
      have n9_:=aK (bB (bX BK383.out) hb)
      have n10_:=aK (bB (bX BK389.out) hb)
      have n11_:=aK (below_step (bW HB.out) hb)
      clear HO371
      clear HO376
      clear HO382
      clear HO388
      clear HO395
      clear BK364
      clear BK365
      clear BK366
      clear BK383
      clear BK389
      clear HB
      have HO371:=n0_
      have HO376:=n1_
      have HO382:=n2_
      have HO388:=n3_
      have HO395:=n4_
      have HO401:=n5_
      have BK364:=n6_
      have BK365:=n7_
      have BK366:=n8_
      have BK383:=n9_
      have BK389:=n10_
      have HB:=n11_
      clear n0_ n1_ n2_ n3_ n4_ n5_ n6_ n7_ n8_ n9_ n10_ n11_
      (try clear hb)
      (try clear hb2)
      (try clear hk)
      (try clear hi)
      (try clear ho0)
      obtain ⟨Ao168,co168,eo168⟩:=Kd.R_slice HO401.out
      (first|subst eo168|(injection eo168 with f1_ f2_ f3_;have f4_:=f1_.symm;have f5_:=f3_.symm;clear f1_ f2_ f3_;subst f4_;subst f5_))
      refine hK.out _ _ ⟨(bC BK389.out 0).trans rfl,(bC BK389.out 1).trans rfl,(bC BK389.out 2).trans rfl,(bC BK365.out 0).trans rfl,(bC BK365.out 1).trans rfl,(bC BK365.out 2).trans rfl⟩ (fun hHeld=>?_)
      clear hK K
      refine norm_ (a':=?_) ?_ ?_
      rotate_left
      ·show Act.put _ (some 48) _ = _
       simp only [Act.put,lA,l0',lS,i64_w,i32_w]
       rfl
      refine one_ (i:=3) (N:=some 49) #[true,true,true,true,false] rfl rfl (by kernel_rfl) (by decide) (fun K hK=>?_)
      refine goes_ Try.func26 (by kernel_rfl) rfl #[.agg #[.int .i64 t384,.int .i64 t385,.slice Ao157 t386.length co157],.agg #[.int .i64 t397,.int .i64 t398,.slice Ao168 t399.length co168]] (by rfl) rfl rfl (by (try simp only [mA,mC,mN]);first|done|rfl) ?_
      with_reducible refine (laws_eqPlay.calls k t384 t385 _ _ t386 t397 t398 _ _ t399 false _ ?side1 ?side2 ?side3 ?side4 A76.out).mono ?_
      (case side1=>repeat (first|exact (Kd.R_reads' HO388.out).2.2|(with_reducible refine Kd.C_alloc ?_ _)|(with_reducible refine Kd.C_drewN ?_ _)|(with_reducible refine Kd.C_drew ?_)))
      (case side2=>exact (Kd.R_reads' HO388.out).2.1)
      (case side3=>repeat (first|exact (Kd.R_reads' HO401.out).2.2|(with_reducible refine Kd.C_alloc ?_ _)|(with_reducible refine Kd.C_drewN ?_ _)|(with_reducible refine Kd.C_drew ?_)))
      (case side4=>exact (Kd.R_reads' HO401.out).2.1)
      rintro e w169 ⟨rfl,hb⟩
      refine ⟨_,rfl,?_⟩
      have n0_:=aK (Kd.S_below (sX HO371.out) hb)
      have n1_:=aK (Kd.R_below (rX HO376.out) hb)
      have n2_:=aK (Kd.S_below (sX HO382.out) hb)
      have n3_:=aK (Kd.R_below (rX HO388.out) hb)
      have n4_:=aK (Kd.S_below (sX HO395.out) hb)
      have n5_:=aK (Kd.R_below (rX HO401.out) hb)
      have n6_:=aK (bB (bX BK364.out) hb)
      have n7_:=aK (bB (bX BK365.out) hb)
      have n8_:=aK (bB (bX BK366.out) hb)
      have n9_:=aK (bB (bX BK383.out) hb)
      have n10_:=aK (bB (bX BK389.out) hb)
      have n11_:=aK (below_step (bW HB.out) hb)
      clear HO371
      clear HO376
      clear HO382
      clear HO388
      clear HO395
      clear HO401
      clear BK364
      clear BK365
      clear BK366
      clear BK383
      clear BK389
      clear HB
      have HO371:=n0_
      have HO376:=n1_
      have HO382:=n2_
      have HO388:=n3_
      have HO395:=n4_
      have HO401:=n5_
      have BK364:=n6_
      have BK365:=n7_
      have BK366:=n8_
      have BK383:=n9_
      have BK389:=n10_
      have HB:=n11_
      clear n0_ n1_ n2_ n3_ n4_ n5_ n6_ n7_ n8_ n9_ n10_ n11_
      (try clear hb)
      (try clear hb2)
      (try clear hk)
      (try clear hi)
      refine hK.out _ _ ⟨(bC BK389.out 0).trans rfl,(bC BK389.out 1).trans rfl,(bC BK389.out 2).trans rfl,(bC BK365.out 0).trans rfl,(bC BK365.out 1).trans rfl,(bC BK365.out 2).trans rfl⟩ (fun hHeld=>?_)
      clear hK K
      refine norm_ (a':=?_) ?_ ?_
      rotate_left
      ·show Act.put _ (some 49) _ = _
       simp only [Act.put,lA,l0',lS,i64_w,i32_w]
       rfl
      refine pure_ (i:=4) (N:=some 50) (v:=?_) (a':=?_) #[true,true,true,true,true] rfl rfl (by kernel_rfl) (fun _ _ _ h=>h) (Or.inl ⟨by rfl,?_⟩) ?_ ?_
      rotate_left
      ·intro w'
       go_simp
       with_reducible rfl
      rotate_left
      ·simp only [Act.put,lA,l0',lS,i64_w,i32_w]
       rfl
      refine done_ (by kernel_rfl) ?_
      try go_wp2
      go_ret
      exact ⟨by first|rfl|(simp [errW_none,errW_some] <;> rfl)|(simp [*,errW_none,errW_some] <;> rfl),bW HB.out⟩
    ·replace c74:=Bool.eq_false_iff.mpr c74
     subst c74
     have H1 : (some false) = some r:=by rw [if_neg (show ¬ (false = true) by decide)] at H;exact H
     clear H
     have H:=H1
     clear H1
     obtain rfl:=Option.some.inj H
     go_enter Try.func11,Try.ntmps11
     try go_wp2_with (first|((with_reducible refine gate_dst (N:=3) rfl ?_);refine box_event ?hg (N:=3) ?hd (cs:=#[.slice A0_0 l0_0.length c0_0]) (t:=41) ?hr ?_;(case hd=>rfl);(case hg=>rfl);(case hr=>first|(go_simp;done)|(go_simp;rfl));intro gb364 hg w170 hbox hb;have n0_:=aK (below_step (bW HB.out) hb);have n1_:=aK (hbox);have n2_:=aK ((by rw [hg];exact (below_size (bW HB.out)) : w.heap.size ≤ gb364));have n3_:=aK ((by rw [hg];exact (below_size (bW HB.out)) : w.heap.size ≤ gb364));clear HB;have HB:=n0_;have BK364:=n1_;have GW364:=n2_;have GE364:=n3_;clear n0_ n1_ n2_ n3_;clear hb hbox hg)|((with_reducible refine gate_dst (N:=4) rfl ?_);refine box_event ?hg (N:=4) ?hd (cs:=#[.int .i64 a1_0,.int .i64 a1_1,.slice A1_2 l1_2.length c1_2]) (t:=24) ?hr ?_;(case hd=>rfl);(case hg=>rfl);(case hr=>first|(go_simp;done)|(go_simp;rfl));intro gb365 hg w171 hbox hb;have n0_:=aK (bB (bX BK364.out) hb);have n1_:=aK (below_step (bW HB.out) hb);have n2_:=aK (hbox);have n3_:=aK ((by rw [hg];exact (below_size (bW HB.out)) : w.heap.size ≤ gb365));have n4_:=aK ((by rw [hg];exact (below_size (bW HB.out)) : w.heap.size ≤ gb365));have n5_:=aK ((by rw [hg];exact Nat.ne_of_lt (blk_lt (bX BK364.out)) : gb364 ≠ gb365));have n6_:=aK ((by rw [hg];exact Nat.ne_of_gt (blk_lt (bX BK364.out)) : gb365 ≠ gb364));clear BK364;clear HB;have BK364:=n0_;have HB:=n1_;have BK365:=n2_;have GW365:=n3_;have GE365:=n4_;have NB364_365:=n5_;have NB365_364:=n6_;clear n0_ n1_ n2_ n3_ n4_ n5_ n6_;clear hb hbox hg)|((with_reducible refine gate_dst (N:=5) rfl ?_);refine box_event ?hg (N:=5) ?hd (cs:=#[.int .i64 a2_0,.int .i64 a2_1]) (t:=50) ?hr ?_;(case hd=>rfl);(case hg=>rfl);(case hr=>first|(go_simp;done)|(go_simp;rfl));intro gb366 hg w172 hbox hb;have n0_:=aK (bB (bX BK364.out) hb);have n1_:=aK (bB (bX BK365.out) hb);have n2_:=aK (below_step (bW HB.out) hb);have n3_:=aK (hbox);have n4_:=aK ((by rw [hg];exact (below_size (bW HB.out)) : w.heap.size ≤ gb366));have n5_:=aK ((by rw [hg];exact (below_size (bW HB.out)) : w.heap.size ≤ gb366));have n6_:=aK ((by rw [hg];exact Nat.ne_of_lt (blk_lt (bX BK364.out)) : gb364 ≠ gb366));have n7_:=aK ((by rw [hg];exact Nat.ne_of_gt (blk_lt (bX BK364.out)) : gb366 ≠ gb364));have n8_:=aK ((by rw [hg];exact Nat.ne_of_lt (blk_lt (bX BK365.out)) : gb365 ≠ gb366));have n9_:=aK ((by rw [hg];exact Nat.ne_of_gt (blk_lt (bX BK365.out)) : gb366 ≠ gb365));clear BK364;clear BK365;clear HB;have BK364:=n0_;have BK365:=n1_;have HB:=n2_;have BK366:=n3_;have GW366:=n4_;have GE366:=n5_;have NB364_366:=n6_;have NB366_364:=n7_;have NB365_366:=n8_;have NB366_365:=n9_;clear n0_ n1_ n2_ n3_ n4_ n5_ n6_ n7_ n8_ n9_;clear hb hbox hg;have hnb173:=NB364_365.out;have hnc173:=NB365_364.out;have hnb174:=NB364_366.out;have hnc174:=NB366_364.out;have hcz175_0 : w172.cell? ⟨gb364,0,none⟩ = some (.slice A0_0 l0_0.length c0_0):=(bC BK364.out 0).trans rfl;have hfz175_0:=blk_frozen BK364.out 0)|((with_reducible refine gate_callee (f:=40) rfl ?_);refine goesL_ (some 14) rfl rfl Try.func40 (by kernel_rfl) rfl #[.agg #[.slice A0_0 l0_0.length c0_0],.int .i64 1048576] rfl (by (try simp only [mA,mC,mN]);first|done|rfl) ?_;(with_reducible refine (laws_szDeal.calls k _ _ l0_0 1048576 t367 _ ?side1 ?side2 A4.out).mono ?_);(case side1=>repeat (first|exact (Kd.C_below HR0_0.out HB.out)|(with_reducible refine Kd.C_alloc ?_ _)|(with_reducible refine Kd.C_drewN ?_ _)|(with_reducible refine Kd.C_drew ?_)));(case side2=>exact HC0_0.out);rintro e w176 ⟨rfl,hb⟩;refine ⟨_,rfl,?_⟩;have n0_:=aK (bB (bX BK364.out) hb);have n1_:=aK (bB (bX BK365.out) hb);have n2_:=aK (bB (bX BK366.out) hb);have n3_:=aK (below_step (bW HB.out) hb);clear BK364;clear BK365;clear BK366;clear HB;have BK364:=n0_;have BK365:=n1_;have BK366:=n2_;have HB:=n3_;clear n0_ n1_ n2_ n3_;(try clear hb);(try clear hb2);(try clear hk);(try clear hi);have hnb177:=NB365_366.out;have hnc177:=NB366_365.out;have hcz178_0 : w176.cell? ⟨gb365,0,none⟩ = some (.int .i64 a1_0):=(bC BK365.out 0).trans rfl;have hcz178_1 : w176.cell? ⟨gb365,1,none⟩ = some (.int .i64 a1_1):=(bC BK365.out 1).trans rfl;have hcz178_2 : w176.cell? ⟨gb365,2,none⟩ = some (.slice A1_2 l1_2.length c1_2):=(bC BK365.out 2).trans rfl;have hfz178_0:=blk_frozen BK365.out 0;have hfz178_1:=blk_frozen BK365.out 1;have hfz178_2:=blk_frozen BK365.out 2)|((with_reducible refine gate_callee (f:=22) rfl ?_);refine goesL_ (some 19) rfl rfl Try.func22 (by kernel_rfl) rfl #[.agg #[.int .i64 a1_0,.int .i64 a1_1,.slice A1_2 l1_2.length c1_2],.int .i64 t367] rfl (by (try simp only [mA,mC,mN]);first|done|rfl) ?_;(with_reducible refine (laws_szPlay.calls a1_0 a1_1 _ _ l1_2 t367 t368 _ ?side1 ?side2 A13.out).mono ?_);(case side1=>repeat (first|exact (Kd.C_below HR1_2.out HB.out)|(with_reducible refine Kd.C_alloc ?_ _)|(with_reducible refine Kd.C_drewN ?_ _)|(with_reducible refine Kd.C_drew ?_)));(case side2=>exact HC1_2.out);rintro e w179 ⟨rfl,hb⟩;refine ⟨_,rfl,?_⟩;have n0_:=aK (bB (bX BK364.out) hb);have n1_:=aK (bB (bX BK365.out) hb);have n2_:=aK (bB (bX BK366.out) hb);have n3_:=aK (below_step (bW HB.out) hb);clear BK364;clear BK365;clear BK366;clear HB;have BK364:=n0_;have BK365:=n1_;have BK366:=n2_;have HB:=n3_;clear n0_ n1_ n2_ n3_;(try clear hb);(try clear hb2);(try clear hk);(try clear hi)))
     have n0_:=aK (bD BK364.out)
     have n1_:=aK (bD BK365.out)
     have n2_:=aK (bD BK366.out)
     have n3_:=aK (b1 HB.out)
     clear BK364
     clear BK365
     clear BK366
     clear HB
     have BK364:=n0_
     have BK365:=n1_
     have BK366:=n2_
     have HB:=n3_
     clear n0_ n1_ n2_ n3_
     refine start_ (n:=8) (S:=fun w'=>w'.cell? ⟨gb364,0,none⟩ = some (.slice A0_0 l0_0.length c0_0) ∧ w'.cell? ⟨gb365,0,none⟩ = some (.int .i64 a1_0) ∧ w'.cell? ⟨gb365,1,none⟩ = some (.int .i64 a1_1) ∧ w'.cell? ⟨gb365,2,none⟩ = some (.slice A1_2 l1_2.length c1_2) ∧ w'.cell? ⟨gb366,0,none⟩ = some (.int .i64 a2_0) ∧ w'.cell? ⟨gb366,1,none⟩ = some (.int .i64 a2_1)) (ds:=[]) #[false,false,false,false,false,false,false,false] (by kernel_rfl) rfl rfl ⟨(bC BK364.out 0).trans rfl,(bC BK365.out 0).trans rfl,(bC BK365.out 1).trans rfl,(bC BK365.out 2).trans rfl,(bC BK366.out 0).trans rfl,(bC BK366.out 1).trans rfl⟩ (fun hHeld=>?_);refine with_tabW laws_FnExactIsClaim.tab8 laws_FnExactIsClaim.bits8 (fun HT_ HW_=>?_)
     generalize w179.drew = w180 at BK364 BK365 BK366 HB hHeld ⊢
     refine take_ (i:=0) (N:=some 22) (v:=?_) (a':=?_) #[true,false,false,false,false,false,false,false] rfl rfl (take_ofW HT_.out HW_.out (by kernel_rfl)) (fun _ _ _ h=>h) (Or.inl ⟨by rfl,?_⟩) hHeld ?_ ?_
     rotate_left
     ·rintro w' ⟨s0,s1,s2,s3,s4,s5⟩
      go_simp
      with_reducible rfl
     rotate_left
     ·simp only [Act.put,lA,l0',lS,i64_w,i32_w]
      rfl
     refine take_ (i:=2) (N:=some 24) (v:=?_) (a':=?_) #[true,false,true,false,false,false,false,false] rfl rfl (take_ofW HT_.out HW_.out (by kernel_rfl)) (fun _ _ _ h=>h) (Or.inl ⟨by rfl,?_⟩) hHeld ?_ ?_
     rotate_left
     ·rintro w' ⟨s0,s1,s2,s3,s4,s5⟩
      go_simp
      with_reducible rfl
     rotate_left
     ·simp only [Act.put,lA,l0',lS,i64_w,i32_w]
      rfl
     refine take_ (i:=4) (N:=some 26) (v:=?_) (a':=?_) #[true,false,true,false,true,false,false,false] rfl rfl (take_ofW HT_.out HW_.out (by kernel_rfl)) (fun _ _ _ h=>h) (Or.inl ⟨by rfl,?_⟩) hHeld ?_ ?_
     rotate_left
     ·rintro w' ⟨s0,s1,s2,s3,s4,s5⟩
      go_simp
      with_reducible rfl
     rotate_left
     ·simp only [Act.put,lA,l0',lS,i64_w,i32_w]
      rfl
     refine one_ (i:=1) (N:=some 23) #[true,true,true,false,true,false,false,false] rfl rfl (one_of HT_.out (by kernel_rfl)) (by decide) (fun K hK=>?_)
     refine goes_ Try.func42 (by kernel_rfl) rfl #[.agg #[.slice A0_0 l0_0.length c0_0]] (by rfl) rfl rfl (by (try simp only [mA,mC,mN]);first|done|rfl) ?_
     with_reducible refine (laws_toDeal.calls k _ _ l0_0 t369 _ ?side1 ?side2 A25.out).mono ?_
     (case side1=>repeat (first|exact (Kd.C_below HR0_0.out HB.out)|(with_reducible refine Kd.C_alloc ?_ _)|(with_reducible refine Kd.C_drewN ?_ _)|(with_reducible refine Kd.C_drew ?_)))
     (case side2=>exact HC0_0.out)
     rintro e w181 ⟨v370,rfl,ho0,hb⟩
     refine ⟨_,rfl,?_⟩
     have n0_:=aK (Kd.S_lower ho0 (below_size (bW HB.out)))
     have n1_:=aK (bB (bX BK364.out) hb)
     have n2_:=aK (bB (bX BK365.out) hb)
     have n3_:=aK (bB (bX BK366.out) hb)
     have n4_:=aK (below_step (bW HB.out) hb)
     clear BK364
     clear BK365
     clear BK366
     clear HB
     have HO371:=n0_
     have BK364:=n1_
     have BK365:=n2_
     have BK366:=n3_
     have HB:=n4_
     clear n0_ n1_ n2_ n3_ n4_
     (try clear hb)
     (try clear hb2)
     (try clear hk)
     (try clear hi)
     (try clear ho0)
     refine hK.out _ _ ⟨(bC BK364.out 0).trans rfl,(bC BK365.out 0).trans rfl,(bC BK365.out 1).trans rfl,(bC BK365.out 2).trans rfl,(bC BK366.out 0).trans rfl,(bC BK366.out 1).trans rfl⟩ (fun hHeld=>?_)
     clear hK K
     refine norm_ (a':=?_) ?_ ?_
     rotate_left
     ·show Act.put _ (some 23) _ = _
      simp only [Act.put,lA,l0',lS,i64_w,i32_w]
      rfl
     refine one_ (i:=3) (N:=some 25) #[true,true,true,true,true,false,false,false] rfl rfl (one_of HT_.out (by kernel_rfl)) (by decide) (fun K hK=>?_)
     refine goes_ Try.func24 (by kernel_rfl) rfl #[.agg #[.int .i64 a1_0,.int .i64 a1_1,.slice A1_2 l1_2.length c1_2]] (by rfl) rfl rfl (by (try simp only [mA,mC,mN]);first|done|rfl) ?_
     with_reducible refine (laws_toPlay.calls k a1_0 a1_1 _ _ l1_2 t372 t373 t374 _ ?side1 ?side2 A26.out).mono ?_
     (case side1=>repeat (first|exact (Kd.C_below HR1_2.out HB.out)|(with_reducible refine Kd.C_alloc ?_ _)|(with_reducible refine Kd.C_drewN ?_ _)|(with_reducible refine Kd.C_drew ?_)))
     (case side2=>exact HC1_2.out)
     rintro e w182 ⟨v375,rfl,ho0,hb⟩
     refine ⟨_,rfl,?_⟩
     have n0_:=aK (Kd.S_elder' (sX HO371.out) (Kd.R_base ho0) hb)
     have n1_:=aK (Kd.R_lower ho0 (below_size (bW HB.out)))
     have n2_:=aK (bB (bX BK364.out) hb)
     have n3_:=aK (bB (bX BK365.out) hb)
     have n4_:=aK (bB (bX BK366.out) hb)
     have n5_:=aK (below_step (bW HB.out) hb)
     clear HO371
     clear BK364
     clear BK365
     clear BK366
     clear HB
     have HO371:=n0_
     have HO376:=n1_
     have BK364:=n2_
     have BK365:=n3_
     have BK366:=n4_
     have HB:=n5_
     clear n0_ n1_ n2_ n3_ n4_ n5_
     (try clear hb)
     (try clear hb2)
     (try clear hk)
     (try clear hi)
     (try clear ho0)
     refine hK.out _ _ ⟨(bC BK364.out 0).trans rfl,(bC BK365.out 0).trans rfl,(bC BK365.out 1).trans rfl,(bC BK365.out 2).trans rfl,(bC BK366.out 0).trans rfl,(bC BK366.out 1).trans rfl⟩ (fun hHeld=>?_)
     clear hK K
     refine norm_ (a':=?_) ?_ ?_
     rotate_left
     ·show Act.put _ (some 25) _ = _
      simp only [Act.put,lA,l0',lS,i64_w,i32_w]
      rfl
     refine one_ (i:=5) (N:=some 27) #[true,true,true,true,true,true,false,false] rfl rfl (one_of HT_.out (by kernel_rfl)) (by decide) (fun K hK=>?_)
     refine goes_ Try.func50 (by kernel_rfl) rfl #[.agg #[.int .i64 a2_0,.int .i64 a2_1]] (by rfl) rfl rfl (by (try simp only [mA,mC,mN]);first|done|rfl) ?_
     with_reducible refine (laws_toClaim.calls a2_0 a2_1 t377 t378 _ A27.out).mono ?_
     rintro e w183 ⟨rfl,hb⟩
     refine ⟨_,rfl,?_⟩
     have n0_:=aK (Kd.S_below (sX HO371.out) hb)
     have n1_:=aK (Kd.R_below (rX HO376.out) hb)
     have n2_:=aK (bB (bX BK364.out) hb)
     have n3_:=aK (bB (bX BK365.out) hb)
     have n4_:=aK (bB (bX BK366.out) hb)
     have n5_:=aK (below_step (bW HB.out) hb)
     clear HO371
     clear HO376
     clear BK364
     clear BK365
     clear BK366
     clear HB
     have HO371:=n0_
     have HO376:=n1_
     have BK364:=n2_
     have BK365:=n3_
     have BK366:=n4_
     have HB:=n5_
     clear n0_ n1_ n2_ n3_ n4_ n5_
     (try clear hb)
     (try clear hb2)
     (try clear hk)
     (try clear hi)
     obtain ⟨Ao184,co184,eo184⟩:=Kd.S_slice HO371.out
     (first|subst eo184|(injection eo184 with f1_ f2_ f3_;have f4_:=f1_.symm;have f5_:=f3_.symm;clear f1_ f2_ f3_;subst f4_;subst f5_))
     obtain ⟨Ao185,co185,eo185⟩:=Kd.R_slice HO376.out
     (first|subst eo185|(injection eo185 with f1_ f2_ f3_;have f4_:=f1_.symm;have f5_:=f3_.symm;clear f1_ f2_ f3_;subst f4_;subst f5_))
     refine hK.out _ _ ⟨(bC BK364.out 0).trans rfl,(bC BK365.out 0).trans rfl,(bC BK365.out 1).trans rfl,(bC BK365.out 2).trans rfl,(bC BK366.out 0).trans rfl,(bC BK366.out 1).trans rfl⟩ (fun hHeld=>?_)
     clear hK K
     refine norm_ (a':=?_) ?_ ?_
     rotate_left
     ·show Act.put _ (some 27) _ = _
      simp only [Act.put,lA,l0',lS,i64_w,i32_w]
      rfl
     refine one_ (i:=6) (N:=some 28) #[true,true,true,true,true,true,true,false] rfl rfl (one_of HT_.out (by kernel_rfl)) (by decide) (fun K hK=>?_)
     refine goes_ Try.func49 (by kernel_rfl) rfl #[.agg #[.slice Ao184 t369.length co184],.agg #[.int .i64 t372,.int .i64 t373,.slice Ao185 t374.length co185],.agg #[.int .i64 t377,.int .i64 t378]] (by rfl) rfl rfl (by (try simp only [mA,mC,mN]);first|done|rfl) ?_
     with_reducible refine (spec_IsClaim.calls k _ _ t369 t372 t373 _ _ t374 t377 t378 t379 _ ?side1 ?side2 ?side3 ?side4 A28.out).mono ?_
     (case side1=>repeat (first|exact (Kd.S_reads' HO371.out).2.2|(with_reducible refine Kd.C_alloc ?_ _)|(with_reducible refine Kd.C_drewN ?_ _)|(with_reducible refine Kd.C_drew ?_)))
     (case side2=>exact (Kd.S_reads' HO371.out).2.1)
     (case side3=>repeat (first|exact (Kd.R_reads' HO376.out).2.2|(with_reducible refine Kd.C_alloc ?_ _)|(with_reducible refine Kd.C_drewN ?_ _)|(with_reducible refine Kd.C_drew ?_)))
     (case side4=>exact (Kd.R_reads' HO376.out).2.1)
     rintro e w186 ⟨rfl,hb⟩
     refine ⟨_,rfl,?_⟩
     have n0_:=aK (Kd.S_below (sX HO371.out) hb)
     have n1_:=aK (Kd.R_below (rX HO376.out) hb)
     have n2_:=aK (bB (bX BK364.out) hb)
     have n3_:=aK (bB (bX BK365.out) hb)
     have n4_:=aK (bB (bX BK366.out) hb)
     have n5_:=aK (below_step (bW HB.out) hb)
     clear HO371
     clear HO376
     clear BK364
     clear BK365
     clear BK366
     clear HB
     have HO371:=n0_
     have HO376:=n1_
     have BK364:=n2_
     have BK365:=n3_
     have BK366:=n4_
     have HB:=n5_
     clear n0_ n1_ n2_ n3_ n4_ n5_
     (try clear hb)
     (try clear hb2)
     (try clear hk)
     (try clear hi)
     refine hK.out _ _ ⟨(bC BK364.out 0).trans rfl,(bC BK365.out 0).trans rfl,(bC BK365.out 1).trans rfl,(bC BK365.out 2).trans rfl,(bC BK366.out 0).trans rfl,(bC BK366.out 1).trans rfl⟩ (fun hHeld=>?_)
     clear hK K
     refine norm_ (a':=?_) ?_ ?_
     rotate_left
     ·show Act.put _ (some 28) _ = _
      simp only [Act.put,lA,l0',lS,i64_w,i32_w]
      rfl
     refine pure_ (i:=7) (N:=some 8) (v:=?_) (a':=?_) #[true,true,true,true,true,true,true,true] rfl rfl (any_of HT_.out (by kernel_rfl)) (fun _ _ _ h=>h) (Or.inl ⟨by rfl,?_⟩) ?_ ?_
     rotate_left
     ·intro w'
      go_simp
      with_reducible rfl
     rotate_left
     ·simp only [Act.put,lA,l0',lS,i64_w,i32_w]
      rfl
     refine done_ (done_of HT_.out (by kernel_rfl)) ?_
     have hcz187_0 : w186.cell? ⟨gb364,0,none⟩ = some (.slice A0_0 l0_0.length c0_0):=(bC BK364.out 0).trans rfl
     have hfz187_0:=blk_frozen BK364.out 0
     try go_wp2_with (first|((with_reducible refine gate_callee (f:=42) rfl ?_);refine goesL_ (some 30) rfl rfl Try.func42 (by kernel_rfl) rfl #[.agg #[.slice A0_0 l0_0.length c0_0]] rfl (by (try simp only [mA,mC,mN]);first|done|rfl) ?_;(with_reducible refine (laws_toDeal.calls k _ _ l0_0 t380 _ ?side1 ?side2 A29.out).mono ?_);(case side1=>repeat (first|exact (Kd.C_below HR0_0.out HB.out)|(with_reducible refine Kd.C_alloc ?_ _)|(with_reducible refine Kd.C_drewN ?_ _)|(with_reducible refine Kd.C_drew ?_)));(case side2=>exact HC0_0.out);rintro e w188 ⟨v381,rfl,ho0,hb⟩;refine ⟨_,rfl,?_⟩;have n0_:=aK (Kd.S_elder' (sX HO371.out) (Kd.S_base ho0) hb);have n1_:=aK (Kd.R_below (rX HO376.out) hb);have n2_:=aK (Kd.S_lower (Kd.S_new' (Kd.S_new' ho0 (Kd.S_lt (sX HO371.out))) (Kd.R_lt (rX HO376.out))) (below_size (bW HB.out)));have n3_:=aK (bB (bX BK364.out) hb);have n4_:=aK (bB (bX BK365.out) hb);have n5_:=aK (bB (bX BK366.out) hb);have n6_:=aK (below_step (bW HB.out) hb);clear HO371;clear HO376;clear BK364;clear BK365;clear BK366;clear HB;have HO371:=n0_;have HO376:=n1_;have HO382:=n2_;have BK364:=n3_;have BK365:=n4_;have BK366:=n5_;have HB:=n6_;clear n0_ n1_ n2_ n3_ n4_ n5_ n6_;(try clear hb);(try clear hb2);(try clear hk);(try clear hi);(try clear ho0))|((with_reducible refine gate_dst (N:=9) rfl ?_);refine box_event ?hg (N:=9) ?hd (cs:=#[.slice none 0 0]) (t:=44) ?hr ?_;(case hd=>rfl);(case hg=>rfl);(case hr=>first|(go_simp;done)|(go_simp;rfl));intro gb383 hg w189 hbox hb;have n0_:=aK (Kd.S_below (sX HO371.out) hb);have n1_:=aK (Kd.R_below (rX HO376.out) hb);have n2_:=aK (Kd.S_below (sX HO382.out) hb);have n3_:=aK (bB (bX BK364.out) hb);have n4_:=aK (bB (bX BK365.out) hb);have n5_:=aK (bB (bX BK366.out) hb);have n6_:=aK (below_step (bW HB.out) hb);have n7_:=aK (hbox);have n8_:=aK ((by rw [hg];exact (below_size (bW HB.out)) : w.heap.size ≤ gb383));have n9_:=aK ((by rw [hg];exact (below_size (bW HB.out)) : w.heap.size ≤ gb383));have n10_:=aK ((by rw [hg];exact Nat.ne_of_lt (blk_lt (bX BK364.out)) : gb364 ≠ gb383));have n11_:=aK ((by rw [hg];exact Nat.ne_of_gt (blk_lt (bX BK364.out)) : gb383 ≠ gb364));have n12_:=aK ((by rw [hg];exact Nat.ne_of_lt (blk_lt (bX BK365.out)) : gb365 ≠ gb383));have n13_:=aK ((by rw [hg];exact Nat.ne_of_gt (blk_lt (bX BK365.out)) : gb383 ≠ gb365));have n14_:=aK ((by rw [hg];exact Nat.ne_of_lt (blk_lt (bX BK366.out)) : gb366 ≠ gb383));have n15_:=aK ((by rw [hg];exact Nat.ne_of_gt (blk_lt (bX BK366.out)) : gb383 ≠ gb366));clear HO371;clear HO376;clear HO382;clear BK364;clear BK365;clear BK366;clear HB;have HO371:=n0_;have HO376:=n1_;have HO382:=n2_;have BK364:=n3_;have BK365:=n4_;have BK366:=n5_;have HB:=n6_;have BK383:=n7_;have GW383:=n8_;have GE383:=n9_;have NB364_383:=n10_;have NB383_364:=n11_;have NB365_383:=n12_;have NB383_365:=n13_;have NB366_383:=n14_;have NB383_366:=n15_;clear n0_ n1_ n2_ n3_ n4_ n5_ n6_ n7_ n8_ n9_ n10_ n11_ n12_ n13_ n14_ n15_;clear hb hbox hg;obtain ⟨Ao190,co190,eo190⟩:=Kd.S_slice HO382.out;subst eo190;have hnb191:=NB383_364.out;have hnc191:=NB364_383.out;have hnb192:=NB383_365.out;have hnc192:=NB365_383.out;have hnb193:=NB383_366.out;have hnc193:=NB366_383.out;have hcz194_0 : w189.cell? ⟨gb383,0,none⟩ = some (.slice none 0 0):=(bC BK383.out 0).trans rfl;have hfz194_0:=blk_frozen BK383.out 0;have hcz195_0 : w189.cell? ⟨gb365,0,none⟩ = some (.int .i64 a1_0):=(bC BK365.out 0).trans rfl;have hcz195_1 : w189.cell? ⟨gb365,1,none⟩ = some (.int .i64 a1_1):=(bC BK365.out 1).trans rfl;have hcz195_2 : w189.cell? ⟨gb365,2,none⟩ = some (.slice A1_2 l1_2.length c1_2):=(bC BK365.out 2).trans rfl;have hfz195_0:=blk_frozen BK365.out 0;have hfz195_1:=blk_frozen BK365.out 1;have hfz195_2:=blk_frozen BK365.out 2)|((with_reducible refine gate_callee (f:=24) rfl ?_);refine goesL_ (some 32) rfl rfl Try.func24 (by kernel_rfl) rfl #[.agg #[.int .i64 a1_0,.int .i64 a1_1,.slice A1_2 l1_2.length c1_2]] rfl (by (try simp only [mA,mC,mN]);first|done|rfl) ?_;(with_reducible refine (laws_toPlay.calls k a1_0 a1_1 _ _ l1_2 t384 t385 t386 _ ?side1 ?side2 A30.out).mono ?_);(case side1=>exact Kd.C_below HR1_2.out (bW HB.out));(case side2=>exact HC1_2.out);rintro e w196 ⟨v387,rfl,ho0,hb⟩;refine ⟨_,rfl,?_⟩;have n0_:=aK (Kd.S_elder' (by (with_reducible repeat first|apply Kd.S_alloc|apply Kd.S_drewN|apply Kd.S_drew);exact (Kd.S_mono (Kd.S_far (p:=⟨gb383,0,none⟩) (Kd.S_types HO371.out BK383.out (by decide)) (fun _ hk=>by first|exact hk.2|exact aP hk) (.slice Ao190 t380.length co190)) (fun _ h_=>h_.1))) (Kd.R_base ho0) hb);have n1_:=aK (Kd.R_elder' (by (with_reducible repeat first|apply Kd.R_alloc|apply Kd.R_drewN|apply Kd.R_drew);exact (Kd.R_mono (Kd.R_far (p:=⟨gb383,0,none⟩) (Kd.R_types HO376.out BK383.out (by decide)) (fun _ hk=>by first|exact hk.2|exact aP hk) (.slice Ao190 t380.length co190)) (fun _ h_=>h_.1))) (Kd.R_base ho0) hb);have n2_:=aK (Kd.S_elder' (by (with_reducible repeat first|apply Kd.S_alloc|apply Kd.S_drewN|apply Kd.S_drew);exact (Kd.S_mono (Kd.S_far (p:=⟨gb383,0,none⟩) (Kd.S_types HO382.out BK383.out (by decide)) (fun _ hk=>by first|exact hk.2|exact aP hk) (.slice Ao190 t380.length co190)) (fun _ h_=>h_.1))) (Kd.R_base ho0) hb);have n3_:=aK (Kd.R_lower (Kd.R_new' ho0 (Kd.R_lt (by (with_reducible repeat first|apply Kd.R_alloc|apply Kd.R_drewN|apply Kd.R_drew);exact (Kd.R_mono (Kd.R_far (p:=⟨gb383,0,none⟩) (Kd.R_types HO376.out BK383.out (by decide)) (fun _ hk=>by first|exact hk.2|exact aP hk) (.slice Ao190 t380.length co190)) (fun _ h_=>h_.1))))) (below_size (bW HB.out)));have n4_:=aK (bB (g:=gb364) (o:=.cells #[.slice A0_0 l0_0.length c0_0] 41 (0,0)) (by (with_reducible repeat first|apply bN|apply bD|apply bA);refine blk_far ?_ NB364_383.out _;(with_reducible repeat first|apply bN|apply bD|apply bA);exact BK364.out) hb);have n5_:=aK (bB (g:=gb365) (o:=.cells #[.int .i64 a1_0,.int .i64 a1_1,.slice A1_2 l1_2.length c1_2] 24 (0,0)) (by (with_reducible repeat first|apply bN|apply bD|apply bA);refine blk_far ?_ NB365_383.out _;(with_reducible repeat first|apply bN|apply bD|apply bA);exact BK365.out) hb);have n6_:=aK (bB (g:=gb366) (o:=.cells #[.int .i64 a2_0,.int .i64 a2_1] 50 (0,0)) (by (with_reducible repeat first|apply bN|apply bD|apply bA);refine blk_far ?_ NB366_383.out _;(with_reducible repeat first|apply bN|apply bD|apply bA);exact BK366.out) hb);have n7_:=aK (bB (g:=gb383) (o:=.cells #[.slice Ao190 t380.length co190] 44 (0,0)) (by (with_reducible repeat first|apply bN|apply bD|apply bA);refine blk_put (cs:=#[.slice none 0 0]) ?_ 0 _ rfl;(with_reducible repeat first|apply bN|apply bD|apply bA);exact BK383.out) hb);have n8_:=aK (below_step (bW HB.out) hb);clear HO371;clear HO376;clear HO382;clear BK364;clear BK365;clear BK366;clear BK383;clear HB;have HO371:=n0_;have HO376:=n1_;have HO382:=n2_;have HO388:=n3_;have BK364:=n4_;have BK365:=n5_;have BK366:=n6_;have BK383:=n7_;have HB:=n8_;clear n0_ n1_ n2_ n3_ n4_ n5_ n6_ n7_ n8_;(try clear hb);(try clear hb2);(try clear hk);(try clear hi);(try clear ho0))|((with_reducible refine gate_dst (N:=10) rfl ?_);refine box_event ?hg (N:=10) ?hd (cs:=#[.int .i64 0,.int .i64 0,.slice none 0 0]) (t:=27) ?hr ?_;(case hd=>rfl);(case hg=>rfl);(case hr=>first|(go_simp;done)|(go_simp;rfl));intro gb389 hg w197 hbox hb;have n0_:=aK (Kd.S_below (sX HO371.out) hb);have n1_:=aK (Kd.R_below (rX HO376.out) hb);have n2_:=aK (Kd.S_below (sX HO382.out) hb);have n3_:=aK (Kd.R_below (rX HO388.out) hb);have n4_:=aK (bB (bX BK364.out) hb);have n5_:=aK (bB (bX BK365.out) hb);have n6_:=aK (bB (bX BK366.out) hb);have n7_:=aK (bB (bX BK383.out) hb);have n8_:=aK (below_step (bW HB.out) hb);have n9_:=aK (hbox);have n10_:=aK ((by rw [hg];exact (below_size (bW HB.out)) : w.heap.size ≤ gb389));have n11_:=aK ((by rw [hg];exact (below_size (bW HB.out)) : w.heap.size ≤ gb389));have n12_:=aK ((by rw [hg];exact Nat.ne_of_lt (blk_lt (bX BK364.out)) : gb364 ≠ gb389));have n13_:=aK ((by rw [hg];exact Nat.ne_of_gt (blk_lt (bX BK364.out)) : gb389 ≠ gb364));have n14_:=aK ((by rw [hg];exact Nat.ne_of_lt (blk_lt (bX BK365.out)) : gb365 ≠ gb389));have n15_:=aK ((by rw [hg];exact Nat.ne_of_gt (blk_lt (bX BK365.out)) : gb389 ≠ gb365));have n16_:=aK ((by rw [hg];exact Nat.ne_of_lt (blk_lt (bX BK366.out)) : gb366 ≠ gb389));have n17_:=aK ((by rw [hg];exact Nat.ne_of_gt (blk_lt (bX BK366.out)) : gb389 ≠ gb366));have n18_:=aK ((by rw [hg];exact Nat.ne_of_lt (blk_lt (bX BK383.out)) : gb383 ≠ gb389));have n19_:=aK ((by rw [hg];exact Nat.ne_of_gt (blk_lt (bX BK383.out)) : gb389 ≠ gb383));clear HO371;clear HO376;clear HO382;clear HO388;clear BK364;clear BK365;clear BK366;clear BK383;clear HB;have HO371:=n0_;have HO376:=n1_;have HO382:=n2_;have HO388:=n3_;have BK364:=n4_;have BK365:=n5_;have BK366:=n6_;have BK383:=n7_;have HB:=n8_;have BK389:=n9_;have GW389:=n10_;have GE389:=n11_;have NB364_389:=n12_;have NB389_364:=n13_;have NB365_389:=n14_;have NB389_365:=n15_;have NB366_389:=n16_;have NB389_366:=n17_;have NB383_389:=n18_;have NB389_383:=n19_;clear n0_ n1_ n2_ n3_ n4_ n5_ n6_ n7_ n8_ n9_ n10_ n11_ n12_ n13_ n14_ n15_ n16_ n17_ n18_ n19_;clear hb hbox hg;have hnb198:=NB389_364.out;have hnc198:=NB364_389.out;have hnb199:=NB389_365.out;have hnc199:=NB365_389.out;have hnb200:=NB389_366.out;have hnc200:=NB366_389.out;have hnb201:=NB389_383.out;have hnc201:=NB383_389.out;have hcz202_0 : w197.cell? ⟨gb389,0,none⟩ = some (.int .i64 0):=(bC BK389.out 0).trans rfl;have hcz202_1 : w197.cell? ⟨gb389,1,none⟩ = some (.int .i64 0):=(bC BK389.out 1).trans rfl;have hcz202_2 : w197.cell? ⟨gb389,2,none⟩ = some (.slice none 0 0):=(bC BK389.out 2).trans rfl;have hfz202_0:=blk_frozen BK389.out 0;have hfz202_1:=blk_frozen BK389.out 1;have hfz202_2:=blk_frozen BK389.out 2;obtain ⟨Ao203,co203,eo203⟩:=Kd.R_slice HO388.out;subst eo203))
     have n0_ : Aside0 (Kd.S (Kd.slice 2 (Kd.int .i64)) 22 (((w197.setCell ⟨gb389,0,none⟩ (.int .i64 t384)).setCell ⟨gb389,1,none⟩ (.int .i64 t385)).setCell ⟨gb389,2,none⟩ (.slice Ao203 t386.length co203)) w.heap.size (fun k_=>some k_ ≠ (.slice Ao185 t374.length co185 : Value).ownBlock ∧ some k_ ≠ (.slice Ao190 t380.length co190 : Value).ownBlock ∧ some k_ ≠ (.slice Ao203 t386.length co203 : Value).ownBlock) (.slice Ao184 t369.length co184) t369):=⟨by (with_reducible repeat first|apply Kd.S_alloc|apply Kd.S_drewN|apply Kd.S_drew);exact Kd.S_mono (Kd.S_far (p:=⟨gb389,2,none⟩) (Kd.S_far (p:=⟨gb389,1,none⟩) (Kd.S_far (p:=⟨gb389,0,none⟩) (Kd.S_types HO371.out BK389.out (by decide)) (fun _ hk=>by first|exact hk.2|exact aP hk) (.int .i64 t384)) (fun _ hk=>by first|exact hk.2|exact aP hk) (.int .i64 t385)) (fun _ hk=>by first|exact hk.2|exact aP hk) (.slice Ao203 t386.length co203)) (fun _ hk=>by first|exact ⟨hk.1.1.1.2,⟨hk.1.1.2,hk.1.2⟩⟩|exact aP hk)⟩
     have n1_ : Aside0 (Kd.R (Kd.int .i64) 2 (((w197.setCell ⟨gb389,0,none⟩ (.int .i64 t384)).setCell ⟨gb389,1,none⟩ (.int .i64 t385)).setCell ⟨gb389,2,none⟩ (.slice Ao203 t386.length co203)) w.heap.size (fun k_=>some k_ ≠ (.slice Ao203 t386.length co203 : Value).ownBlock) (.slice Ao185 t374.length co185) t374):=⟨by (with_reducible repeat first|apply Kd.R_alloc|apply Kd.R_drewN|apply Kd.R_drew);exact Kd.R_mono (Kd.R_far (p:=⟨gb389,2,none⟩) (Kd.R_far (p:=⟨gb389,1,none⟩) (Kd.R_far (p:=⟨gb389,0,none⟩) (Kd.R_types HO376.out BK389.out (by decide)) (fun _ hk=>by first|exact hk.2|exact aP hk) (.int .i64 t384)) (fun _ hk=>by first|exact hk.2|exact aP hk) (.int .i64 t385)) (fun _ hk=>by first|exact hk.2|exact aP hk) (.slice Ao203 t386.length co203)) (fun _ hk=>hk.1.2)⟩
     have n2_ : Aside0 (Kd.S (Kd.slice 2 (Kd.int .i64)) 22 (((w197.setCell ⟨gb389,0,none⟩ (.int .i64 t384)).setCell ⟨gb389,1,none⟩ (.int .i64 t385)).setCell ⟨gb389,2,none⟩ (.slice Ao203 t386.length co203)) w.heap.size (fun k_=>some k_ ≠ (.slice Ao184 t369.length co184 : Value).ownBlock ∧ some k_ ≠ (.slice Ao185 t374.length co185 : Value).ownBlock ∧ some k_ ≠ (.slice Ao203 t386.length co203 : Value).ownBlock) (.slice Ao190 t380.length co190) t380):=⟨by (with_reducible repeat first|apply Kd.S_alloc|apply Kd.S_drewN|apply Kd.S_drew);exact Kd.S_mono (Kd.S_far (p:=⟨gb389,2,none⟩) (Kd.S_far (p:=⟨gb389,1,none⟩) (Kd.S_far (p:=⟨gb389,0,none⟩) (Kd.S_types HO382.out BK389.out (by decide)) (fun _ hk=>by first|exact hk.2|exact aP hk) (.int .i64 t384)) (fun _ hk=>by first|exact hk.2|exact aP hk) (.int .i64 t385)) (fun _ hk=>by first|exact hk.2|exact aP hk) (.slice Ao203 t386.length co203)) (fun _ hk=>by first|exact ⟨hk.1.1.1.2,⟨hk.1.1.2,hk.1.2⟩⟩|exact aP hk)⟩
     have n3_ : Aside0 (Kd.R (Kd.int .i64) 2 (((w197.setCell ⟨gb389,0,none⟩ (.int .i64 t384)).setCell ⟨gb389,1,none⟩ (.int .i64 t385)).setCell ⟨gb389,2,none⟩ (.slice Ao203 t386.length co203)) w.heap.size (fun k_=>some k_ ≠ (.slice Ao185 t374.length co185 : Value).ownBlock) (.slice Ao203 t386.length co203) t386):=⟨by (with_reducible repeat first|apply Kd.R_alloc|apply Kd.R_drewN|apply Kd.R_drew);exact Kd.R_mono (Kd.R_far (p:=⟨gb389,2,none⟩) (Kd.R_far (p:=⟨gb389,1,none⟩) (Kd.R_far (p:=⟨gb389,0,none⟩) (Kd.R_types HO388.out BK389.out (by decide)) (fun _ hk=>by first|exact hk.2|exact aP hk) (.int .i64 t384)) (fun _ hk=>by first|exact hk.2|exact aP hk) (.int .i64 t385)) (fun _ hk=>by first|exact hk.2|exact aP hk) (.slice Ao203 t386.length co203)) (fun _ hk=>hk.1.2)⟩
     have n4_ : Aside0 ((((w197.setCell ⟨gb389,0,none⟩ (.int .i64 t384)).setCell ⟨gb389,1,none⟩ (.int .i64 t385)).setCell ⟨gb389,2,none⟩ (.slice Ao203 t386.length co203)).heap[gb364]? = some (.cells #[.slice A0_0 l0_0.length c0_0] 41 (0,0))):=⟨by (with_reducible repeat first|apply bN|apply bD|apply bA);refine blk_far ?_ NB364_389.out _;(with_reducible repeat first|apply bN|apply bD|apply bA);refine blk_far ?_ NB364_389.out _;(with_reducible repeat first|apply bN|apply bD|apply bA);refine blk_far ?_ NB364_389.out _;(with_reducible repeat first|apply bN|apply bD|apply bA);exact BK364.out⟩
     have n5_ : Aside0 ((((w197.setCell ⟨gb389,0,none⟩ (.int .i64 t384)).setCell ⟨gb389,1,none⟩ (.int .i64 t385)).setCell ⟨gb389,2,none⟩ (.slice Ao203 t386.length co203)).heap[gb365]? = some (.cells #[.int .i64 a1_0,.int .i64 a1_1,.slice A1_2 l1_2.length c1_2] 24 (0,0))):=⟨by (with_reducible repeat first|apply bN|apply bD|apply bA);refine blk_far ?_ NB365_389.out _;(with_reducible repeat first|apply bN|apply bD|apply bA);refine blk_far ?_ NB365_389.out _;(with_reducible repeat first|apply bN|apply bD|apply bA);refine blk_far ?_ NB365_389.out _;(with_reducible repeat first|apply bN|apply bD|apply bA);exact BK365.out⟩
     have n6_ : Aside0 ((((w197.setCell ⟨gb389,0,none⟩ (.int .i64 t384)).setCell ⟨gb389,1,none⟩ (.int .i64 t385)).setCell ⟨gb389,2,none⟩ (.slice Ao203 t386.length co203)).heap[gb366]? = some (.cells #[.int .i64 a2_0,.int .i64 a2_1] 50 (0,0))):=⟨by (with_reducible repeat first|apply bN|apply bD|apply bA);refine blk_far ?_ NB366_389.out _;(with_reducible repeat first|apply bN|apply bD|apply bA);refine blk_far ?_ NB366_389.out _;(with_reducible repeat first|apply bN|apply bD|apply bA);refine blk_far ?_ NB366_389.out _;(with_reducible repeat first|apply bN|apply bD|apply bA);exact BK366.out⟩
     have n7_ : Aside0 ((((w197.setCell ⟨gb389,0,none⟩ (.int .i64 t384)).setCell ⟨gb389,1,none⟩ (.int .i64 t385)).setCell ⟨gb389,2,none⟩ (.slice Ao203 t386.length co203)).heap[gb383]? = some (.cells #[.slice Ao190 t380.length co190] 44 (0,0))):=⟨by (with_reducible repeat first|apply bN|apply bD|apply bA);refine blk_far ?_ NB383_389.out _;(with_reducible repeat first|apply bN|apply bD|apply bA);refine blk_far ?_ NB383_389.out _;(with_reducible repeat first|apply bN|apply bD|apply bA);refine blk_far ?_ NB383_389.out _;(with_reducible repeat first|apply bN|apply bD|apply bA);exact BK383.out⟩
     have n8_ : Aside0 ((((w197.setCell ⟨gb389,0,none⟩ (.int .i64 t384)).setCell ⟨gb389,1,none⟩ (.int .i64 t385)).setCell ⟨gb389,2,none⟩ (.slice Ao203 t386.length co203)).heap[gb389]? = some (.cells #[.int .i64 t384,.int .i64 t385,.slice Ao203 t386.length co203] 27 (0,0))):=⟨by (with_reducible repeat first|apply bN|apply bD|apply bA);refine blk_put (cs:=#[.int .i64 t384,.int .i64 t385,.slice none 0 0]) ?_ 2 _ rfl;(with_reducible repeat first|apply bN|apply bD|apply bA);refine blk_put (cs:=#[.int .i64 t384,.int .i64 0,.slice none 0 0]) ?_ 1 _ rfl;(with_reducible repeat first|apply bN|apply bD|apply bA);refine blk_put (cs:=#[.int .i64 0,.int .i64 0,.slice none 0 0]) ?_ 0 _ rfl;(with_reducible repeat first|apply bN|apply bD|apply bA);exact BK389.out⟩
     have n9_ : Aside0 (Below w.heap.size w (((w197.setCell ⟨gb389,0,none⟩ (.int .i64 t384)).setCell ⟨gb389,1,none⟩ (.int .i64 t385)).setCell ⟨gb389,2,none⟩ (.slice Ao203 t386.length co203))):=⟨bW HB.out⟩
     (try clear HO371)
     (try clear HO376)
     (try clear HO382)
     (try clear HO388)
     (try clear BK364)
     (try clear BK365)
     (try clear BK366)
     (try clear BK383)
     (try clear BK389)
     (try clear HB)
     generalize (((w197.setCell ⟨gb389,0,none⟩ (.int .i64 t384)).setCell ⟨gb389,1,none⟩ (.int .i64 t385)).setCell ⟨gb389,2,none⟩ (.slice Ao203 t386.length co203)) = w204 at n0_ n1_ n2_ n3_ n4_ n5_ n6_ n7_ n8_ n9_ ⊢
     have HO371:=n0_
     have HO376:=n1_
     have HO382:=n2_
     have HO388:=n3_
     have BK364:=n4_
     have BK365:=n5_
     have BK366:=n6_
     have BK383:=n7_
     have BK389:=n8_
     have HB:=n9_
     clear n0_ n1_ n2_ n3_ n4_ n5_ n6_ n7_ n8_ n9_
     have n0_:=aK (Kd.S_drew HO371.out)
     have n1_:=aK (Kd.R_drew HO376.out)
     have n2_:=aK (Kd.S_drew HO382.out)
     have n3_:=aK (Kd.R_drew HO388.out)
     have n4_:=aK (bD BK364.out)
     have n5_:=aK (bD BK365.out)
     have n6_:=aK (bD BK366.out)
     have n7_:=aK (bD BK383.out)
     have n8_:=aK (bD BK389.out)
     have n9_:=aK (b1 HB.out)
     clear HO371
     clear HO376
     clear HO382
     clear HO388
     clear BK364
     clear BK365
     clear BK366
     clear BK383
     clear BK389
     clear HB
     have HO371:=n0_
     have HO376:=n1_
     have HO382:=n2_
     have HO388:=n3_
     have BK364:=n4_
     have BK365:=n5_
     have BK366:=n6_
     have BK383:=n7_
     have BK389:=n8_
     have HB:=n9_
     clear n0_ n1_ n2_ n3_ n4_ n5_ n6_ n7_ n8_ n9_
     refine start_ (n:=6) (S:=fun w'=>w'.cell? ⟨gb383,0,none⟩ = some (.slice Ao190 t380.length co190) ∧ w'.cell? ⟨gb389,0,none⟩ = some (.int .i64 t384) ∧ w'.cell? ⟨gb389,1,none⟩ = some (.int .i64 t385) ∧ w'.cell? ⟨gb389,2,none⟩ = some (.slice Ao203 t386.length co203) ∧ w'.cell? ⟨gb366,0,none⟩ = some (.int .i64 a2_0) ∧ w'.cell? ⟨gb366,1,none⟩ = some (.int .i64 a2_1)) (ds:=[]) #[false,false,false,false,false,false] (by kernel_rfl) rfl rfl ⟨(bC BK383.out 0).trans rfl,(bC BK389.out 0).trans rfl,(bC BK389.out 1).trans rfl,(bC BK389.out 2).trans rfl,(bC BK366.out 0).trans rfl,(bC BK366.out 1).trans rfl⟩ (fun hHeld=>?_)
     generalize w204.drew = w205 at HO371 HO376 HO382 HO388 BK364 BK365 BK366 BK383 BK389 HB hHeld ⊢
     refine take_ (i:=0) (N:=some 33) (v:=?_) (a':=?_) #[true,false,false,false,false,false] rfl rfl (by kernel_rfl) (fun _ _ _ h=>h) (Or.inl ⟨by rfl,?_⟩) hHeld ?_ ?_
     rotate_left
     ·rintro w' ⟨s0,s1,s2,s3,s4,s5⟩
      go_simp
      with_reducible rfl
     rotate_left
     ·simp only [Act.put,lA,l0',lS,i64_w,i32_w]
      rfl
     refine take_ (i:=1) (N:=some 34) (v:=?_) (a':=?_) #[true,true,false,false,false,false] rfl rfl (by kernel_rfl) (fun _ _ _ h=>h) (Or.inl ⟨by rfl,?_⟩) hHeld ?_ ?_
     rotate_left
     ·rintro w' ⟨s0,s1,s2,s3,s4,s5⟩
      go_simp
      with_reducible rfl
     rotate_left
     ·simp only [Act.put,lA,l0',lS,i64_w,i32_w]
      rfl
     refine take_ (i:=2) (N:=some 35) (v:=?_) (a':=?_) #[true,true,true,false,false,false] rfl rfl (by kernel_rfl) (fun _ _ _ h=>h) (Or.inl ⟨by rfl,?_⟩) hHeld ?_ ?_
     rotate_left
     ·rintro w' ⟨s0,s1,s2,s3,s4,s5⟩
      go_simp
      with_reducible rfl
     rotate_left
     ·simp only [Act.put,lA,l0',lS,i64_w,i32_w]
      rfl
     refine one_ (i:=3) (N:=some 36) #[true,true,true,true,false,false] rfl rfl (by kernel_rfl) (by decide) (fun K hK=>?_)
     refine goes_ Try.func50 (by kernel_rfl) rfl #[.agg #[.int .i64 a2_0,.int .i64 a2_1]] (by rfl) rfl rfl (by (try simp only [mA,mC,mN]);first|done|rfl) ?_
     with_reducible refine (laws_toClaim.calls a2_0 a2_1 t390 t391 _ A31.out).mono ?_
     rintro e w206 ⟨rfl,hb⟩
     refine ⟨_,rfl,?_⟩
     have n0_:=aK (Kd.S_below (sX HO371.out) hb)
     have n1_:=aK (Kd.R_below (rX HO376.out) hb)
     have n2_:=aK (Kd.S_below (sX HO382.out) hb)
     have n3_:=aK (Kd.R_below (rX HO388.out) hb)
     have n4_:=aK (bB (bX BK364.out) hb)
     have n5_:=aK (bB (bX BK365.out) hb)
     have n6_:=aK (bB (bX BK366.out) hb)
     have n7_:=aK (bB (bX BK383.out) hb)
     have n8_:=aK (bB (bX BK389.out) hb)
     have n9_:=aK (below_step (bW HB.out) hb)
     clear HO371
     clear HO376
     clear HO382
     clear HO388
     clear BK364
     clear BK365
     clear BK366
     clear BK383
     clear BK389
     clear HB
     have HO371:=n0_
     have HO376:=n1_
     have HO382:=n2_
     have HO388:=n3_
     have BK364:=n4_
     have BK365:=n5_
     have BK366:=n6_
     have BK383:=n7_
     have BK389:=n8_
     have HB:=n9_
     clear n0_ n1_ n2_ n3_ n4_ n5_ n6_ n7_ n8_ n9_
     (try clear hb)
     (try clear hb2)
     (try clear hk)
     (try clear hi)
     refine hK.out _ _ ⟨(bC BK383.out 0).trans rfl,(bC BK389.out 0).trans rfl,(bC BK389.out 1).trans rfl,(bC BK389.out 2).trans rfl,(bC BK366.out 0).trans rfl,(bC BK366.out 1).trans rfl⟩ (fun hHeld=>?_)
     clear hK K
     refine norm_ (a':=?_) ?_ ?_
     rotate_left
     ·show Act.put _ (some 36) _ = _
      simp only [Act.put,lA,l0',lS,i64_w,i32_w]
      rfl
     refine one_ (i:=4) (N:=some 37) #[true,true,true,true,true,false] rfl rfl (by kernel_rfl) (by decide) (fun K hK=>?_)
     refine goes_ Try.func51 (by kernel_rfl) rfl #[.agg #[.slice Ao190 t380.length co190],.agg #[.int .i64 t384,.int .i64 t385,.slice Ao203 t386.length co203],.agg #[.int .i64 t390,.int .i64 t391]] (by rfl) rfl rfl (by (try simp only [mA,mC,mN]);first|done|rfl) ?_
     with_reducible refine (impl_IsClaim.calls k _ _ t380 t384 t385 _ _ t386 t390 t391 t392 _ ?side1 ?side2 ?side3 ?side4 A32.out).mono ?_
     (case side1=>repeat (first|exact (Kd.S_reads' HO382.out).2.2|(with_reducible refine Kd.C_alloc ?_ _)|(with_reducible refine Kd.C_drewN ?_ _)|(with_reducible refine Kd.C_drew ?_)))
     (case side2=>exact (Kd.S_reads' HO382.out).2.1)
     (case side3=>repeat (first|exact (Kd.R_reads' HO388.out).2.2|(with_reducible refine Kd.C_alloc ?_ _)|(with_reducible refine Kd.C_drewN ?_ _)|(with_reducible refine Kd.C_drew ?_)))
     (case side4=>exact (Kd.R_reads' HO388.out).2.1)
     rintro e w207 ⟨rfl,hb⟩
     refine ⟨_,rfl,?_⟩
     have n0_:=aK (Kd.S_below (sX HO371.out) hb)
     have n1_:=aK (Kd.R_below (rX HO376.out) hb)
     have n2_:=aK (Kd.S_below (sX HO382.out) hb)
     have n3_:=aK (Kd.R_below (rX HO388.out) hb)
     have n4_:=aK (bB (bX BK364.out) hb)
     have n5_:=aK (bB (bX BK365.out) hb)
     have n6_:=aK (bB (bX BK366.out) hb)
     have n7_:=aK (bB (bX BK383.out) hb)
     have n8_:=aK (bB (bX BK389.out) hb)
     have n9_:=aK (below_step (bW HB.out) hb)
     clear HO371
     clear HO376
     clear HO382
     clear HO388
     clear BK364
     clear BK365
     clear BK366
     clear BK383
     clear BK389
     clear HB
     have HO371:=n0_
     have HO376:=n1_
     have HO382:=n2_
     have HO388:=n3_
     have BK364:=n4_
     have BK365:=n5_
     have BK366:=n6_
     have BK383:=n7_
     have BK389:=n8_
     have HB:=n9_
     clear n0_ n1_ n2_ n3_ n4_ n5_ n6_ n7_ n8_ n9_
     (try clear hb)
     (try clear hb2)
     (try clear hk)
     (try clear hi)
     refine hK.out _ _ ⟨(bC BK383.out 0).trans rfl,(bC BK389.out 0).trans rfl,(bC BK389.out 1).trans rfl,(bC BK389.out 2).trans rfl,(bC BK366.out 0).trans rfl,(bC BK366.out 1).trans rfl⟩ (fun hHeld=>?_)
     clear hK K
     refine norm_ (a':=?_) ?_ ?_
     rotate_left
     ·show Act.put _ (some 37) _ = _
      simp only [Act.put,lA,l0',lS,i64_w,i32_w]
      rfl
     refine pure_ (i:=5) (N:=some 11) (v:=?_) (a':=?_) #[true,true,true,true,true,true] rfl rfl (by kernel_rfl) (fun _ _ _ h=>h) (Or.inl ⟨by rfl,?_⟩) ?_ ?_
     rotate_left
     ·intro w'
      go_simp
      with_reducible rfl
     rotate_left
     ·simp only [Act.put,lA,l0',lS,i64_w,i32_w]
      rfl
     refine done_ (by kernel_rfl) ?_
     try go_wp2
     have n0_:=aK (Kd.S_drew HO371.out)
     have n1_:=aK (Kd.R_drew HO376.out)
     have n2_:=aK (Kd.S_drew HO382.out)
     have n3_:=aK (Kd.R_drew HO388.out)
     have n4_:=aK (bD BK364.out)
     have n5_:=aK (bD BK365.out)
     have n6_:=aK (bD BK366.out)
     have n7_:=aK (bD BK383.out)
     have n8_:=aK (bD BK389.out)
     have n9_:=aK (b1 HB.out)
     clear HO371
     clear HO376
     clear HO382
     clear HO388
     clear BK364
     clear BK365
     clear BK366
     clear BK383
     clear BK389
     clear HB
     have HO371:=n0_
     have HO376:=n1_
     have HO382:=n2_
     have HO388:=n3_
     have BK364:=n4_
     have BK365:=n5_
     have BK366:=n6_
     have BK383:=n7_
     have BK389:=n8_
     have HB:=n9_
     clear n0_ n1_ n2_ n3_ n4_ n5_ n6_ n7_ n8_ n9_
     refine start_ (n:=5) (S:=fun w'=>w'.cell? ⟨gb383,0,none⟩ = some (.slice Ao190 t380.length co190) ∧ w'.cell? ⟨gb364,0,none⟩ = some (.slice A0_0 l0_0.length c0_0)) (ds:=[]) #[false,false,false,false,false] (by kernel_rfl) rfl rfl ⟨(bC BK383.out 0).trans rfl,(bC BK364.out 0).trans rfl⟩ (fun hHeld=>?_)
     generalize w207.drew = w208 at HO371 HO376 HO382 HO388 BK364 BK365 BK366 BK383 BK389 HB hHeld ⊢
     refine take_ (i:=0) (N:=some 41) (v:=?_) (a':=?_) #[true,false,false,false,false] rfl rfl (by kernel_rfl) (fun _ _ _ h=>h) (Or.inl ⟨by rfl,?_⟩) hHeld ?_ ?_
     rotate_left
     ·rintro w' ⟨s0,s1⟩
      go_simp
      with_reducible rfl
     rotate_left
     ·simp only [Act.put,lA,l0',lS,i64_w,i32_w]
      rfl
     refine take_ (i:=1) (N:=some 42) (v:=?_) (a':=?_) #[true,true,false,false,false] rfl rfl (by kernel_rfl) (fun _ _ _ h=>h) (Or.inl ⟨by rfl,?_⟩) hHeld ?_ ?_
     rotate_left
     ·rintro w' ⟨s0,s1⟩
      go_simp
      with_reducible rfl
     rotate_left
     ·simp only [Act.put,lA,l0',lS,i64_w,i32_w]
      rfl
     refine one_ (i:=2) (N:=some 43) #[true,true,true,false,false] rfl rfl (by kernel_rfl) (by decide) (fun K hK=>?_)
     refine goes_ Try.func42 (by kernel_rfl) rfl #[.agg #[.slice A0_0 l0_0.length c0_0]] (by rfl) rfl rfl (by (try simp only [mA,mC,mN]);first|done|rfl) ?_
     with_reducible refine (laws_toDeal.calls k _ _ l0_0 t393 _ ?side1 ?side2 A72.out).mono ?_
     (case side1=>repeat (first|exact (Kd.C_below HR0_0.out HB.out)|(with_reducible refine Kd.C_alloc ?_ _)|(with_reducible refine Kd.C_drewN ?_ _)|(with_reducible refine Kd.C_drew ?_)))
     (case side2=>exact HC0_0.out)
     rintro e w209 ⟨v394,rfl,ho0,hb⟩
     refine ⟨_,rfl,?_⟩
     have n0_:=aK (Kd.S_elder' (sX HO371.out) (Kd.S_base ho0) hb)
     have n1_:=aK (Kd.R_below (rX HO376.out) hb)
     have n2_:=aK (Kd.S_elder' (sX HO382.out) (Kd.S_base ho0) hb)
     have n3_:=aK (Kd.R_below (rX HO388.out) hb)
     have n4_:=aK (Kd.S_lower (Kd.S_new' (Kd.S_new' (Kd.S_new' (Kd.S_new' ho0 (Kd.S_lt (sX HO371.out))) (Kd.R_lt (rX HO376.out))) (Kd.S_lt (sX HO382.out))) (Kd.R_lt (rX HO388.out))) (below_size (bW HB.out)))
     have n5_:=aK (bB (bX BK364.out) hb)
     have n6_:=aK (bB (bX BK365.out) hb)
     have n7_:=aK (bB (bX BK366.out) hb)
     have n8_:=aK (bB (bX BK383.out) hb)
     have n9_:=aK (bB (bX BK389.out) hb)
     have n10_:=aK (below_step (bW HB.out) hb)
     clear HO371
     clear HO376
     clear HO382
     clear HO388
     clear BK364
     clear BK365
     clear BK366
     clear BK383
     clear BK389
     clear HB
     have HO371:=n0_
     have HO376:=n1_
     have HO382:=n2_
     have HO388:=n3_
     have HO395:=n4_
     have BK364:=n5_
     have BK365:=n6_
     have BK366:=n7_
     have BK383:=n8_
     have BK389:=n9_
     have HB:=n10_
     clear n0_ n1_ n2_ n3_ n4_ n5_ n6_ n7_ n8_ n9_ n10_
     (try clear hb)
     (try clear hb2)
     (try clear hk)
     (try clear hi)
     (try clear ho0)
     obtain ⟨Ao210,co210,eo210⟩:=Kd.S_slice HO395.out
     (first|subst eo210|(injection eo210 with f1_ f2_ f3_;have f4_:=f1_.symm;have f5_:=f3_.symm;clear f1_ f2_ f3_;subst f4_;subst f5_))
     refine hK.out _ _ ⟨(bC BK383.out 0).trans rfl,(bC BK364.out 0).trans rfl⟩ (fun hHeld=>?_)
     clear hK K
     refine norm_ (a':=?_) ?_ ?_
     rotate_left
     ·show Act.put _ (some 43) _ = _
      simp only [Act.put,lA,l0',lS,i64_w,i32_w]
      rfl
     refine one_ (i:=3) (N:=some 44) #[true,true,true,true,false] rfl rfl (by kernel_rfl) (by decide) (fun K hK=>?_)
     refine goes_ Try.func44 (by kernel_rfl) rfl #[.agg #[.slice Ao190 t380.length co190],.agg #[.slice Ao210 t393.length co210]] (by rfl) rfl rfl (by (try simp only [mA,mC,mN]);first|done|rfl) ?_
     with_reducible refine (laws_eqDeal.calls k _ _ t380 _ _ t393 false _ ?side1 ?side2 ?side3 ?side4 A73.out).mono ?_
     (case side1=>repeat (first|exact (Kd.S_reads' HO382.out).2.2|(with_reducible refine Kd.C_alloc ?_ _)|(with_reducible refine Kd.C_drewN ?_ _)|(with_reducible refine Kd.C_drew ?_)))
     (case side2=>exact (Kd.S_reads' HO382.out).2.1)
     (case side3=>repeat (first|exact (Kd.S_reads' HO395.out).2.2|(with_reducible refine Kd.C_alloc ?_ _)|(with_reducible refine Kd.C_drewN ?_ _)|(with_reducible refine Kd.C_drew ?_)))
     (case side4=>exact (Kd.S_reads' HO395.out).2.1)
     rintro e w211 ⟨rfl,hb⟩
     refine ⟨_,rfl,?_⟩
     have n0_:=aK (Kd.S_below (sX HO371.out) hb)
     have n1_:=aK (Kd.R_below (rX HO376.out) hb)
     have n2_:=aK (Kd.S_below (sX HO382.out) hb)
     have n3_:=aK (Kd.R_below (rX HO388.out) hb)
     have n4_:=aK (Kd.S_below (sX HO395.out) hb)
     have n5_:=aK (bB (bX BK364.out) hb)
     have n6_:=aK (bB (bX BK365.out) hb)
     have n7_:=aK (bB (bX BK366.out) hb)
     have n8_:=aK (bB (bX BK383.out) hb)
     have n9_:=aK (bB (bX BK389.out) hb)
     have n10_:=aK (below_step (bW HB.out) hb)
     clear HO371
     clear HO376
     clear HO382
     clear HO388
     clear HO395
     clear BK364
     clear BK365
     clear BK366
     clear BK383
     clear BK389
     clear HB
     have HO371:=n0_
     have HO376:=n1_
     have HO382:=n2_
     have HO388:=n3_
     have HO395:=n4_
     have BK364:=n5_
     have BK365:=n6_
     have BK366:=n7_
     have BK383:=n8_
     have BK389:=n9_
     have HB:=n10_
     clear n0_ n1_ n2_ n3_ n4_ n5_ n6_ n7_ n8_ n9_ n10_
     (try clear hb)
     (try clear hb2)
     (try clear hk)
     (try clear hi)
     refine hK.out _ _ ⟨(bC BK383.out 0).trans rfl,(bC BK364.out 0).trans rfl⟩ (fun hHeld=>?_)
     clear hK K
     refine norm_ (a':=?_) ?_ ?_
     rotate_left
     ·show Act.put _ (some 44) _ = _
      simp only [Act.put,lA,l0',lS,i64_w,i32_w]
      rfl
     refine pure_ (i:=4) (N:=some 45) (v:=?_) (a':=?_) #[true,true,true,true,true] rfl rfl (by kernel_rfl) (fun _ _ _ h=>h) (Or.inl ⟨by rfl,?_⟩) ?_ ?_
     rotate_left
     ·intro w'
      go_simp
      with_reducible rfl
     rotate_left
     ·simp only [Act.put,lA,l0',lS,i64_w,i32_w]
      rfl
     refine done_ (by kernel_rfl) ?_
     try go_wp2
     go_ret
     exact ⟨by first|rfl|(simp [errW_none,errW_some] <;> rfl)|(simp [*,errW_none,errW_some] <;> rfl),bW HB.out⟩

end Go.Proofs.Ytakepkjcmgcepaa.QFnExactIsClaim
