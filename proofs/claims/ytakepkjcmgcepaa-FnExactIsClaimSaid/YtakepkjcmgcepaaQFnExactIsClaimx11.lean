/- The functions that the law FnExactIsClaim reaches, as plain functions, and the walks that show that the machine's calls answer so. Written by a program of this session (wip/myprint.py) on the kit's print. -/
import Derived.Test.YtakepkjcmgcepaaQFnExactIsClaimx0
import Derived.Test.YtakepkjcmgcepaaQFnExactIsClaimx7
import Derived.Test.YtakepkjcmgcepaaQFnExactIsClaimx10
namespace Go.Proofs.Ytakepkjcmgcepaa.QFnExactIsClaim
open Go.RowKit Go.Proofs.YtakepkjcmgcepaaW.PrintWords Go.Proofs.YtakepkjcmgcepaaW.PrintLast Go.Proofs.YtakepkjcmgcepaaW.PrintMore
attribute [local go_sem] max2_int min2_int max_two min_two max_three min_three max_four min_four   -- for this text's walks alone
set_option linter.unusedVariables false
set_option linter.unusedSimpArgs false

/-! ### impl_IsPlay: function 46 -/
def impl_IsPlay.f (k : Nat) (l0_0 : List (List Int)) (a1_0 : Int) (a1_1 : Int) (l1_2 : List Int) : Option (Bool) := (impl_recordOf.f k l0_0 a1_0 a1_1 l1_2).bind fun bt343 => (some bt343.2.2.2)
theorem impl_IsPlay.mono : ∀ a0 a1 a2 a3 k, LeO (impl_IsPlay.f k a0 a1 a2 a3) (impl_IsPlay.f (k + 1) a0 a1 a2 a3) := by
 intro a0 a1 a2 a3 k
 unfold impl_IsPlay.f
 repeat' first
   | (with_reducible exact impl_recordOf.mono _ _ _ _ _)
   | (with_reducible exact LeO.refl _)
   | (with_reducible exact LeO.none _)
   | (with_reducible refine LeO.ite ?_ ?_)
   | (with_reducible refine LeO.bind ?_ (fun _=>?_))
   | exact impl_recordOf.mono _ _ _ _ _
   | exact LeO.none _
   | refine LeO.ite ?_ ?_
   | refine LeO.bind ?_ (fun _=>?_)
set_option maxHeartbeats 8000000 in
set_option maxRecDepth 100000 in
theorem impl_IsPlay.calls (k : Nat) (A0_0 : Option Addr) (c0_0 : Nat) (l0_0 : List (List Int)) (a1_0 : Int) (a1_1 : Int) (A1_2 : Option Addr) (c1_2 : Nat) (l1_2 : List Int) (r : Bool) (w : World) (hr0_0 : Kd.C (Kd.slice 2 (Kd.int .i64)) w A0_0 l0_0.length l0_0) (hc0_0 : l0_0.length ≤ c0_0) (hr1_2 : Kd.C (Kd.int .i64) w A1_2 l1_2.length l1_2) (hc1_2 : l1_2.length ≤ c1_2) (h : impl_IsPlay.f k l0_0 a1_0 a1_1 l1_2 = some r) :
  Calls Try.prog 46 #[.agg #[.slice A0_0 l0_0.length c0_0],.agg #[.int .i64 a1_0,.int .i64 a1_1,.slice A1_2 l1_2.length c1_2]] w fun e w'=>e = .returned (.bool r) ∧ Below w.heap.size w w':=by
 have hu92:=Try.underlying92
 have hfd2 : ∀ (w : World) (a b : Value) (x y : Bool),(Instr.field 92 (.agg #[a,b,.bool x,.bool y]) 2).run Try.prog w = .ok (.bool x) w:=fun _ _ _ _ _=>by kernel_rfl
 have hfd3 : ∀ (w : World) (a b : Value) (x y : Bool),(Instr.field 92 (.agg #[a,b,.bool x,.bool y]) 3).run Try.prog w = .ok (.bool y) w:=fun _ _ _ _ _=>by kernel_rfl
 have hu44:=Try.underlying44
 have hu27:=Try.underlying27
 have HR0_0:=aK hr0_0
 have HC0_0:=aK hc0_0
 clear hr0_0 hc0_0
 have HR1_2:=aK hr1_2
 have HC1_2:=aK hc1_2
 clear hr1_2 hc1_2
 have HB:=aK (Below.refl w.heap.size w)
 have H : ((impl_recordOf.f k l0_0 a1_0 a1_1 l1_2).bind fun bt343=>(some bt343.2.2.2)) = some r:=h
 clear h
 replace H:=Option.bind_eq_some_iff.mp H
 obtain ⟨⟨t343,t346,t349,t350⟩,A30,H⟩:=H
 replace H : (some t350) = some r:=H
 have A3:=aK A30
 clear A30
 obtain rfl:=Option.some.inj H
 go_enter Try.func46,Try.ntmps46
 go_wp2_with (first|((with_reducible refine gate_dst (N:=2) rfl ?_);refine box_event ?hg (N:=2) ?hd (cs:=#[.slice A0_0 l0_0.length c0_0]) (t:=44) ?hr ?_;(case hd=>rfl);(case hg=>rfl);(case hr=>first|(go_simp;done)|(go_simp;rfl));intro gb341 hg w4 hbox hb;have n0_:=aK (below_step (bW HB.out) hb);have n1_:=aK (hbox);have n2_:=aK ((by rw [hg];exact (below_size (bW HB.out)) : w.heap.size ≤ gb341));have n3_:=aK ((by rw [hg];exact (below_size (bW HB.out)) : w.heap.size ≤ gb341));clear HB;have HB:=n0_;have BK341:=n1_;have GW341:=n2_;have GE341:=n3_;clear n0_ n1_ n2_ n3_;clear hb hbox hg)|((with_reducible refine gate_dst (N:=3) rfl ?_);refine box_event ?hg (N:=3) ?hd (cs:=#[.int .i64 a1_0,.int .i64 a1_1,.slice A1_2 l1_2.length c1_2]) (t:=27) ?hr ?_;(case hd=>rfl);(case hg=>rfl);(case hr=>first|(go_simp;done)|(go_simp;rfl));intro gb342 hg w5 hbox hb;have n0_:=aK (bB (bX BK341.out) hb);have n1_:=aK (below_step (bW HB.out) hb);have n2_:=aK (hbox);have n3_:=aK ((by rw [hg];exact (below_size (bW HB.out)) : w.heap.size ≤ gb342));have n4_:=aK ((by rw [hg];exact (below_size (bW HB.out)) : w.heap.size ≤ gb342));have n5_:=aK ((by rw [hg];exact Nat.ne_of_lt (blk_lt (bX BK341.out)) : gb341 ≠ gb342));have n6_:=aK ((by rw [hg];exact Nat.ne_of_gt (blk_lt (bX BK341.out)) : gb342 ≠ gb341));clear BK341;clear HB;have BK341:=n0_;have HB:=n1_;have BK342:=n2_;have GW342:=n3_;have GE342:=n4_;have NB341_342:=n5_;have NB342_341:=n6_;clear n0_ n1_ n2_ n3_ n4_ n5_ n6_;clear hb hbox hg;have hnb6:=NB341_342.out;have hnc6:=NB342_341.out;have hcz7_0 : w5.cell? ⟨gb341,0,none⟩ = some (.slice A0_0 l0_0.length c0_0):=(bC BK341.out 0).trans rfl;have hfz7_0:=blk_frozen BK341.out 0;have hcz8_0 : w5.cell? ⟨gb342,0,none⟩ = some (.int .i64 a1_0):=(bC BK342.out 0).trans rfl;have hcz8_1 : w5.cell? ⟨gb342,1,none⟩ = some (.int .i64 a1_1):=(bC BK342.out 1).trans rfl;have hcz8_2 : w5.cell? ⟨gb342,2,none⟩ = some (.slice A1_2 l1_2.length c1_2):=(bC BK342.out 2).trans rfl;have hfz8_0:=blk_frozen BK342.out 0;have hfz8_1:=blk_frozen BK342.out 1;have hfz8_2:=blk_frozen BK342.out 2)|((with_reducible refine gate_callee (f:=106) rfl ?_);refine goesL_ (some 7) rfl rfl Try.func106 (by kernel_rfl) rfl #[.agg #[.slice A0_0 l0_0.length c0_0],.agg #[.int .i64 a1_0,.int .i64 a1_1,.slice A1_2 l1_2.length c1_2]] rfl (by (try simp only [mA,mC,mN]);first|done|rfl) ?_;(with_reducible refine (impl_recordOf.calls k (fun k_=>k_ < w.heap.size) _ _ l0_0 a1_0 a1_1 (fun k_=>k_ < w.heap.size) _ _ l1_2 t343 t346 t349 t350 _ ?side1 ?side2 A3.out).mono ?_);(case side1=>exact Kd.V_mk HC0_0.out (Kd.F_below (Kd.C_F (Kd.heap_slice 2 (Kd.heap_int .i64)) HR0_0.out) (bW HB.out)));(case side2=>exact Kd.V_mk HC1_2.out (Kd.F_below (Kd.C_F (Kd.heap_int .i64) HR1_2.out) (bW HB.out)));rintro e w9 ⟨v344,v347,rfl,ho0,ho1,hb⟩;refine ⟨_,rfl,?_⟩;have n0_:=aK (Kd.N_lower (Kd.N_mono (ok':=fun k_=>some k_ ≠ (v347 : Value).ownBlock ∧ k_ ≠ gb341 ∧ k_ ≠ gb342) ho0 (fun k_ hk_=>⟨hk_.2,Or.elim hk_.1 (fun hs_=>Or.elim hs_ (fun hs_=>fun e_=>Nat.not_le.2 hs_ (by rw [e_];exact GW341.out)) (fun hs_=>fun e_=>Nat.not_le.2 hs_ (by rw [e_];exact GW341.out))) (fun hn_=>(Kd.freshB (g:=gb341) (o:=.cells #[.slice A0_0 l0_0.length c0_0] 44 (0,0)) (bX BK341.out) k_ hn_)),Or.elim hk_.1 (fun hs_=>Or.elim hs_ (fun hs_=>fun e_=>Nat.not_le.2 hs_ (by rw [e_];exact GW342.out)) (fun hs_=>fun e_=>Nat.not_le.2 hs_ (by rw [e_];exact GW342.out))) (fun hn_=>(Kd.freshB (g:=gb342) (o:=.cells #[.int .i64 a1_0,.int .i64 a1_1,.slice A1_2 l1_2.length c1_2] 27 (0,0)) (bX BK342.out) k_ hn_))⟩)) (below_size (bW HB.out)));have n1_:=aK (Kd.R_lower (Kd.R_mono (ok':=fun k_=>True) ho1 (fun _ hk_=>trivial)) (below_size (bW HB.out)));have n2_:=aK (bB (bX BK341.out) hb);have n3_:=aK (bB (bX BK342.out) hb);have n4_:=aK (below_step (bW HB.out) hb);clear BK341;clear BK342;clear HB;have HO345:=n0_;have HO348:=n1_;have BK341:=n2_;have BK342:=n3_;have HB:=n4_;clear n0_ n1_ n2_ n3_ n4_;(try clear hb);(try clear hb2);(try clear hk);(try clear hi);(try clear ho0);(try clear ho1)))
 go_ret
 exact ⟨by first|rfl|(simp [errW_none,errW_some] <;> rfl)|(simp [*,errW_none,errW_some] <;> rfl),bW HB.out⟩

/-! ### impl_isWhole: function 113 -/
def impl_isWhole.f (k : Nat) (l0_0 : List (List Int)) (a1_0 : Int) (a1_1 : Int) (l1_2 : List Int) : Option (Bool) := if ((l1_2.length : Int) % 4) = 0 then ((impl_IsPlay.f k l0_0 a1_0 a1_1 l1_2).bind fun t353 => (some t353)) else (some false)
theorem impl_isWhole.mono : ∀ a0 a1 a2 a3 k, LeO (impl_isWhole.f k a0 a1 a2 a3) (impl_isWhole.f (k + 1) a0 a1 a2 a3) := by
 intro a0 a1 a2 a3 k
 unfold impl_isWhole.f
 repeat' first
   | (with_reducible exact impl_IsPlay.mono _ _ _ _ _)
   | (with_reducible exact LeO.refl _)
   | (with_reducible exact LeO.none _)
   | (with_reducible refine LeO.ite ?_ ?_)
   | (with_reducible refine LeO.bind ?_ (fun _=>?_))
   | exact impl_IsPlay.mono _ _ _ _ _
   | exact LeO.none _
   | refine LeO.ite ?_ ?_
   | refine LeO.bind ?_ (fun _=>?_)
set_option maxHeartbeats 8000000 in
set_option maxRecDepth 100000 in
theorem impl_isWhole.calls (k : Nat) (A0_0 : Option Addr) (c0_0 : Nat) (l0_0 : List (List Int)) (a1_0 : Int) (a1_1 : Int) (A1_2 : Option Addr) (c1_2 : Nat) (l1_2 : List Int) (r : Bool) (w : World) (hr0_0 : Kd.C (Kd.slice 2 (Kd.int .i64)) w A0_0 l0_0.length l0_0) (hc0_0 : l0_0.length ≤ c0_0) (hr1_2 : Kd.C (Kd.int .i64) w A1_2 l1_2.length l1_2) (hc1_2 : l1_2.length ≤ c1_2) (h : impl_isWhole.f k l0_0 a1_0 a1_1 l1_2 = some r) :
  Calls Try.prog 113 #[.agg #[.slice A0_0 l0_0.length c0_0],.agg #[.int .i64 a1_0,.int .i64 a1_1,.slice A1_2 l1_2.length c1_2]] w fun e w'=>e = .returned (.bool r) ∧ Below w.heap.size w w':=by
 have hu44:=Try.underlying44
 have hu27:=Try.underlying27
 have HR0_0:=aK hr0_0
 have HC0_0:=aK hc0_0
 clear hr0_0 hc0_0
 have HR1_2:=aK hr1_2
 have HC1_2:=aK hc1_2
 clear hr1_2 hc1_2
 have HB:=aK (Below.refl w.heap.size w)
 have H : (if ((l1_2.length : Int) % 4) = 0 then ((impl_IsPlay.f k l0_0 a1_0 a1_1 l1_2).bind fun t353=>(some t353)) else (some false)) = some r:=h
 clear h
 by_cases c3 : ((l1_2.length : Int) % 4) = 0
 ·rw [if_pos c3] at H
  have c3b0 : (((l1_2.length : Int) % 4) == 0) = true:=beq_iff_eq.mpr c3
  have c3b1 : (((l1_2.length : Int) % 4) != 0) = false:=bne_eq_false_iff_eq.mpr c3
  clear c3
  replace H:=Option.bind_eq_some_iff.mp H
  obtain ⟨t353,A40,H⟩:=H
  replace H : (some t353) = some r:=H
  have A4:=aK A40
  clear A40
  obtain rfl:=Option.some.inj H
  go_enter Try.func113,Try.ntmps113
  go_wp2_with (first|((with_reducible refine gate_dst (N:=2) rfl ?_);refine box_event ?hg (N:=2) ?hd (cs:=#[.slice A0_0 l0_0.length c0_0]) (t:=44) ?hr ?_;(case hd=>rfl);(case hg=>rfl);(case hr=>first|(go_simp;done)|(go_simp;rfl));intro gb351 hg w5 hbox hb;have n0_:=aK (below_step (bW HB.out) hb);have n1_:=aK (hbox);have n2_:=aK ((by rw [hg];exact (below_size (bW HB.out)) : w.heap.size ≤ gb351));have n3_:=aK ((by rw [hg];exact (below_size (bW HB.out)) : w.heap.size ≤ gb351));clear HB;have HB:=n0_;have BK351:=n1_;have GW351:=n2_;have GE351:=n3_;clear n0_ n1_ n2_ n3_;clear hb hbox hg)|((with_reducible refine gate_dst (N:=3) rfl ?_);refine box_event ?hg (N:=3) ?hd (cs:=#[.int .i64 a1_0,.int .i64 a1_1,.slice A1_2 l1_2.length c1_2]) (t:=27) ?hr ?_;(case hd=>rfl);(case hg=>rfl);(case hr=>first|(go_simp;done)|(go_simp;rfl));intro gb352 hg w6 hbox hb;have n0_:=aK (bB (bX BK351.out) hb);have n1_:=aK (below_step (bW HB.out) hb);have n2_:=aK (hbox);have n3_:=aK ((by rw [hg];exact (below_size (bW HB.out)) : w.heap.size ≤ gb352));have n4_:=aK ((by rw [hg];exact (below_size (bW HB.out)) : w.heap.size ≤ gb352));have n5_:=aK ((by rw [hg];exact Nat.ne_of_lt (blk_lt (bX BK351.out)) : gb351 ≠ gb352));have n6_:=aK ((by rw [hg];exact Nat.ne_of_gt (blk_lt (bX BK351.out)) : gb352 ≠ gb351));clear BK351;clear HB;have BK351:=n0_;have HB:=n1_;have BK352:=n2_;have GW352:=n3_;have GE352:=n4_;have NB351_352:=n5_;have NB352_351:=n6_;clear n0_ n1_ n2_ n3_ n4_ n5_ n6_;clear hb hbox hg;have hnb7:=NB352_351.out;have hnc7:=NB351_352.out;have hcz8_0 : w6.cell? ⟨gb352,0,none⟩ = some (.int .i64 a1_0):=(bC BK352.out 0).trans rfl;have hcz8_1 : w6.cell? ⟨gb352,1,none⟩ = some (.int .i64 a1_1):=(bC BK352.out 1).trans rfl;have hcz8_2 : w6.cell? ⟨gb352,2,none⟩ = some (.slice A1_2 l1_2.length c1_2):=(bC BK352.out 2).trans rfl;have hfz8_0:=blk_frozen BK352.out 0;have hfz8_1:=blk_frozen BK352.out 1;have hfz8_2:=blk_frozen BK352.out 2;have hcz9_0 : w6.cell? ⟨gb351,0,none⟩ = some (.slice A0_0 l0_0.length c0_0):=(bC BK351.out 0).trans rfl;have hfz9_0:=blk_frozen BK351.out 0)|(go_at_call 46;(with_reducible refine (impl_IsPlay.calls k _ _ l0_0 a1_0 a1_1 _ _ l1_2 t353 _ ?side1 ?side2 ?side3 ?side4 A4.out).mono ?_);(case side1=>repeat (first|exact (Kd.C_below HR0_0.out HB.out)|(with_reducible refine Kd.C_alloc ?_ _)|(with_reducible refine Kd.C_drewN ?_ _)|(with_reducible refine Kd.C_drew ?_)));(case side2=>exact HC0_0.out);(case side3=>repeat (first|exact (Kd.C_below HR1_2.out HB.out)|(with_reducible refine Kd.C_alloc ?_ _)|(with_reducible refine Kd.C_drewN ?_ _)|(with_reducible refine Kd.C_drew ?_)));(case side4=>exact HC1_2.out);rintro e w10 ⟨rfl,hb⟩;have n0_:=aK (bB (bX BK351.out) hb);have n1_:=aK (bB (bX BK352.out) hb);have n2_:=aK (below_step (bW HB.out) hb);clear BK351;clear BK352;clear HB;have BK351:=n0_;have BK352:=n1_;have HB:=n2_;clear n0_ n1_ n2_;(try clear hb);(try clear hb2);(try clear hk);(try clear hi)))
  go_ret
  exact ⟨by first|rfl|(simp [errW_none,errW_some] <;> rfl)|(simp [*,errW_none,errW_some] <;> rfl),bW HB.out⟩
 ·rw [if_neg c3] at H
  have c3b0 : (((l1_2.length : Int) % 4) == 0) = false:=beq_eq_false_iff_ne.mpr c3
  have c3b1 : (((l1_2.length : Int) % 4) != 0) = true:=bne_iff_ne.mpr c3
  obtain rfl:=Option.some.inj H
  go_enter Try.func113,Try.ntmps113
  go_wp2_with (first|((with_reducible refine gate_dst (N:=2) rfl ?_);refine box_event ?hg (N:=2) ?hd (cs:=#[.slice A0_0 l0_0.length c0_0]) (t:=44) ?hr ?_;(case hd=>rfl);(case hg=>rfl);(case hr=>first|(go_simp;done)|(go_simp;rfl));intro gb351 hg w11 hbox hb;have n0_:=aK (below_step (bW HB.out) hb);have n1_:=aK (hbox);have n2_:=aK ((by rw [hg];exact (below_size (bW HB.out)) : w.heap.size ≤ gb351));have n3_:=aK ((by rw [hg];exact (below_size (bW HB.out)) : w.heap.size ≤ gb351));clear HB;have HB:=n0_;have BK351:=n1_;have GW351:=n2_;have GE351:=n3_;clear n0_ n1_ n2_ n3_;clear hb hbox hg)|((with_reducible refine gate_dst (N:=3) rfl ?_);refine box_event ?hg (N:=3) ?hd (cs:=#[.int .i64 a1_0,.int .i64 a1_1,.slice A1_2 l1_2.length c1_2]) (t:=27) ?hr ?_;(case hd=>rfl);(case hg=>rfl);(case hr=>first|(go_simp;done)|(go_simp;rfl));intro gb352 hg w12 hbox hb;have n0_:=aK (bB (bX BK351.out) hb);have n1_:=aK (below_step (bW HB.out) hb);have n2_:=aK (hbox);have n3_:=aK ((by rw [hg];exact (below_size (bW HB.out)) : w.heap.size ≤ gb352));have n4_:=aK ((by rw [hg];exact (below_size (bW HB.out)) : w.heap.size ≤ gb352));have n5_:=aK ((by rw [hg];exact Nat.ne_of_lt (blk_lt (bX BK351.out)) : gb351 ≠ gb352));have n6_:=aK ((by rw [hg];exact Nat.ne_of_gt (blk_lt (bX BK351.out)) : gb352 ≠ gb351));clear BK351;clear HB;have BK351:=n0_;have HB:=n1_;have BK352:=n2_;have GW352:=n3_;have GE352:=n4_;have NB351_352:=n5_;have NB352_351:=n6_;clear n0_ n1_ n2_ n3_ n4_ n5_ n6_;clear hb hbox hg;have hnb13:=NB352_351.out;have hnc13:=NB351_352.out;have hcz14_0 : w12.cell? ⟨gb352,0,none⟩ = some (.int .i64 a1_0):=(bC BK352.out 0).trans rfl;have hcz14_1 : w12.cell? ⟨gb352,1,none⟩ = some (.int .i64 a1_1):=(bC BK352.out 1).trans rfl;have hcz14_2 : w12.cell? ⟨gb352,2,none⟩ = some (.slice A1_2 l1_2.length c1_2):=(bC BK352.out 2).trans rfl;have hfz14_0:=blk_frozen BK352.out 0;have hfz14_1:=blk_frozen BK352.out 1;have hfz14_2:=blk_frozen BK352.out 2))
  go_ret
  exact ⟨by first|rfl|(simp [errW_none,errW_some] <;> rfl)|(simp [*,errW_none,errW_some] <;> rfl),bW HB.out⟩

/-! ### impl_remaining: function 114 -/
def impl_remaining.f (l0_0 : List (List Int)) (a1_0 : Int) (a1_1 : Int) (l1_2 : List Int) : Option (Int) := if 0 < (l0_0.length : Int) then (some (wrap64 (((rd_L1 l0_0 0).length : Int) - (wrap64 ((l1_2.length : Int) / 4))))) else (none)
set_option maxHeartbeats 8000000 in
set_option maxRecDepth 100000 in
theorem impl_remaining.calls (A0_0 : Option Addr) (c0_0 : Nat) (l0_0 : List (List Int)) (a1_0 : Int) (a1_1 : Int) (A1_2 : Option Addr) (c1_2 : Nat) (l1_2 : List Int) (r : Int) (w : World) (hr0_0 : Kd.C (Kd.slice 2 (Kd.int .i64)) w A0_0 l0_0.length l0_0) (hc0_0 : l0_0.length ≤ c0_0) (hr1_2 : Kd.C (Kd.int .i64) w A1_2 l1_2.length l1_2) (hc1_2 : l1_2.length ≤ c1_2) (h : impl_remaining.f l0_0 a1_0 a1_1 l1_2 = some r) :
  Calls Try.prog 114 #[.agg #[.slice A0_0 l0_0.length c0_0],.agg #[.int .i64 a1_0,.int .i64 a1_1,.slice A1_2 l1_2.length c1_2]] w fun e w'=>e = .returned (.int .i64 r) ∧ Below w.heap.size w w':=by
 have hu44:=Try.underlying44
 have hu27:=Try.underlying27
 have HR0_0:=aK hr0_0
 have HC0_0:=aK hc0_0
 clear hr0_0 hc0_0
 have HR1_2:=aK hr1_2
 have HC1_2:=aK hc1_2
 clear hr1_2 hc1_2
 have HB:=aK (Below.refl w.heap.size w)
 have H : (if 0 < (l0_0.length : Int) then (some (wrap64 (((rd_L1 l0_0 0).length : Int) - (wrap64 ((l1_2.length : Int) / 4))))) else (none)) = some r:=h
 clear h
 by_cases c3 : 0 < (l0_0.length : Int)
 ·rw [if_pos c3] at H
  have c3b0 : decide (0 < (l0_0.length : Int)) = true:=decide_eq_true c3
  have c3b1 : decide (0 < l0_0.length) = true:=decide_eq_true (by omega)
  clear c3
  obtain rfl:=Option.some.inj H
  go_enter Try.func114,Try.ntmps114
  go_wp2_with (first|((with_reducible refine gate_dst (N:=2) rfl ?_);refine box_event ?hg (N:=2) ?hd (cs:=#[.slice A0_0 l0_0.length c0_0]) (t:=44) ?hr ?_;(case hd=>rfl);(case hg=>rfl);(case hr=>first|(go_simp;done)|(go_simp;rfl));intro gb354 hg w4 hbox hb;have n0_:=aK (below_step (bW HB.out) hb);have n1_:=aK (hbox);have n2_:=aK ((by rw [hg];exact (below_size (bW HB.out)) : w.heap.size ≤ gb354));have n3_:=aK ((by rw [hg];exact (below_size (bW HB.out)) : w.heap.size ≤ gb354));clear HB;have HB:=n0_;have BK354:=n1_;have GW354:=n2_;have GE354:=n3_;clear n0_ n1_ n2_ n3_;clear hb hbox hg)|((with_reducible refine gate_dst (N:=3) rfl ?_);refine box_event ?hg (N:=3) ?hd (cs:=#[.int .i64 a1_0,.int .i64 a1_1,.slice A1_2 l1_2.length c1_2]) (t:=27) ?hr ?_;(case hd=>rfl);(case hg=>rfl);(case hr=>first|(go_simp;done)|(go_simp;rfl));intro gb355 hg w5 hbox hb;have n0_:=aK (bB (bX BK354.out) hb);have n1_:=aK (below_step (bW HB.out) hb);have n2_:=aK (hbox);have n3_:=aK ((by rw [hg];exact (below_size (bW HB.out)) : w.heap.size ≤ gb355));have n4_:=aK ((by rw [hg];exact (below_size (bW HB.out)) : w.heap.size ≤ gb355));have n5_:=aK ((by rw [hg];exact Nat.ne_of_lt (blk_lt (bX BK354.out)) : gb354 ≠ gb355));have n6_:=aK ((by rw [hg];exact Nat.ne_of_gt (blk_lt (bX BK354.out)) : gb355 ≠ gb354));clear BK354;clear HB;have BK354:=n0_;have HB:=n1_;have BK355:=n2_;have GW355:=n3_;have GE355:=n4_;have NB354_355:=n5_;have NB355_354:=n6_;clear n0_ n1_ n2_ n3_ n4_ n5_ n6_;clear hb hbox hg;have hnb6:=NB354_355.out;have hnc6:=NB355_354.out;have hcz7_0 : w5.cell? ⟨gb354,0,none⟩ = some (.slice A0_0 l0_0.length c0_0):=(bC BK354.out 0).trans rfl;have hfz7_0:=blk_frozen BK354.out 0;have p356 : 0 ≤ (0 : Int):=(by omega);have q356 : 0 < (l0_0.length : Int):=of_decide_eq_true (by first|(with_reducible assumption)|assumption);obtain ⟨ad356,A356_0,c356_0,e356,hx356_0,hl356_0,hi356_0⟩:=at_L1 HR0_0.out 0 p356 q356;cases e356;have qi356 : (0 < l0_0.length) = True:=eq_true (by omega);(try rw [show ((0 : Int)).toNat = 0 from rfl] at hx356_0);(try rw [Addr.add_zero'] at hx356_0);replace hx356_0:=(HB.out.cell (World.block_lt_of_cell? w _ hx356_0)).trans hx356_0;have HR356_0:=aK hi356_0;have HC356_0:=aK hl356_0;clear hi356_0 hl356_0;replace p356:=eq_true p356;replace q356:=eq_true q356;have hcz8_0 : w5.cell? ⟨gb355,0,none⟩ = some (.int .i64 a1_0):=(bC BK355.out 0).trans rfl;have hcz8_1 : w5.cell? ⟨gb355,1,none⟩ = some (.int .i64 a1_1):=(bC BK355.out 1).trans rfl;have hcz8_2 : w5.cell? ⟨gb355,2,none⟩ = some (.slice A1_2 l1_2.length c1_2):=(bC BK355.out 2).trans rfl;have hfz8_0:=blk_frozen BK355.out 0;have hfz8_1:=blk_frozen BK355.out 1;have hfz8_2:=blk_frozen BK355.out 2))
  repeat (go_quiet (first|((with_reducible refine gate_dst (N:=2) rfl ?_);refine box_event ?hg (N:=2) ?hd (cs:=#[.slice A0_0 l0_0.length c0_0]) (t:=44) ?hr ?_;(case hd=>rfl);(case hg=>rfl);(case hr=>first|(go_simp;done)|(go_simp;rfl));intro gb354 hg w4 hbox hb;have n0_:=aK (below_step (bW HB.out) hb);have n1_:=aK (hbox);have n2_:=aK ((by rw [hg];exact (below_size (bW HB.out)) : w.heap.size ≤ gb354));have n3_:=aK ((by rw [hg];exact (below_size (bW HB.out)) : w.heap.size ≤ gb354));clear HB;have HB:=n0_;have BK354:=n1_;have GW354:=n2_;have GE354:=n3_;clear n0_ n1_ n2_ n3_;clear hb hbox hg)|((with_reducible refine gate_dst (N:=3) rfl ?_);refine box_event ?hg (N:=3) ?hd (cs:=#[.int .i64 a1_0,.int .i64 a1_1,.slice A1_2 l1_2.length c1_2]) (t:=27) ?hr ?_;(case hd=>rfl);(case hg=>rfl);(case hr=>first|(go_simp;done)|(go_simp;rfl));intro gb355 hg w5 hbox hb;have n0_:=aK (bB (bX BK354.out) hb);have n1_:=aK (below_step (bW HB.out) hb);have n2_:=aK (hbox);have n3_:=aK ((by rw [hg];exact (below_size (bW HB.out)) : w.heap.size ≤ gb355));have n4_:=aK ((by rw [hg];exact (below_size (bW HB.out)) : w.heap.size ≤ gb355));have n5_:=aK ((by rw [hg];exact Nat.ne_of_lt (blk_lt (bX BK354.out)) : gb354 ≠ gb355));have n6_:=aK ((by rw [hg];exact Nat.ne_of_gt (blk_lt (bX BK354.out)) : gb355 ≠ gb354));clear BK354;clear HB;have BK354:=n0_;have HB:=n1_;have BK355:=n2_;have GW355:=n3_;have GE355:=n4_;have NB354_355:=n5_;have NB355_354:=n6_;clear n0_ n1_ n2_ n3_ n4_ n5_ n6_;clear hb hbox hg;have hnb6:=NB354_355.out;have hnc6:=NB355_354.out;have hcz7_0 : w5.cell? ⟨gb354,0,none⟩ = some (.slice A0_0 l0_0.length c0_0):=(bC BK354.out 0).trans rfl;have hfz7_0:=blk_frozen BK354.out 0;have p356 : 0 ≤ (0 : Int):=(by omega);have q356 : 0 < (l0_0.length : Int):=of_decide_eq_true (by first|(with_reducible assumption)|assumption);obtain ⟨ad356,A356_0,c356_0,e356,hx356_0,hl356_0,hi356_0⟩:=at_L1 HR0_0.out 0 p356 q356;cases e356;have qi356 : (0 < l0_0.length) = True:=eq_true (by omega);(try rw [show ((0 : Int)).toNat = 0 from rfl] at hx356_0);(try rw [Addr.add_zero'] at hx356_0);replace hx356_0:=(HB.out.cell (World.block_lt_of_cell? w _ hx356_0)).trans hx356_0;have HR356_0:=aK hi356_0;have HC356_0:=aK hl356_0;clear hi356_0 hl356_0;replace p356:=eq_true p356;replace q356:=eq_true q356;have hcz8_0 : w5.cell? ⟨gb355,0,none⟩ = some (.int .i64 a1_0):=(bC BK355.out 0).trans rfl;have hcz8_1 : w5.cell? ⟨gb355,1,none⟩ = some (.int .i64 a1_1):=(bC BK355.out 1).trans rfl;have hcz8_2 : w5.cell? ⟨gb355,2,none⟩ = some (.slice A1_2 l1_2.length c1_2):=(bC BK355.out 2).trans rfl;have hfz8_0:=blk_frozen BK355.out 0;have hfz8_1:=blk_frozen BK355.out 1;have hfz8_2:=blk_frozen BK355.out 2));try go_wp2_with (first|((with_reducible refine gate_dst (N:=2) rfl ?_);refine box_event ?hg (N:=2) ?hd (cs:=#[.slice A0_0 l0_0.length c0_0]) (t:=44) ?hr ?_;(case hd=>rfl);(case hg=>rfl);(case hr=>first|(go_simp;done)|(go_simp;rfl));intro gb354 hg w4 hbox hb;have n0_:=aK (below_step (bW HB.out) hb);have n1_:=aK (hbox);have n2_:=aK ((by rw [hg];exact (below_size (bW HB.out)) : w.heap.size ≤ gb354));have n3_:=aK ((by rw [hg];exact (below_size (bW HB.out)) : w.heap.size ≤ gb354));clear HB;have HB:=n0_;have BK354:=n1_;have GW354:=n2_;have GE354:=n3_;clear n0_ n1_ n2_ n3_;clear hb hbox hg)|((with_reducible refine gate_dst (N:=3) rfl ?_);refine box_event ?hg (N:=3) ?hd (cs:=#[.int .i64 a1_0,.int .i64 a1_1,.slice A1_2 l1_2.length c1_2]) (t:=27) ?hr ?_;(case hd=>rfl);(case hg=>rfl);(case hr=>first|(go_simp;done)|(go_simp;rfl));intro gb355 hg w5 hbox hb;have n0_:=aK (bB (bX BK354.out) hb);have n1_:=aK (below_step (bW HB.out) hb);have n2_:=aK (hbox);have n3_:=aK ((by rw [hg];exact (below_size (bW HB.out)) : w.heap.size ≤ gb355));have n4_:=aK ((by rw [hg];exact (below_size (bW HB.out)) : w.heap.size ≤ gb355));have n5_:=aK ((by rw [hg];exact Nat.ne_of_lt (blk_lt (bX BK354.out)) : gb354 ≠ gb355));have n6_:=aK ((by rw [hg];exact Nat.ne_of_gt (blk_lt (bX BK354.out)) : gb355 ≠ gb354));clear BK354;clear HB;have BK354:=n0_;have HB:=n1_;have BK355:=n2_;have GW355:=n3_;have GE355:=n4_;have NB354_355:=n5_;have NB355_354:=n6_;clear n0_ n1_ n2_ n3_ n4_ n5_ n6_;clear hb hbox hg;have hnb6:=NB354_355.out;have hnc6:=NB355_354.out;have hcz7_0 : w5.cell? ⟨gb354,0,none⟩ = some (.slice A0_0 l0_0.length c0_0):=(bC BK354.out 0).trans rfl;have hfz7_0:=blk_frozen BK354.out 0;have p356 : 0 ≤ (0 : Int):=(by omega);have q356 : 0 < (l0_0.length : Int):=of_decide_eq_true (by first|(with_reducible assumption)|assumption);obtain ⟨ad356,A356_0,c356_0,e356,hx356_0,hl356_0,hi356_0⟩:=at_L1 HR0_0.out 0 p356 q356;cases e356;have qi356 : (0 < l0_0.length) = True:=eq_true (by omega);(try rw [show ((0 : Int)).toNat = 0 from rfl] at hx356_0);(try rw [Addr.add_zero'] at hx356_0);replace hx356_0:=(HB.out.cell (World.block_lt_of_cell? w _ hx356_0)).trans hx356_0;have HR356_0:=aK hi356_0;have HC356_0:=aK hl356_0;clear hi356_0 hl356_0;replace p356:=eq_true p356;replace q356:=eq_true q356;have hcz8_0 : w5.cell? ⟨gb355,0,none⟩ = some (.int .i64 a1_0):=(bC BK355.out 0).trans rfl;have hcz8_1 : w5.cell? ⟨gb355,1,none⟩ = some (.int .i64 a1_1):=(bC BK355.out 1).trans rfl;have hcz8_2 : w5.cell? ⟨gb355,2,none⟩ = some (.slice A1_2 l1_2.length c1_2):=(bC BK355.out 2).trans rfl;have hfz8_0:=blk_frozen BK355.out 0;have hfz8_1:=blk_frozen BK355.out 1;have hfz8_2:=blk_frozen BK355.out 2)))
  go_ret
  exact ⟨by first|rfl|(simp [errW_none,errW_some] <;> rfl)|(simp [*,errW_none,errW_some] <;> rfl),bW HB.out⟩
 ·rw [if_neg c3] at H
  exact absurd H (by simp)

/-! ### impl_IsClaim: function 51 -/
def impl_IsClaim.f (k : Nat) (l0_0 : List (List Int)) (a1_0 : Int) (a1_1 : Int) (l1_2 : List Int) (a2_0 : Int) (a2_1 : Int) : Option (Bool) := (impl_isWhole.f k l0_0 a1_0 a1_1 l1_2).bind fun t360 => (if t360 = true then ((impl_isSeat.f a2_0).bind fun t361 => (if t361 = true then ((impl_remaining.f l0_0 a1_0 a1_1 l1_2).bind fun t362 => ((impl_within.f a2_1 0 t362).bind fun t363 => (some t363))) else (some false))) else (some false))
theorem impl_IsClaim.mono : ∀ a0 a1 a2 a3 a4 a5 k, LeO (impl_IsClaim.f k a0 a1 a2 a3 a4 a5) (impl_IsClaim.f (k + 1) a0 a1 a2 a3 a4 a5) := by
 intro a0 a1 a2 a3 a4 a5 k
 unfold impl_IsClaim.f
 repeat' first
   | (with_reducible exact impl_isWhole.mono _ _ _ _ _)
   | (with_reducible exact LeO.refl _)
   | (with_reducible exact LeO.none _)
   | (with_reducible refine LeO.ite ?_ ?_)
   | (with_reducible refine LeO.bind ?_ (fun _=>?_))
   | exact impl_isWhole.mono _ _ _ _ _
   | exact LeO.none _
   | refine LeO.ite ?_ ?_
   | refine LeO.bind ?_ (fun _=>?_)
def impl_IsClaim.T1 : Bool × List (List Nat × List Nat) := (true, [([], []), ([], []), ([0, 1], [0, 1]), ([2, 2], [2]), ([3], [3]), ([4, 3], [3, 4]), ([5, 3, 3], [3, 5]), ([3, 6], [3, 6]), ([7, 6], [7]), ([8], [8]), ([9, 8], [8, 9]), ([8], [8]), ([8], [8]), ([11, 12, 8, 8], [8, 11, 12]), ([10, 13, 13, 8], [8, 10, 13]), ([8, 14], [8, 14]), ([15, 14, 0, 1, 2, 3, 4, 5, 6, 7, 8, 9, 10, 11, 12, 13, 14, 15], [15])])
def impl_IsClaim.B1 : List Nat := [0, 0, 3, 7, 15, 31, 63, 127, 255, 511, 1023, 511, 511, 6655, 16383, 32767, 65535]
theorem impl_IsClaim.tab1 : rtab .any (opsOf Try.f51 1) = impl_IsClaim.T1 := by kernel_rfl
theorem impl_IsClaim.bits1 : waitsOk impl_IsClaim.T1.2 impl_IsClaim.B1 = true := by kernel_rfl
set_option maxHeartbeats 8000000 in
set_option maxRecDepth 100000 in
theorem impl_IsClaim.calls (k : Nat) (A0_0 : Option Addr) (c0_0 : Nat) (l0_0 : List (List Int)) (a1_0 : Int) (a1_1 : Int) (A1_2 : Option Addr) (c1_2 : Nat) (l1_2 : List Int) (a2_0 : Int) (a2_1 : Int) (r : Bool) (w : World) (hr0_0 : Kd.C (Kd.slice 2 (Kd.int .i64)) w A0_0 l0_0.length l0_0) (hc0_0 : l0_0.length ≤ c0_0) (hr1_2 : Kd.C (Kd.int .i64) w A1_2 l1_2.length l1_2) (hc1_2 : l1_2.length ≤ c1_2) (h : impl_IsClaim.f k l0_0 a1_0 a1_1 l1_2 a2_0 a2_1 = some r) :
  Calls Try.prog 51 #[.agg #[.slice A0_0 l0_0.length c0_0],.agg #[.int .i64 a1_0,.int .i64 a1_1,.slice A1_2 l1_2.length c1_2],.agg #[.int .i64 a2_0,.int .i64 a2_1]] w fun e w'=>e = .returned (.bool r) ∧ Below w.heap.size w w':=by
 have hu44:=Try.underlying44
 have hu27:=Try.underlying27
 have hu52:=Try.underlying52
 have HR0_0:=aK hr0_0
 have HC0_0:=aK hc0_0
 clear hr0_0 hc0_0
 have HR1_2:=aK hr1_2
 have HC1_2:=aK hc1_2
 clear hr1_2 hc1_2
 have HB:=aK (Below.refl w.heap.size w)
 have H : ((impl_isWhole.f k l0_0 a1_0 a1_1 l1_2).bind fun t360=>(if t360 = true then ((impl_isSeat.f a2_0).bind fun t361=>(if t361 = true then ((impl_remaining.f l0_0 a1_0 a1_1 l1_2).bind fun t362=>((impl_within.f a2_1 0 t362).bind fun t363=>(some t363))) else (some false))) else (some false))) = some r:=h
 clear h
 replace H:=Option.bind_eq_some_iff.mp H
 obtain ⟨t360,A40,H⟩:=H
 replace H : (if t360 = true then ((impl_isSeat.f a2_0).bind fun t361=>(if t361 = true then ((impl_remaining.f l0_0 a1_0 a1_1 l1_2).bind fun t362=>((impl_within.f a2_1 0 t362).bind fun t363=>(some t363))) else (some false))) else (some false)) = some r:=H
 have A4:=aK A40
 clear A40
 by_cases c5 : t360 = true
 ·subst c5
  have H1 : ((impl_isSeat.f a2_0).bind fun t361=>(if t361 = true then ((impl_remaining.f l0_0 a1_0 a1_1 l1_2).bind fun t362=>((impl_within.f a2_1 0 t362).bind fun t363=>(some t363))) else (some false))) = some r:=by rw [if_pos rfl] at H;exact H
  clear H
  have H:=H1
  clear H1
  replace H:=Option.bind_eq_some_iff.mp H
  obtain ⟨t361,A60,H⟩:=H
  replace H : (if t361 = true then ((impl_remaining.f l0_0 a1_0 a1_1 l1_2).bind fun t362=>((impl_within.f a2_1 0 t362).bind fun t363=>(some t363))) else (some false)) = some r:=H
  have A6:=aK A60
  clear A60
  by_cases c7 : t361 = true
  ·subst c7
   have H1 : ((impl_remaining.f l0_0 a1_0 a1_1 l1_2).bind fun t362=>((impl_within.f a2_1 0 t362).bind fun t363=>(some t363))) = some r:=by rw [if_pos rfl] at H;exact H
   clear H
   have H:=H1
   clear H1
   replace H:=Option.bind_eq_some_iff.mp H
   obtain ⟨t362,A80,H⟩:=H
   replace H : ((impl_within.f a2_1 0 t362).bind fun t363=>(some t363)) = some r:=H
   have A8:=aK A80
   clear A80
   replace H:=Option.bind_eq_some_iff.mp H
   obtain ⟨t363,A90,H⟩:=H
   replace H : (some t363) = some r:=H
   have A9:=aK A90
   clear A90
   obtain rfl:=Option.some.inj H
   go_enter Try.func51,Try.ntmps51
   try go_wp2_with (first|((with_reducible refine gate_dst (N:=3) rfl ?_);refine box_event ?hg (N:=3) ?hd (cs:=#[.slice A0_0 l0_0.length c0_0]) (t:=44) ?hr ?_;(case hd=>rfl);(case hg=>rfl);(case hr=>first|(go_simp;done)|(go_simp;rfl));intro gb357 hg w10 hbox hb;have n0_:=aK (below_step (bW HB.out) hb);have n1_:=aK (hbox);have n2_:=aK ((by rw [hg];exact (below_size (bW HB.out)) : w.heap.size ≤ gb357));have n3_:=aK ((by rw [hg];exact (below_size (bW HB.out)) : w.heap.size ≤ gb357));clear HB;have HB:=n0_;have BK357:=n1_;have GW357:=n2_;have GE357:=n3_;clear n0_ n1_ n2_ n3_;clear hb hbox hg)|((with_reducible refine gate_dst (N:=4) rfl ?_);refine box_event ?hg (N:=4) ?hd (cs:=#[.int .i64 a1_0,.int .i64 a1_1,.slice A1_2 l1_2.length c1_2]) (t:=27) ?hr ?_;(case hd=>rfl);(case hg=>rfl);(case hr=>first|(go_simp;done)|(go_simp;rfl));intro gb358 hg w11 hbox hb;have n0_:=aK (bB (bX BK357.out) hb);have n1_:=aK (below_step (bW HB.out) hb);have n2_:=aK (hbox);have n3_:=aK ((by rw [hg];exact (below_size (bW HB.out)) : w.heap.size ≤ gb358));have n4_:=aK ((by rw [hg];exact (below_size (bW HB.out)) : w.heap.size ≤ gb358));have n5_:=aK ((by rw [hg];exact Nat.ne_of_lt (blk_lt (bX BK357.out)) : gb357 ≠ gb358));have n6_:=aK ((by rw [hg];exact Nat.ne_of_gt (blk_lt (bX BK357.out)) : gb358 ≠ gb357));clear BK357;clear HB;have BK357:=n0_;have HB:=n1_;have BK358:=n2_;have GW358:=n3_;have GE358:=n4_;have NB357_358:=n5_;have NB358_357:=n6_;clear n0_ n1_ n2_ n3_ n4_ n5_ n6_;clear hb hbox hg)|((with_reducible refine gate_dst (N:=5) rfl ?_);refine box_event ?hg (N:=5) ?hd (cs:=#[.int .i64 a2_0,.int .i64 a2_1]) (t:=52) ?hr ?_;(case hd=>rfl);(case hg=>rfl);(case hr=>first|(go_simp;done)|(go_simp;rfl));intro gb359 hg w12 hbox hb;have n0_:=aK (bB (bX BK357.out) hb);have n1_:=aK (bB (bX BK358.out) hb);have n2_:=aK (below_step (bW HB.out) hb);have n3_:=aK (hbox);have n4_:=aK ((by rw [hg];exact (below_size (bW HB.out)) : w.heap.size ≤ gb359));have n5_:=aK ((by rw [hg];exact (below_size (bW HB.out)) : w.heap.size ≤ gb359));have n6_:=aK ((by rw [hg];exact Nat.ne_of_lt (blk_lt (bX BK357.out)) : gb357 ≠ gb359));have n7_:=aK ((by rw [hg];exact Nat.ne_of_gt (blk_lt (bX BK357.out)) : gb359 ≠ gb357));have n8_:=aK ((by rw [hg];exact Nat.ne_of_lt (blk_lt (bX BK358.out)) : gb358 ≠ gb359));have n9_:=aK ((by rw [hg];exact Nat.ne_of_gt (blk_lt (bX BK358.out)) : gb359 ≠ gb358));clear BK357;clear BK358;clear HB;have BK357:=n0_;have BK358:=n1_;have HB:=n2_;have BK359:=n3_;have GW359:=n4_;have GE359:=n5_;have NB357_359:=n6_;have NB359_357:=n7_;have NB358_359:=n8_;have NB359_358:=n9_;clear n0_ n1_ n2_ n3_ n4_ n5_ n6_ n7_ n8_ n9_;clear hb hbox hg))
   have n0_:=aK (bD BK357.out)
   have n1_:=aK (bD BK358.out)
   have n2_:=aK (bD BK359.out)
   have n3_:=aK (b1 HB.out)
   clear BK357
   clear BK358
   clear BK359
   clear HB
   have BK357:=n0_
   have BK358:=n1_
   have BK359:=n2_
   have HB:=n3_
   clear n0_ n1_ n2_ n3_
   refine start_ (n:=17) (S:=fun w'=>w'.cell? ⟨gb357,0,none⟩ = some (.slice A0_0 l0_0.length c0_0) ∧ w'.cell? ⟨gb358,0,none⟩ = some (.int .i64 a1_0) ∧ w'.cell? ⟨gb358,1,none⟩ = some (.int .i64 a1_1) ∧ w'.cell? ⟨gb358,2,none⟩ = some (.slice A1_2 l1_2.length c1_2) ∧ w'.cell? ⟨gb359,0,none⟩ = some (.int .i64 a2_0) ∧ w'.cell? ⟨gb359,1,none⟩ = some (.int .i64 a2_1)) (ds:=[]) #[false,false,false,false,false,false,false,false,false,false,false,false,false,false,false,false,false] (by kernel_rfl) rfl rfl ⟨(bC BK357.out 0).trans rfl,(bC BK358.out 0).trans rfl,(bC BK358.out 1).trans rfl,(bC BK358.out 2).trans rfl,(bC BK359.out 0).trans rfl,(bC BK359.out 1).trans rfl⟩ (fun hHeld=>?_);refine with_tabW impl_IsClaim.tab1 impl_IsClaim.bits1 (fun HT_ HW_=>?_)
   generalize w12.drew = w13 at BK357 BK358 BK359 HB hHeld ⊢
   refine take_ (i:=0) (N:=some 7) (v:=?_) (a':=?_) #[true,false,false,false,false,false,false,false,false,false,false,false,false,false,false,false,false] rfl rfl (take_ofW HT_.out HW_.out (by kernel_rfl)) (fun _ _ _ h=>h) (Or.inl ⟨by rfl,?_⟩) hHeld ?_ ?_
   rotate_left
   ·rintro w' ⟨s0,s1,s2,s3,s4,s5⟩
    go_simp
    with_reducible rfl
   rotate_left
   ·simp only [Act.put,lA,l0',lS,i64_w,i32_w]
    rfl
   refine take_ (i:=1) (N:=some 8) (v:=?_) (a':=?_) #[true,true,false,false,false,false,false,false,false,false,false,false,false,false,false,false,false] rfl rfl (take_ofW HT_.out HW_.out (by kernel_rfl)) (fun _ _ _ h=>h) (Or.inl ⟨by rfl,?_⟩) hHeld ?_ ?_
   rotate_left
   ·rintro w' ⟨s0,s1,s2,s3,s4,s5⟩
    go_simp
    with_reducible rfl
   rotate_left
   ·simp only [Act.put,lA,l0',lS,i64_w,i32_w]
    rfl
   refine one_ (i:=2) (N:=some 9) #[true,true,true,false,false,false,false,false,false,false,false,false,false,false,false,false,false] rfl rfl (one_of HT_.out (by kernel_rfl)) (by decide) (fun K hK=>?_)
   refine goes_ Try.func113 (by kernel_rfl) rfl #[.agg #[.slice A0_0 l0_0.length c0_0],.agg #[.int .i64 a1_0,.int .i64 a1_1,.slice A1_2 l1_2.length c1_2]] (by rfl) rfl rfl (by (try simp only [mA,mC,mN]);first|done|rfl) ?_
   with_reducible refine (impl_isWhole.calls k _ _ l0_0 a1_0 a1_1 _ _ l1_2 true _ ?side1 ?side2 ?side3 ?side4 A4.out).mono ?_
   (case side1=>repeat (first|exact (Kd.C_below HR0_0.out HB.out)|(with_reducible refine Kd.C_alloc ?_ _)|(with_reducible refine Kd.C_drewN ?_ _)|(with_reducible refine Kd.C_drew ?_)))
   (case side2=>exact HC0_0.out)
   (case side3=>repeat (first|exact (Kd.C_below HR1_2.out HB.out)|(with_reducible refine Kd.C_alloc ?_ _)|(with_reducible refine Kd.C_drewN ?_ _)|(with_reducible refine Kd.C_drew ?_)))
   (case side4=>exact HC1_2.out)
   rintro e w14 ⟨rfl,hb⟩
   refine ⟨_,rfl,?_⟩
   have n0_:=aK (bB (bX BK357.out) hb)
   have n1_:=aK (bB (bX BK358.out) hb)
   have n2_:=aK (bB (bX BK359.out) hb)
   have n3_:=aK (below_step (bW HB.out) hb)
   clear BK357
   clear BK358
   clear BK359
   clear HB
   have BK357:=n0_
   have BK358:=n1_
   have BK359:=n2_
   have HB:=n3_
   clear n0_ n1_ n2_ n3_
   (try clear hb)
   (try clear hb2)
   (try clear hk)
   (try clear hi)
   refine hK.out _ _ ⟨(bC BK357.out 0).trans rfl,(bC BK358.out 0).trans rfl,(bC BK358.out 1).trans rfl,(bC BK358.out 2).trans rfl,(bC BK359.out 0).trans rfl,(bC BK359.out 1).trans rfl⟩ (fun hHeld=>?_)
   clear hK K
   refine norm_ (a':=?_) ?_ ?_
   rotate_left
   ·show Act.put _ (some 9) _ = _
    simp only [Act.put,lA,l0',lS,i64_w,i32_w]
    rfl
   refine pure_ (i:=3) (N:=some 10) (v:=?_) (a':=?_) #[true,true,true,true,false,false,false,false,false,false,false,false,false,false,false,false,false] rfl rfl (any_of HT_.out (by kernel_rfl)) (fun _ _ _ h=>h) (Or.inl ⟨by rfl,?_⟩) ?_ ?_
   rotate_left
   ·intro w'
    go_simp
    with_reducible rfl
   rotate_left
   ·simp only [Act.put,lA,l0',lS,i64_w,i32_w]
    rfl
   refine pure_ (i:=4) (N:=some 11) (v:=?_) (a':=?_) #[true,true,true,true,true,false,false,false,false,false,false,false,false,false,false,false,false] rfl rfl (any_of HT_.out (by kernel_rfl)) (fun _ _ _ h=>h) (Or.inl ⟨by rfl,?_⟩) ?_ ?_
   rotate_left
   ·intro w'
    go_simp
    with_reducible rfl
   rotate_left
   ·simp only [Act.put,lA,l0',lS,i64_w,i32_w]
    rfl
   refine take_ (i:=5) (N:=some 12) (v:=?_) (a':=?_) #[true,true,true,true,true,true,false,false,false,false,false,false,false,false,false,false,false] rfl rfl (take_ofW HT_.out HW_.out (by kernel_rfl)) (fun _ _ _ h=>h) (Or.inl ⟨by rfl,?_⟩) hHeld ?_ ?_
   rotate_left
   ·rintro w' ⟨s0,s1,s2,s3,s4,s5⟩
    go_simp
    with_reducible rfl
   rotate_left
   ·simp only [Act.put,lA,l0',lS,i64_w,i32_w]
    rfl
   refine one_ (i:=6) (N:=some 13) #[true,true,true,true,true,true,true,false,false,false,false,false,false,false,false,false,false] rfl rfl (one_of HT_.out (by kernel_rfl)) (by decide) (fun K hK=>?_)
   refine goes_ Try.func85 (by kernel_rfl) rfl #[.int .i64 a2_0] (by rfl) rfl rfl (by (try simp only [mA,mC,mN]);first|done|rfl) ?_
   with_reducible refine (impl_isSeat.calls a2_0 true _ A6.out).mono ?_
   rintro e w' ⟨rfl,⟨nd,rfl⟩⟩
   refine ⟨_,rfl,?_⟩
   refine hK.out _ _ ⟨(bC BK357.out 0).trans rfl,(bC BK358.out 0).trans rfl,(bC BK358.out 1).trans rfl,(bC BK358.out 2).trans rfl,(bC BK359.out 0).trans rfl,(bC BK359.out 1).trans rfl⟩ (fun hHeld=>?_)
   clear hK K
   refine norm_ (a':=?_) ?_ ?_
   rotate_left
   ·show Act.put _ (some 13) _ = _
    simp only [Act.put,lA,l0',lS,i64_w,i32_w]
    rfl
   refine pure_ (i:=7) (N:=some 14) (v:=?_) (a':=?_) #[true,true,true,true,true,true,true,true,false,false,false,false,false,false,false,false,false] rfl rfl (any_of HT_.out (by kernel_rfl)) (fun _ _ _ h=>h) (Or.inl ⟨by rfl,?_⟩) ?_ ?_
   rotate_left
   ·intro w'
    go_simp
    with_reducible rfl
   rotate_left
   ·simp only [Act.put,lA,l0',lS,i64_w,i32_w]
    rfl
   refine pure_ (i:=8) (N:=some 15) (v:=?_) (a':=?_) #[true,true,true,true,true,true,true,true,true,false,false,false,false,false,false,false,false] rfl rfl (any_of HT_.out (by kernel_rfl)) (fun _ _ _ h=>h) (Or.inl ⟨by rfl,?_⟩) ?_ ?_
   rotate_left
   ·intro w'
    go_simp
    with_reducible rfl
   rotate_left
   ·simp only [Act.put,lA,l0',lS,i64_w,i32_w]
    rfl
   refine pure_ (i:=9) (N:=some 16) (v:=?_) (a':=?_) #[true,true,true,true,true,true,true,true,true,true,false,false,false,false,false,false,false] rfl rfl (any_of HT_.out (by kernel_rfl)) (fun _ _ _ h=>h) (Or.inl ⟨by rfl,?_⟩) ?_ ?_
   rotate_left
   ·intro w'
    go_simp
    with_reducible rfl
   rotate_left
   ·simp only [Act.put,lA,l0',lS,i64_w,i32_w]
    rfl
   refine take_ (i:=10) (N:=some 17) (v:=?_) (a':=?_) #[true,true,true,true,true,true,true,true,true,true,true,false,false,false,false,false,false] rfl rfl (take_ofW HT_.out HW_.out (by kernel_rfl)) (fun _ _ _ h=>h) (Or.inl ⟨by rfl,?_⟩) hHeld ?_ ?_
   rotate_left
   ·rintro w' ⟨s0,s1,s2,s3,s4,s5⟩
    go_simp
    with_reducible rfl
   rotate_left
   ·simp only [Act.put,lA,l0',lS,i64_w,i32_w]
    rfl
   refine take_ (i:=11) (N:=some 18) (v:=?_) (a':=?_) #[true,true,true,true,true,true,true,true,true,true,true,true,false,false,false,false,false] rfl rfl (take_ofW HT_.out HW_.out (by kernel_rfl)) (fun _ _ _ h=>h) (Or.inl ⟨by rfl,?_⟩) hHeld ?_ ?_
   rotate_left
   ·rintro w' ⟨s0,s1,s2,s3,s4,s5⟩
    go_simp
    with_reducible rfl
   rotate_left
   ·simp only [Act.put,lA,l0',lS,i64_w,i32_w]
    rfl
   refine take_ (i:=12) (N:=some 19) (v:=?_) (a':=?_) #[true,true,true,true,true,true,true,true,true,true,true,true,true,false,false,false,false] rfl rfl (take_ofW HT_.out HW_.out (by kernel_rfl)) (fun _ _ _ h=>h) (Or.inl ⟨by rfl,?_⟩) hHeld ?_ ?_
   rotate_left
   ·rintro w' ⟨s0,s1,s2,s3,s4,s5⟩
    go_simp
    with_reducible rfl
   rotate_left
   ·simp only [Act.put,lA,l0',lS,i64_w,i32_w]
    rfl
   refine one_ (i:=13) (N:=some 20) #[true,true,true,true,true,true,true,true,true,true,true,true,true,true,false,false,false] rfl rfl (one_of HT_.out (by kernel_rfl)) (by decide) (fun K hK=>?_)
   refine goes_ Try.func114 (by kernel_rfl) rfl #[.agg #[.slice A0_0 l0_0.length c0_0],.agg #[.int .i64 a1_0,.int .i64 a1_1,.slice A1_2 l1_2.length c1_2]] (by rfl) rfl rfl (by (try simp only [mA,mC,mN]);first|done|rfl) ?_
   with_reducible refine (impl_remaining.calls _ _ l0_0 a1_0 a1_1 _ _ l1_2 t362 _ ?side1 ?side2 ?side3 ?side4 A8.out).mono ?_
   (case side1=>repeat (first|exact (Kd.C_below HR0_0.out (bW HB.out))|(with_reducible refine Kd.C_alloc ?_ _)|(with_reducible refine Kd.C_drewN ?_ _)|(with_reducible refine Kd.C_drew ?_)))
   (case side2=>exact HC0_0.out)
   (case side3=>repeat (first|exact (Kd.C_below HR1_2.out (bW HB.out))|(with_reducible refine Kd.C_alloc ?_ _)|(with_reducible refine Kd.C_drewN ?_ _)|(with_reducible refine Kd.C_drew ?_)))
   (case side4=>exact HC1_2.out)
   rintro e w15 ⟨rfl,hb⟩
   refine ⟨_,rfl,?_⟩
   have n0_:=aK (bB (bX BK357.out) hb)
   have n1_:=aK (bB (bX BK358.out) hb)
   have n2_:=aK (bB (bX BK359.out) hb)
   have n3_:=aK (below_step (bW HB.out) hb)
   clear BK357
   clear BK358
   clear BK359
   clear HB
   have BK357:=n0_
   have BK358:=n1_
   have BK359:=n2_
   have HB:=n3_
   clear n0_ n1_ n2_ n3_
   (try clear hb)
   (try clear hb2)
   (try clear hk)
   (try clear hi)
   refine hK.out _ _ ⟨(bC BK357.out 0).trans rfl,(bC BK358.out 0).trans rfl,(bC BK358.out 1).trans rfl,(bC BK358.out 2).trans rfl,(bC BK359.out 0).trans rfl,(bC BK359.out 1).trans rfl⟩ (fun hHeld=>?_)
   clear hK K
   refine norm_ (a':=?_) ?_ ?_
   rotate_left
   ·show Act.put _ (some 20) _ = _
    simp only [Act.put,lA,l0',lS,i64_w,i32_w]
    rfl
   refine one_ (i:=14) (N:=some 21) #[true,true,true,true,true,true,true,true,true,true,true,true,true,true,true,false,false] rfl rfl (one_of HT_.out (by kernel_rfl)) (by decide) (fun K hK=>?_)
   refine goes_ Try.func90 (by kernel_rfl) rfl #[.int .i64 a2_1,.int .i64 0,.int .i64 t362] (by rfl) rfl rfl (by (try simp only [mA,mC,mN]);first|done|rfl) ?_
   with_reducible refine (impl_within.calls a2_1 0 t362 t363 _ A9.out).mono ?_
   rintro e w' ⟨rfl,⟨nd,rfl⟩⟩
   refine ⟨_,rfl,?_⟩
   refine hK.out _ _ ⟨(bC BK357.out 0).trans rfl,(bC BK358.out 0).trans rfl,(bC BK358.out 1).trans rfl,(bC BK358.out 2).trans rfl,(bC BK359.out 0).trans rfl,(bC BK359.out 1).trans rfl⟩ (fun hHeld=>?_)
   clear hK K
   refine norm_ (a':=?_) ?_ ?_
   rotate_left
   ·show Act.put _ (some 21) _ = _
    simp only [Act.put,lA,l0',lS,i64_w,i32_w]
    rfl
   refine pure_ (i:=15) (N:=some 22) (v:=?_) (a':=?_) #[true,true,true,true,true,true,true,true,true,true,true,true,true,true,true,true,false] rfl rfl (any_of HT_.out (by kernel_rfl)) (fun _ _ _ h=>h) (Or.inl ⟨by rfl,?_⟩) ?_ ?_
   rotate_left
   ·intro w'
    go_simp
    with_reducible rfl
   rotate_left
   ·simp only [Act.put,lA,l0',lS,i64_w,i32_w]
    rfl
   refine pure_ (i:=16) (N:=some 6) (v:=?_) (a':=?_) #[true,true,true,true,true,true,true,true,true,true,true,true,true,true,true,true,true] rfl rfl (any_of HT_.out (by kernel_rfl)) (fun _ _ _ h=>h) (Or.inl ⟨by rfl,?_⟩) ?_ ?_
   rotate_left
   ·intro w'
    go_simp
    with_reducible rfl
   rotate_left
   ·simp only [Act.put,lA,l0',lS,i64_w,i32_w]
    rfl
   refine done_ (done_of HT_.out (by kernel_rfl)) ?_
   try go_wp2
   go_ret
   exact ⟨by first|rfl|(simp [errW_none,errW_some] <;> rfl)|(simp [*,errW_none,errW_some] <;> rfl),bW HB.out⟩
  ·replace c7:=Bool.eq_false_iff.mpr c7
   subst c7
   have H1 : (some false) = some r:=by rw [if_neg (show ¬ (false = true) by decide)] at H;exact H
   clear H
   have H:=H1
   clear H1
   obtain rfl:=Option.some.inj H
   go_enter Try.func51,Try.ntmps51
   try go_wp2_with (first|((with_reducible refine gate_dst (N:=3) rfl ?_);refine box_event ?hg (N:=3) ?hd (cs:=#[.slice A0_0 l0_0.length c0_0]) (t:=44) ?hr ?_;(case hd=>rfl);(case hg=>rfl);(case hr=>first|(go_simp;done)|(go_simp;rfl));intro gb357 hg w16 hbox hb;have n0_:=aK (below_step (bW HB.out) hb);have n1_:=aK (hbox);have n2_:=aK ((by rw [hg];exact (below_size (bW HB.out)) : w.heap.size ≤ gb357));have n3_:=aK ((by rw [hg];exact (below_size (bW HB.out)) : w.heap.size ≤ gb357));clear HB;have HB:=n0_;have BK357:=n1_;have GW357:=n2_;have GE357:=n3_;clear n0_ n1_ n2_ n3_;clear hb hbox hg)|((with_reducible refine gate_dst (N:=4) rfl ?_);refine box_event ?hg (N:=4) ?hd (cs:=#[.int .i64 a1_0,.int .i64 a1_1,.slice A1_2 l1_2.length c1_2]) (t:=27) ?hr ?_;(case hd=>rfl);(case hg=>rfl);(case hr=>first|(go_simp;done)|(go_simp;rfl));intro gb358 hg w17 hbox hb;have n0_:=aK (bB (bX BK357.out) hb);have n1_:=aK (below_step (bW HB.out) hb);have n2_:=aK (hbox);have n3_:=aK ((by rw [hg];exact (below_size (bW HB.out)) : w.heap.size ≤ gb358));have n4_:=aK ((by rw [hg];exact (below_size (bW HB.out)) : w.heap.size ≤ gb358));have n5_:=aK ((by rw [hg];exact Nat.ne_of_lt (blk_lt (bX BK357.out)) : gb357 ≠ gb358));have n6_:=aK ((by rw [hg];exact Nat.ne_of_gt (blk_lt (bX BK357.out)) : gb358 ≠ gb357));clear BK357;clear HB;have BK357:=n0_;have HB:=n1_;have BK358:=n2_;have GW358:=n3_;have GE358:=n4_;have NB357_358:=n5_;have NB358_357:=n6_;clear n0_ n1_ n2_ n3_ n4_ n5_ n6_;clear hb hbox hg)|((with_reducible refine gate_dst (N:=5) rfl ?_);refine box_event ?hg (N:=5) ?hd (cs:=#[.int .i64 a2_0,.int .i64 a2_1]) (t:=52) ?hr ?_;(case hd=>rfl);(case hg=>rfl);(case hr=>first|(go_simp;done)|(go_simp;rfl));intro gb359 hg w18 hbox hb;have n0_:=aK (bB (bX BK357.out) hb);have n1_:=aK (bB (bX BK358.out) hb);have n2_:=aK (below_step (bW HB.out) hb);have n3_:=aK (hbox);have n4_:=aK ((by rw [hg];exact (below_size (bW HB.out)) : w.heap.size ≤ gb359));have n5_:=aK ((by rw [hg];exact (below_size (bW HB.out)) : w.heap.size ≤ gb359));have n6_:=aK ((by rw [hg];exact Nat.ne_of_lt (blk_lt (bX BK357.out)) : gb357 ≠ gb359));have n7_:=aK ((by rw [hg];exact Nat.ne_of_gt (blk_lt (bX BK357.out)) : gb359 ≠ gb357));have n8_:=aK ((by rw [hg];exact Nat.ne_of_lt (blk_lt (bX BK358.out)) : gb358 ≠ gb359));have n9_:=aK ((by rw [hg];exact Nat.ne_of_gt (blk_lt (bX BK358.out)) : gb359 ≠ gb358));clear BK357;clear BK358;clear HB;have BK357:=n0_;have BK358:=n1_;have HB:=n2_;have BK359:=n3_;have GW359:=n4_;have GE359:=n5_;have NB357_359:=n6_;have NB359_357:=n7_;have NB358_359:=n8_;have NB359_358:=n9_;clear n0_ n1_ n2_ n3_ n4_ n5_ n6_ n7_ n8_ n9_;clear hb hbox hg))
   have n0_:=aK (bD BK357.out)
   have n1_:=aK (bD BK358.out)
   have n2_:=aK (bD BK359.out)
   have n3_:=aK (b1 HB.out)
   clear BK357
   clear BK358
   clear BK359
   clear HB
   have BK357:=n0_
   have BK358:=n1_
   have BK359:=n2_
   have HB:=n3_
   clear n0_ n1_ n2_ n3_
   refine start_ (n:=17) (S:=fun w'=>w'.cell? ⟨gb357,0,none⟩ = some (.slice A0_0 l0_0.length c0_0) ∧ w'.cell? ⟨gb358,0,none⟩ = some (.int .i64 a1_0) ∧ w'.cell? ⟨gb358,1,none⟩ = some (.int .i64 a1_1) ∧ w'.cell? ⟨gb358,2,none⟩ = some (.slice A1_2 l1_2.length c1_2) ∧ w'.cell? ⟨gb359,0,none⟩ = some (.int .i64 a2_0) ∧ w'.cell? ⟨gb359,1,none⟩ = some (.int .i64 a2_1)) (ds:=[]) #[false,false,false,false,false,false,false,false,false,false,false,false,false,false,false,false,false] (by kernel_rfl) rfl rfl ⟨(bC BK357.out 0).trans rfl,(bC BK358.out 0).trans rfl,(bC BK358.out 1).trans rfl,(bC BK358.out 2).trans rfl,(bC BK359.out 0).trans rfl,(bC BK359.out 1).trans rfl⟩ (fun hHeld=>?_);refine with_tabW impl_IsClaim.tab1 impl_IsClaim.bits1 (fun HT_ HW_=>?_)
   generalize w18.drew = w19 at BK357 BK358 BK359 HB hHeld ⊢
   refine take_ (i:=0) (N:=some 7) (v:=?_) (a':=?_) #[true,false,false,false,false,false,false,false,false,false,false,false,false,false,false,false,false] rfl rfl (take_ofW HT_.out HW_.out (by kernel_rfl)) (fun _ _ _ h=>h) (Or.inl ⟨by rfl,?_⟩) hHeld ?_ ?_
   rotate_left
   ·rintro w' ⟨s0,s1,s2,s3,s4,s5⟩
    go_simp
    with_reducible rfl
   rotate_left
   ·simp only [Act.put,lA,l0',lS,i64_w,i32_w]
    rfl
   refine take_ (i:=1) (N:=some 8) (v:=?_) (a':=?_) #[true,true,false,false,false,false,false,false,false,false,false,false,false,false,false,false,false] rfl rfl (take_ofW HT_.out HW_.out (by kernel_rfl)) (fun _ _ _ h=>h) (Or.inl ⟨by rfl,?_⟩) hHeld ?_ ?_
   rotate_left
   ·rintro w' ⟨s0,s1,s2,s3,s4,s5⟩
    go_simp
    with_reducible rfl
   rotate_left
   ·simp only [Act.put,lA,l0',lS,i64_w,i32_w]
    rfl
   refine one_ (i:=2) (N:=some 9) #[true,true,true,false,false,false,false,false,false,false,false,false,false,false,false,false,false] rfl rfl (one_of HT_.out (by kernel_rfl)) (by decide) (fun K hK=>?_)
   refine goes_ Try.func113 (by kernel_rfl) rfl #[.agg #[.slice A0_0 l0_0.length c0_0],.agg #[.int .i64 a1_0,.int .i64 a1_1,.slice A1_2 l1_2.length c1_2]] (by rfl) rfl rfl (by (try simp only [mA,mC,mN]);first|done|rfl) ?_
   with_reducible refine (impl_isWhole.calls k _ _ l0_0 a1_0 a1_1 _ _ l1_2 true _ ?side1 ?side2 ?side3 ?side4 A4.out).mono ?_
   (case side1=>repeat (first|exact (Kd.C_below HR0_0.out HB.out)|(with_reducible refine Kd.C_alloc ?_ _)|(with_reducible refine Kd.C_drewN ?_ _)|(with_reducible refine Kd.C_drew ?_)))
   (case side2=>exact HC0_0.out)
   (case side3=>repeat (first|exact (Kd.C_below HR1_2.out HB.out)|(with_reducible refine Kd.C_alloc ?_ _)|(with_reducible refine Kd.C_drewN ?_ _)|(with_reducible refine Kd.C_drew ?_)))
   (case side4=>exact HC1_2.out)
   rintro e w20 ⟨rfl,hb⟩
   refine ⟨_,rfl,?_⟩
   have n0_:=aK (bB (bX BK357.out) hb)
   have n1_:=aK (bB (bX BK358.out) hb)
   have n2_:=aK (bB (bX BK359.out) hb)
   have n3_:=aK (below_step (bW HB.out) hb)
   clear BK357
   clear BK358
   clear BK359
   clear HB
   have BK357:=n0_
   have BK358:=n1_
   have BK359:=n2_
   have HB:=n3_
   clear n0_ n1_ n2_ n3_
   (try clear hb)
   (try clear hb2)
   (try clear hk)
   (try clear hi)
   refine hK.out _ _ ⟨(bC BK357.out 0).trans rfl,(bC BK358.out 0).trans rfl,(bC BK358.out 1).trans rfl,(bC BK358.out 2).trans rfl,(bC BK359.out 0).trans rfl,(bC BK359.out 1).trans rfl⟩ (fun hHeld=>?_)
   clear hK K
   refine norm_ (a':=?_) ?_ ?_
   rotate_left
   ·show Act.put _ (some 9) _ = _
    simp only [Act.put,lA,l0',lS,i64_w,i32_w]
    rfl
   refine pure_ (i:=3) (N:=some 10) (v:=?_) (a':=?_) #[true,true,true,true,false,false,false,false,false,false,false,false,false,false,false,false,false] rfl rfl (any_of HT_.out (by kernel_rfl)) (fun _ _ _ h=>h) (Or.inl ⟨by rfl,?_⟩) ?_ ?_
   rotate_left
   ·intro w'
    go_simp
    with_reducible rfl
   rotate_left
   ·simp only [Act.put,lA,l0',lS,i64_w,i32_w]
    rfl
   refine pure_ (i:=4) (N:=some 11) (v:=?_) (a':=?_) #[true,true,true,true,true,false,false,false,false,false,false,false,false,false,false,false,false] rfl rfl (any_of HT_.out (by kernel_rfl)) (fun _ _ _ h=>h) (Or.inl ⟨by rfl,?_⟩) ?_ ?_
   rotate_left
   ·intro w'
    go_simp
    with_reducible rfl
   rotate_left
   ·simp only [Act.put,lA,l0',lS,i64_w,i32_w]
    rfl
   refine take_ (i:=5) (N:=some 12) (v:=?_) (a':=?_) #[true,true,true,true,true,true,false,false,false,false,false,false,false,false,false,false,false] rfl rfl (take_ofW HT_.out HW_.out (by kernel_rfl)) (fun _ _ _ h=>h) (Or.inl ⟨by rfl,?_⟩) hHeld ?_ ?_
   rotate_left
   ·rintro w' ⟨s0,s1,s2,s3,s4,s5⟩
    go_simp
    with_reducible rfl
   rotate_left
   ·simp only [Act.put,lA,l0',lS,i64_w,i32_w]
    rfl
   refine one_ (i:=6) (N:=some 13) #[true,true,true,true,true,true,true,false,false,false,false,false,false,false,false,false,false] rfl rfl (one_of HT_.out (by kernel_rfl)) (by decide) (fun K hK=>?_)
   refine goes_ Try.func85 (by kernel_rfl) rfl #[.int .i64 a2_0] (by rfl) rfl rfl (by (try simp only [mA,mC,mN]);first|done|rfl) ?_
   with_reducible refine (impl_isSeat.calls a2_0 false _ A6.out).mono ?_
   rintro e w' ⟨rfl,⟨nd,rfl⟩⟩
   refine ⟨_,rfl,?_⟩
   refine hK.out _ _ ⟨(bC BK357.out 0).trans rfl,(bC BK358.out 0).trans rfl,(bC BK358.out 1).trans rfl,(bC BK358.out 2).trans rfl,(bC BK359.out 0).trans rfl,(bC BK359.out 1).trans rfl⟩ (fun hHeld=>?_)
   clear hK K
   refine norm_ (a':=?_) ?_ ?_
   rotate_left
   ·show Act.put _ (some 13) _ = _
    simp only [Act.put,lA,l0',lS,i64_w,i32_w]
    rfl
   refine pure_ (i:=7) (N:=some 14) (v:=?_) (a':=?_) #[true,true,true,true,true,true,true,true,false,false,false,false,false,false,false,false,false] rfl rfl (any_of HT_.out (by kernel_rfl)) (fun _ _ _ h=>h) (Or.inl ⟨by rfl,?_⟩) ?_ ?_
   rotate_left
   ·intro w'
    go_simp
    with_reducible rfl
   rotate_left
   ·simp only [Act.put,lA,l0',lS,i64_w,i32_w]
    rfl
   refine pure_ (i:=8) (N:=some 15) (v:=?_) (a':=?_) #[true,true,true,true,true,true,true,true,true,false,false,false,false,false,false,false,false] rfl rfl (any_of HT_.out (by kernel_rfl)) (fun _ _ _ h=>h) (Or.inl ⟨by rfl,?_⟩) ?_ ?_
   rotate_left
   ·intro w'
    go_simp
    with_reducible rfl
   rotate_left
   ·simp only [Act.put,lA,l0',lS,i64_w,i32_w]
    rfl
   refine pure_ (i:=9) (N:=some 16) (v:=undef) (a':=?_) #[true,true,true,true,true,true,true,true,true,true,false,false,false,false,false,false,false] rfl rfl (any_of HT_.out (by kernel_rfl)) (fun _ _ _ h=>h) (Or.inr ⟨by rfl,rfl⟩) ?_ ?_
   rotate_left
   ·simp only [Act.put,lA,l0',lS,i64_w,i32_w]
    rfl
   refine pure_ (i:=10) (N:=some 17) (v:=undef) (a':=?_) #[true,true,true,true,true,true,true,true,true,true,true,false,false,false,false,false,false] rfl rfl (any_of HT_.out (by kernel_rfl)) (fun _ _ _ h=>h) (Or.inr ⟨by rfl,rfl⟩) ?_ ?_
   rotate_left
   ·simp only [Act.put,lA,l0',lS,i64_w,i32_w]
    rfl
   refine pure_ (i:=11) (N:=some 18) (v:=undef) (a':=?_) #[true,true,true,true,true,true,true,true,true,true,true,true,false,false,false,false,false] rfl rfl (any_of HT_.out (by kernel_rfl)) (fun _ _ _ h=>h) (Or.inr ⟨by rfl,rfl⟩) ?_ ?_
   rotate_left
   ·simp only [Act.put,lA,l0',lS,i64_w,i32_w]
    rfl
   refine pure_ (i:=12) (N:=some 19) (v:=undef) (a':=?_) #[true,true,true,true,true,true,true,true,true,true,true,true,true,false,false,false,false] rfl rfl (any_of HT_.out (by kernel_rfl)) (fun _ _ _ h=>h) (Or.inr ⟨by rfl,rfl⟩) ?_ ?_
   rotate_left
   ·simp only [Act.put,lA,l0',lS,i64_w,i32_w]
    rfl
   refine pure_ (i:=13) (N:=some 20) (v:=undef) (a':=?_) #[true,true,true,true,true,true,true,true,true,true,true,true,true,true,false,false,false] rfl rfl (any_of HT_.out (by kernel_rfl)) (fun _ _ _ h=>h) (Or.inr ⟨by rfl,rfl⟩) ?_ ?_
   rotate_left
   ·simp only [Act.put,lA,l0',lS,i64_w,i32_w]
    rfl
   refine pure_ (i:=14) (N:=some 21) (v:=undef) (a':=?_) #[true,true,true,true,true,true,true,true,true,true,true,true,true,true,true,false,false] rfl rfl (any_of HT_.out (by kernel_rfl)) (fun _ _ _ h=>h) (Or.inr ⟨by rfl,rfl⟩) ?_ ?_
   rotate_left
   ·simp only [Act.put,lA,l0',lS,i64_w,i32_w]
    rfl
   refine pure_ (i:=15) (N:=some 22) (v:=?_) (a':=?_) #[true,true,true,true,true,true,true,true,true,true,true,true,true,true,true,true,false] rfl rfl (any_of HT_.out (by kernel_rfl)) (fun _ _ _ h=>h) (Or.inl ⟨by rfl,?_⟩) ?_ ?_
   rotate_left
   ·intro w'
    go_simp
    with_reducible rfl
   rotate_left
   ·simp only [Act.put,lA,l0',lS,i64_w,i32_w]
    rfl
   refine pure_ (i:=16) (N:=some 6) (v:=?_) (a':=?_) #[true,true,true,true,true,true,true,true,true,true,true,true,true,true,true,true,true] rfl rfl (any_of HT_.out (by kernel_rfl)) (fun _ _ _ h=>h) (Or.inl ⟨by rfl,?_⟩) ?_ ?_
   rotate_left
   ·intro w'
    go_simp
    with_reducible rfl
   rotate_left
   ·simp only [Act.put,lA,l0',lS,i64_w,i32_w]
    rfl
   refine done_ (done_of HT_.out (by kernel_rfl)) ?_
   try go_wp2
   go_ret
   exact ⟨by first|rfl|(simp [errW_none,errW_some] <;> rfl)|(simp [*,errW_none,errW_some] <;> rfl),bW HB.out⟩
 ·replace c5:=Bool.eq_false_iff.mpr c5
  subst c5
  have H1 : (some false) = some r:=by rw [if_neg (show ¬ (false = true) by decide)] at H;exact H
  clear H
  have H:=H1
  clear H1
  obtain rfl:=Option.some.inj H
  go_enter Try.func51,Try.ntmps51
  try go_wp2_with (first|((with_reducible refine gate_dst (N:=3) rfl ?_);refine box_event ?hg (N:=3) ?hd (cs:=#[.slice A0_0 l0_0.length c0_0]) (t:=44) ?hr ?_;(case hd=>rfl);(case hg=>rfl);(case hr=>first|(go_simp;done)|(go_simp;rfl));intro gb357 hg w21 hbox hb;have n0_:=aK (below_step (bW HB.out) hb);have n1_:=aK (hbox);have n2_:=aK ((by rw [hg];exact (below_size (bW HB.out)) : w.heap.size ≤ gb357));have n3_:=aK ((by rw [hg];exact (below_size (bW HB.out)) : w.heap.size ≤ gb357));clear HB;have HB:=n0_;have BK357:=n1_;have GW357:=n2_;have GE357:=n3_;clear n0_ n1_ n2_ n3_;clear hb hbox hg)|((with_reducible refine gate_dst (N:=4) rfl ?_);refine box_event ?hg (N:=4) ?hd (cs:=#[.int .i64 a1_0,.int .i64 a1_1,.slice A1_2 l1_2.length c1_2]) (t:=27) ?hr ?_;(case hd=>rfl);(case hg=>rfl);(case hr=>first|(go_simp;done)|(go_simp;rfl));intro gb358 hg w22 hbox hb;have n0_:=aK (bB (bX BK357.out) hb);have n1_:=aK (below_step (bW HB.out) hb);have n2_:=aK (hbox);have n3_:=aK ((by rw [hg];exact (below_size (bW HB.out)) : w.heap.size ≤ gb358));have n4_:=aK ((by rw [hg];exact (below_size (bW HB.out)) : w.heap.size ≤ gb358));have n5_:=aK ((by rw [hg];exact Nat.ne_of_lt (blk_lt (bX BK357.out)) : gb357 ≠ gb358));have n6_:=aK ((by rw [hg];exact Nat.ne_of_gt (blk_lt (bX BK357.out)) : gb358 ≠ gb357));clear BK357;clear HB;have BK357:=n0_;have HB:=n1_;have BK358:=n2_;have GW358:=n3_;have GE358:=n4_;have NB357_358:=n5_;have NB358_357:=n6_;clear n0_ n1_ n2_ n3_ n4_ n5_ n6_;clear hb hbox hg)|((with_reducible refine gate_dst (N:=5) rfl ?_);refine box_event ?hg (N:=5) ?hd (cs:=#[.int .i64 a2_0,.int .i64 a2_1]) (t:=52) ?hr ?_;(case hd=>rfl);(case hg=>rfl);(case hr=>first|(go_simp;done)|(go_simp;rfl));intro gb359 hg w23 hbox hb;have n0_:=aK (bB (bX BK357.out) hb);have n1_:=aK (bB (bX BK358.out) hb);have n2_:=aK (below_step (bW HB.out) hb);have n3_:=aK (hbox);have n4_:=aK ((by rw [hg];exact (below_size (bW HB.out)) : w.heap.size ≤ gb359));have n5_:=aK ((by rw [hg];exact (below_size (bW HB.out)) : w.heap.size ≤ gb359));have n6_:=aK ((by rw [hg];exact Nat.ne_of_lt (blk_lt (bX BK357.out)) : gb357 ≠ gb359));have n7_:=aK ((by rw [hg];exact Nat.ne_of_gt (blk_lt (bX BK357.out)) : gb359 ≠ gb357));have n8_:=aK ((by rw [hg];exact Nat.ne_of_lt (blk_lt (bX BK358.out)) : gb358 ≠ gb359));have n9_:=aK ((by rw [hg];exact Nat.ne_of_gt (blk_lt (bX BK358.out)) : gb359 ≠ gb358));clear BK357;clear BK358;clear HB;have BK357:=n0_;have BK358:=n1_;have HB:=n2_;have BK359:=n3_;have GW359:=n4_;have GE359:=n5_;have NB357_359:=n6_;have NB359_357:=n7_;have NB358_359:=n8_;have NB359_358:=n9_;clear n0_ n1_ n2_ n3_ n4_ n5_ n6_ n7_ n8_ n9_;clear hb hbox hg))
  have n0_:=aK (bD BK357.out)
  have n1_:=aK (bD BK358.out)
  have n2_:=aK (bD BK359.out)
  have n3_:=aK (b1 HB.out)
  clear BK357
  clear BK358
  clear BK359
  clear HB
  have BK357:=n0_
  have BK358:=n1_
  have BK359:=n2_
  have HB:=n3_
  clear n0_ n1_ n2_ n3_
  refine start_ (n:=17) (S:=fun w'=>w'.cell? ⟨gb357,0,none⟩ = some (.slice A0_0 l0_0.length c0_0) ∧ w'.cell? ⟨gb358,0,none⟩ = some (.int .i64 a1_0) ∧ w'.cell? ⟨gb358,1,none⟩ = some (.int .i64 a1_1) ∧ w'.cell? ⟨gb358,2,none⟩ = some (.slice A1_2 l1_2.length c1_2)) (ds:=[]) #[false,false,false,false,false,false,false,false,false,false,false,false,false,false,false,false,false] (by kernel_rfl) rfl rfl ⟨(bC BK357.out 0).trans rfl,(bC BK358.out 0).trans rfl,(bC BK358.out 1).trans rfl,(bC BK358.out 2).trans rfl⟩ (fun hHeld=>?_);refine with_tabW impl_IsClaim.tab1 impl_IsClaim.bits1 (fun HT_ HW_=>?_)
  generalize w23.drew = w24 at BK357 BK358 BK359 HB hHeld ⊢
  refine take_ (i:=0) (N:=some 7) (v:=?_) (a':=?_) #[true,false,false,false,false,false,false,false,false,false,false,false,false,false,false,false,false] rfl rfl (take_ofW HT_.out HW_.out (by kernel_rfl)) (fun _ _ _ h=>h) (Or.inl ⟨by rfl,?_⟩) hHeld ?_ ?_
  rotate_left
  ·rintro w' ⟨s0,s1,s2,s3⟩
   go_simp
   with_reducible rfl
  rotate_left
  ·simp only [Act.put,lA,l0',lS,i64_w,i32_w]
   rfl
  refine take_ (i:=1) (N:=some 8) (v:=?_) (a':=?_) #[true,true,false,false,false,false,false,false,false,false,false,false,false,false,false,false,false] rfl rfl (take_ofW HT_.out HW_.out (by kernel_rfl)) (fun _ _ _ h=>h) (Or.inl ⟨by rfl,?_⟩) hHeld ?_ ?_
  rotate_left
  ·rintro w' ⟨s0,s1,s2,s3⟩
   go_simp
   with_reducible rfl
  rotate_left
  ·simp only [Act.put,lA,l0',lS,i64_w,i32_w]
   rfl
  refine one_ (i:=2) (N:=some 9) #[true,true,true,false,false,false,false,false,false,false,false,false,false,false,false,false,false] rfl rfl (one_of HT_.out (by kernel_rfl)) (by decide) (fun K hK=>?_)
  refine goes_ Try.func113 (by kernel_rfl) rfl #[.agg #[.slice A0_0 l0_0.length c0_0],.agg #[.int .i64 a1_0,.int .i64 a1_1,.slice A1_2 l1_2.length c1_2]] (by rfl) rfl rfl (by (try simp only [mA,mC,mN]);first|done|rfl) ?_
  with_reducible refine (impl_isWhole.calls k _ _ l0_0 a1_0 a1_1 _ _ l1_2 false _ ?side1 ?side2 ?side3 ?side4 A4.out).mono ?_
  (case side1=>repeat (first|exact (Kd.C_below HR0_0.out HB.out)|(with_reducible refine Kd.C_alloc ?_ _)|(with_reducible refine Kd.C_drewN ?_ _)|(with_reducible refine Kd.C_drew ?_)))
  (case side2=>exact HC0_0.out)
  (case side3=>repeat (first|exact (Kd.C_below HR1_2.out HB.out)|(with_reducible refine Kd.C_alloc ?_ _)|(with_reducible refine Kd.C_drewN ?_ _)|(with_reducible refine Kd.C_drew ?_)))
  (case side4=>exact HC1_2.out)
  rintro e w25 ⟨rfl,hb⟩
  refine ⟨_,rfl,?_⟩
  have n0_:=aK (bB (bX BK357.out) hb)
  have n1_:=aK (bB (bX BK358.out) hb)
  have n2_:=aK (bB (bX BK359.out) hb)
  have n3_:=aK (below_step (bW HB.out) hb)
  clear BK357
  clear BK358
  clear BK359
  clear HB
  have BK357:=n0_
  have BK358:=n1_
  have BK359:=n2_
  have HB:=n3_
  clear n0_ n1_ n2_ n3_
  (try clear hb)
  (try clear hb2)
  (try clear hk)
  (try clear hi)
  refine hK.out _ _ ⟨(bC BK357.out 0).trans rfl,(bC BK358.out 0).trans rfl,(bC BK358.out 1).trans rfl,(bC BK358.out 2).trans rfl⟩ (fun hHeld=>?_)
  clear hK K
  refine norm_ (a':=?_) ?_ ?_
  rotate_left
  ·show Act.put _ (some 9) _ = _
   simp only [Act.put,lA,l0',lS,i64_w,i32_w]
   rfl
  refine pure_ (i:=3) (N:=some 10) (v:=?_) (a':=?_) #[true,true,true,true,false,false,false,false,false,false,false,false,false,false,false,false,false] rfl rfl (any_of HT_.out (by kernel_rfl)) (fun _ _ _ h=>h) (Or.inl ⟨by rfl,?_⟩) ?_ ?_
  rotate_left
  ·intro w'
   go_simp
   with_reducible rfl
  rotate_left
  ·simp only [Act.put,lA,l0',lS,i64_w,i32_w]
   rfl
  refine pure_ (i:=4) (N:=some 11) (v:=undef) (a':=?_) #[true,true,true,true,true,false,false,false,false,false,false,false,false,false,false,false,false] rfl rfl (any_of HT_.out (by kernel_rfl)) (fun _ _ _ h=>h) (Or.inr ⟨by rfl,rfl⟩) ?_ ?_
  rotate_left
  ·simp only [Act.put,lA,l0',lS,i64_w,i32_w]
   rfl
  refine pure_ (i:=5) (N:=some 12) (v:=undef) (a':=?_) #[true,true,true,true,true,true,false,false,false,false,false,false,false,false,false,false,false] rfl rfl (any_of HT_.out (by kernel_rfl)) (fun _ _ _ h=>h) (Or.inr ⟨by rfl,rfl⟩) ?_ ?_
  rotate_left
  ·simp only [Act.put,lA,l0',lS,i64_w,i32_w]
   rfl
  refine pure_ (i:=6) (N:=some 13) (v:=undef) (a':=?_) #[true,true,true,true,true,true,true,false,false,false,false,false,false,false,false,false,false] rfl rfl (any_of HT_.out (by kernel_rfl)) (fun _ _ _ h=>h) (Or.inr ⟨by rfl,rfl⟩) ?_ ?_
  rotate_left
  ·simp only [Act.put,lA,l0',lS,i64_w,i32_w]
   rfl
  refine pure_ (i:=7) (N:=some 14) (v:=?_) (a':=?_) #[true,true,true,true,true,true,true,true,false,false,false,false,false,false,false,false,false] rfl rfl (any_of HT_.out (by kernel_rfl)) (fun _ _ _ h=>h) (Or.inl ⟨by rfl,?_⟩) ?_ ?_
  rotate_left
  ·intro w'
   go_simp
   with_reducible rfl
  rotate_left
  ·simp only [Act.put,lA,l0',lS,i64_w,i32_w]
   rfl
  refine pure_ (i:=8) (N:=some 15) (v:=?_) (a':=?_) #[true,true,true,true,true,true,true,true,true,false,false,false,false,false,false,false,false] rfl rfl (any_of HT_.out (by kernel_rfl)) (fun _ _ _ h=>h) (Or.inl ⟨by rfl,?_⟩) ?_ ?_
  rotate_left
  ·intro w'
   go_simp
   with_reducible rfl
  rotate_left
  ·simp only [Act.put,lA,l0',lS,i64_w,i32_w]
   rfl
  refine pure_ (i:=9) (N:=some 16) (v:=undef) (a':=?_) #[true,true,true,true,true,true,true,true,true,true,false,false,false,false,false,false,false] rfl rfl (any_of HT_.out (by kernel_rfl)) (fun _ _ _ h=>h) (Or.inr ⟨by rfl,rfl⟩) ?_ ?_
  rotate_left
  ·simp only [Act.put,lA,l0',lS,i64_w,i32_w]
   rfl
  refine pure_ (i:=10) (N:=some 17) (v:=undef) (a':=?_) #[true,true,true,true,true,true,true,true,true,true,true,false,false,false,false,false,false] rfl rfl (any_of HT_.out (by kernel_rfl)) (fun _ _ _ h=>h) (Or.inr ⟨by rfl,rfl⟩) ?_ ?_
  rotate_left
  ·simp only [Act.put,lA,l0',lS,i64_w,i32_w]
   rfl
  refine pure_ (i:=11) (N:=some 18) (v:=undef) (a':=?_) #[true,true,true,true,true,true,true,true,true,true,true,true,false,false,false,false,false] rfl rfl (any_of HT_.out (by kernel_rfl)) (fun _ _ _ h=>h) (Or.inr ⟨by rfl,rfl⟩) ?_ ?_
  rotate_left
  ·simp only [Act.put,lA,l0',lS,i64_w,i32_w]
   rfl
  refine pure_ (i:=12) (N:=some 19) (v:=undef) (a':=?_) #[true,true,true,true,true,true,true,true,true,true,true,true,true,false,false,false,false] rfl rfl (any_of HT_.out (by kernel_rfl)) (fun _ _ _ h=>h) (Or.inr ⟨by rfl,rfl⟩) ?_ ?_
  rotate_left
  ·simp only [Act.put,lA,l0',lS,i64_w,i32_w]
   rfl
  refine pure_ (i:=13) (N:=some 20) (v:=undef) (a':=?_) #[true,true,true,true,true,true,true,true,true,true,true,true,true,true,false,false,false] rfl rfl (any_of HT_.out (by kernel_rfl)) (fun _ _ _ h=>h) (Or.inr ⟨by rfl,rfl⟩) ?_ ?_
  rotate_left
  ·simp only [Act.put,lA,l0',lS,i64_w,i32_w]
   rfl
  refine pure_ (i:=14) (N:=some 21) (v:=undef) (a':=?_) #[true,true,true,true,true,true,true,true,true,true,true,true,true,true,true,false,false] rfl rfl (any_of HT_.out (by kernel_rfl)) (fun _ _ _ h=>h) (Or.inr ⟨by rfl,rfl⟩) ?_ ?_
  rotate_left
  ·simp only [Act.put,lA,l0',lS,i64_w,i32_w]
   rfl
  refine pure_ (i:=15) (N:=some 22) (v:=?_) (a':=?_) #[true,true,true,true,true,true,true,true,true,true,true,true,true,true,true,true,false] rfl rfl (any_of HT_.out (by kernel_rfl)) (fun _ _ _ h=>h) (Or.inl ⟨by rfl,?_⟩) ?_ ?_
  rotate_left
  ·intro w'
   go_simp
   with_reducible rfl
  rotate_left
  ·simp only [Act.put,lA,l0',lS,i64_w,i32_w]
   rfl
  refine pure_ (i:=16) (N:=some 6) (v:=?_) (a':=?_) #[true,true,true,true,true,true,true,true,true,true,true,true,true,true,true,true,true] rfl rfl (any_of HT_.out (by kernel_rfl)) (fun _ _ _ h=>h) (Or.inl ⟨by rfl,?_⟩) ?_ ?_
  rotate_left
  ·intro w'
   go_simp
   with_reducible rfl
  rotate_left
  ·simp only [Act.put,lA,l0',lS,i64_w,i32_w]
   rfl
  refine done_ (done_of HT_.out (by kernel_rfl)) ?_
  try go_wp2
  go_ret
  exact ⟨by first|rfl|(simp [errW_none,errW_some] <;> rfl)|(simp [*,errW_none,errW_some] <;> rfl),bW HB.out⟩

end Go.Proofs.Ytakepkjcmgcepaa.QFnExactIsClaim
