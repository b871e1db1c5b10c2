/- The functions that the law FnExactIsClaim reaches, as plain functions, and the walks that show that the machine's calls answer so. Written by a program of this session (wip/myprint.py) on the kit's print. -/
import Derived.Test.YtakepkjcmgcepaaQFnExactIsClaimx0
import Derived.Test.YtakepkjcmgcepaaQFnExactIsClaimx2
import Derived.Test.YtakepkjcmgcepaaQFnExactIsClaimx6
namespace Go.Proofs.Ytakepkjcmgcepaa.QFnExactIsClaim
open Go.RowKit Go.Proofs.YtakepkjcmgcepaaW.PrintWords Go.Proofs.YtakepkjcmgcepaaW.PrintLast Go.Proofs.YtakepkjcmgcepaaW.PrintMore
attribute [local go_sem] max2_int min2_int max_two min_two max_three min_three max_four min_four   -- for this text's walks alone
set_option linter.unusedVariables false
set_option linter.unusedSimpArgs false

/-! ### spec_IsClaim: function 49 -/
def spec_IsClaim.f (k : Nat) (l0_0 : List (List Int)) (a1_0 : Int) (a1_1 : Int) (l1_2 : List Int) (a2_0 : Int) (a2_1 : Int) : Option (Bool) := (spec_l09Even.f k l0_0 a1_0 a1_1 l1_2).bind fun t254 => (if t254 = true then ((spec_l01In.f a2_0 0 3).bind fun t255 => (if t255 = true then ((spec_l09Rest.f l0_0 a1_0 a1_1 l1_2).bind fun t256 => ((spec_l01In.f a2_1 0 t256).bind fun t257 => (some t257))) else (some false))) else (some false))
theorem spec_IsClaim.mono : ∀ a0 a1 a2 a3 a4 a5 k, LeO (spec_IsClaim.f k a0 a1 a2 a3 a4 a5) (spec_IsClaim.f (k + 1) a0 a1 a2 a3 a4 a5) := by
 intro a0 a1 a2 a3 a4 a5 k
 unfold spec_IsClaim.f
 repeat' first
   | (with_reducible exact spec_l09Even.mono _ _ _ _ _)
   | (with_reducible exact LeO.refl _)
   | (with_reducible exact LeO.none _)
   | (with_reducible refine LeO.ite ?_ ?_)
   | (with_reducible refine LeO.bind ?_ (fun _=>?_))
   | exact spec_l09Even.mono _ _ _ _ _
   | exact LeO.none _
   | refine LeO.ite ?_ ?_
   | refine LeO.bind ?_ (fun _=>?_)
def spec_IsClaim.T1 : Bool × List (List Nat × List Nat) := (true, [([], []), ([], []), ([0, 1], [0, 1]), ([2, 2], [2]), ([3], [3]), ([4, 3], [3, 4]), ([5, 3, 3], [3, 5]), ([3, 6], [3, 6]), ([7, 6], [7]), ([8], [8]), ([9, 8], [8, 9]), ([8], [8]), ([8], [8]), ([11, 12, 8, 8], [8, 11, 12]), ([10, 13, 13, 8], [8, 10, 13]), ([8, 14], [8, 14]), ([15, 14, 0, 1, 2, 3, 4, 5, 6, 7, 8, 9, 10, 11, 12, 13, 14, 15], [15])])
def spec_IsClaim.B1 : List Nat := [0, 0, 3, 7, 15, 31, 63, 127, 255, 511, 1023, 511, 511, 6655, 16383, 32767, 65535]
theorem spec_IsClaim.tab1 : rtab .any (opsOf Try.f49 1) = spec_IsClaim.T1 := by kernel_rfl
theorem spec_IsClaim.bits1 : waitsOk spec_IsClaim.T1.2 spec_IsClaim.B1 = true := by kernel_rfl
set_option maxHeartbeats 8000000 in
set_option maxRecDepth 100000 in
theorem spec_IsClaim.calls (k : Nat) (A0_0 : Option Addr) (c0_0 : Nat) (l0_0 : List (List Int)) (a1_0 : Int) (a1_1 : Int) (A1_2 : Option Addr) (c1_2 : Nat) (l1_2 : List Int) (a2_0 : Int) (a2_1 : Int) (r : Bool) (w : World) (hr0_0 : Kd.C (Kd.slice 2 (Kd.int .i64)) w A0_0 l0_0.length l0_0) (hc0_0 : l0_0.length ≤ c0_0) (hr1_2 : Kd.C (Kd.int .i64) w A1_2 l1_2.length l1_2) (hc1_2 : l1_2.length ≤ c1_2) (h : spec_IsClaim.f k l0_0 a1_0 a1_1 l1_2 a2_0 a2_1 = some r) :
  Calls Try.prog 49 #[.agg #[.slice A0_0 l0_0.length c0_0],.agg #[.int .i64 a1_0,.int .i64 a1_1,.slice A1_2 l1_2.length c1_2],.agg #[.int .i64 a2_0,.int .i64 a2_1]] w fun e w'=>e = .returned (.bool r) ∧ Below w.heap.size w w':=by
 have hu44:=Try.underlying44
 have hu27:=Try.underlying27
 have hu52:=Try.underlying52
 have HR0_0:=aK hr0_0
 have HC0_0:=aK hc0_0
 clear hr0_0 hc0_0
 have HR1_2:=aK hr1_2
 have HC1_2:=aK hc1_2
 clear hr1_2 hc1_2
 have HB:=aK (Below.refl w.heap.size w)
 have H : ((spec_l09Even.f k l0_0 a1_0 a1_1 l1_2).bind fun t254=>(if t254 = true then ((spec_l01In.f a2_0 0 3).bind fun t255=>(if t255 = true then ((spec_l09Rest.f l0_0 a1_0 a1_1 l1_2).bind fun t256=>((spec_l01In.f a2_1 0 t256).bind fun t257=>(some t257))) else (some false))) else (some false))) = some r:=h
 clear h
 replace H:=Option.bind_eq_some_iff.mp H
 obtain ⟨t254,A40,H⟩:=H
 replace H : (if t254 = true then ((spec_l01In.f a2_0 0 3).bind fun t255=>(if t255 = true then ((spec_l09Rest.f l0_0 a1_0 a1_1 l1_2).bind fun t256=>((spec_l01In.f a2_1 0 t256).bind fun t257=>(some t257))) else (some false))) else (some false)) = some r:=H
 have A4:=aK A40
 clear A40
 by_cases c5 : t254 = true
 ·subst c5
  have H1 : ((spec_l01In.f a2_0 0 3).bind fun t255=>(if t255 = true then ((spec_l09Rest.f l0_0 a1_0 a1_1 l1_2).bind fun t256=>((spec_l01In.f a2_1 0 t256).bind fun t257=>(some t257))) else (some false))) = some r:=by rw [if_pos rfl] at H;exact H
  clear H
  have H:=H1
  clear H1
  replace H:=Option.bind_eq_some_iff.mp H
  obtain ⟨t255,A60,H⟩:=H
  replace H : (if t255 = true then ((spec_l09Rest.f l0_0 a1_0 a1_1 l1_2).bind fun t256=>((spec_l01In.f a2_1 0 t256).bind fun t257=>(some t257))) else (some false)) = some r:=H
  have A6:=aK A60
  clear A60
  by_cases c7 : t255 = true
  ·subst c7
   have H1 : ((spec_l09Rest.f l0_0 a1_0 a1_1 l1_2).bind fun t256=>((spec_l01In.f a2_1 0 t256).bind fun t257=>(some t257))) = some r:=by rw [if_pos rfl] at H;exact H
   clear H
   have H:=H1
   clear H1
   replace H:=Option.bind_eq_some_iff.mp H
   obtain ⟨t256,A80,H⟩:=H
   replace H : ((spec_l01In.f a2_1 0 t256).bind fun t257=>(some t257)) = some r:=H
   have A8:=aK A80
   clear A80
   replace H:=Option.bind_eq_some_iff.mp H
   obtain ⟨t257,A90,H⟩:=H
   replace H : (some t257) = some r:=H
   have A9:=aK A90
   clear A90
   obtain rfl:=Option.some.inj H
   go_enter Try.func49,Try.ntmps49
   try go_wp2_with (first|((with_reducible refine gate_dst (N:=3) rfl ?_);refine box_event ?hg (N:=3) ?hd (cs:=#[.slice A0_0 l0_0.length c0_0]) (t:=44) ?hr ?_;(case hd=>rfl);(case hg=>rfl);(case hr=>first|(go_simp;done)|(go_simp;rfl));intro gb251 hg w10 hbox hb;have n0_:=aK (below_step (bW HB.out) hb);have n1_:=aK (hbox);have n2_:=aK ((by rw [hg];exact (below_size (bW HB.out)) : w.heap.size ≤ gb251));have n3_:=aK ((by rw [hg];exact (below_size (bW HB.out)) : w.heap.size ≤ gb251));clear HB;have HB:=n0_;have BK251:=n1_;have GW251:=n2_;have GE251:=n3_;clear n0_ n1_ n2_ n3_;clear hb hbox hg)|((with_reducible refine gate_dst (N:=4) rfl ?_);refine box_event ?hg (N:=4) ?hd (cs:=#[.int .i64 a1_0,.int .i64 a1_1,.slice A1_2 l1_2.length c1_2]) (t:=27) ?hr ?_;(case hd=>rfl);(case hg=>rfl);(case hr=>first|(go_simp;done)|(go_simp;rfl));intro gb252 hg w11 hbox hb;have n0_:=aK (bB (bX BK251.out) hb);have n1_:=aK (below_step (bW HB.out) hb);have n2_:=aK (hbox);have n3_:=aK ((by rw [hg];exact (below_size (bW HB.out)) : w.heap.size ≤ gb252));have n4_:=aK ((by rw [hg];exact (below_size (bW HB.out)) : w.heap.size ≤ gb252));have n5_:=aK ((by rw [hg];exact Nat.ne_of_lt (blk_lt (bX BK251.out)) : gb251 ≠ gb252));have n6_:=aK ((by rw [hg];exact Nat.ne_of_gt (blk_lt (bX BK251.out)) : gb252 ≠ gb251));clear BK251;clear HB;have BK251:=n0_;have HB:=n1_;have BK252:=n2_;have GW252:=n3_;have GE252:=n4_;have NB251_252:=n5_;have NB252_251:=n6_;clear n0_ n1_ n2_ n3_ n4_ n5_ n6_;clear hb hbox hg)|((with_reducible refine gate_dst (N:=5) rfl ?_);refine box_event ?hg (N:=5) ?hd (cs:=#[.int .i64 a2_0,.int .i64 a2_1]) (t:=52) ?hr ?_;(case hd=>rfl);(case hg=>rfl);(case hr=>first|(go_simp;done)|(go_simp;rfl));intro gb253 hg w12 hbox hb;have n0_:=aK (bB (bX BK251.out) hb);have n1_:=aK (bB (bX BK252.out) hb);have n2_:=aK (below_step (bW HB.out) hb);have n3_:=aK (hbox);have n4_:=aK ((by rw [hg];exact (below_size (bW HB.out)) : w.heap.size ≤ gb253));have n5_:=aK ((by rw [hg];exact (below_size (bW HB.out)) : w.heap.size ≤ gb253));have n6_:=aK ((by rw [hg];exact Nat.ne_of_lt (blk_lt (bX BK251.out)) : gb251 ≠ gb253));have n7_:=aK ((by rw [hg];exact Nat.ne_of_gt (blk_lt (bX BK251.out)) : gb253 ≠ gb251));have n8_:=aK ((by rw [hg];exact Nat.ne_of_lt (blk_lt (bX BK252.out)) : gb252 ≠ gb253));have n9_:=aK ((by rw [hg];exact Nat.ne_of_gt (blk_lt (bX BK252.out)) : gb253 ≠ gb252));clear BK251;clear BK252;clear HB;have BK251:=n0_;have BK252:=n1_;have HB:=n2_;have BK253:=n3_;have GW253:=n4_;have GE253:=n5_;have NB251_253:=n6_;have NB253_251:=n7_;have NB252_253:=n8_;have NB253_252:=n9_;clear n0_ n1_ n2_ n3_ n4_ n5_ n6_ n7_ n8_ n9_;clear hb hbox hg))
   have n0_:=aK (bD BK251.out)
   have n1_:=aK (bD BK252.out)
   have n2_:=aK (bD BK253.out)
   have n3_:=aK (b1 HB.out)
   clear BK251
   clear BK252
   clear BK253
   clear HB
   have BK251:=n0_
   have BK252:=n1_
   have BK253:=n2_
   have HB:=n3_
   clear n0_ n1_ n2_ n3_
   refine start_ (n:=17) (S:=fun w'=>w'.cell? ⟨gb251,0,none⟩ = some (.slice A0_0 l0_0.length c0_0) ∧ w'.cell? ⟨gb252,0,none⟩ = some (.int .i64 a1_0) ∧ w'.cell? ⟨gb252,1,none⟩ = some (.int .i64 a1_1) ∧ w'.cell? ⟨gb252,2,none⟩ = some (.slice A1_2 l1_2.length c1_2) ∧ w'.cell? ⟨gb253,0,none⟩ = some (.int .i64 a2_0) ∧ w'.cell? ⟨gb253,1,none⟩ = some (.int .i64 a2_1)) (ds:=[]) #[false,false,false,false,false,false,false,false,false,false,false,false,false,false,false,false,false] (by kernel_rfl) rfl rfl ⟨(bC BK251.out 0).trans rfl,(bC BK252.out 0).trans rfl,(bC BK252.out 1).trans rfl,(bC BK252.out 2).trans rfl,(bC BK253.out 0).trans rfl,(bC BK253.out 1).trans rfl⟩ (fun hHeld=>?_);refine with_tabW spec_IsClaim.tab1 spec_IsClaim.bits1 (fun HT_ HW_=>?_)
   generalize w12.drew = w13 at BK251 BK252 BK253 HB hHeld ⊢
   refine take_ (i:=0) (N:=some 7) (v:=?_) (a':=?_) #[true,false,false,false,false,false,false,false,false,false,false,false,false,false,false,false,false] rfl rfl (take_ofW HT_.out HW_.out (by kernel_rfl)) (fun _ _ _ h=>h) (Or.inl ⟨by rfl,?_⟩) hHeld ?_ ?_
   rotate_left
   ·rintro w' ⟨s0,s1,s2,s3,s4,s5⟩
    go_simp
    with_reducible rfl
   rotate_left
   ·simp only [Act.put,lA,l0',lS,i64_w,i32_w]
    rfl
   refine take_ (i:=1) (N:=some 8) (v:=?_) (a':=?_) #[true,true,false,false,false,false,false,false,false,false,false,false,false,false,false,false,false] rfl rfl (take_ofW HT_.out HW_.out (by kernel_rfl)) (fun _ _ _ h=>h) (Or.inl ⟨by rfl,?_⟩) hHeld ?_ ?_
   rotate_left
   ·rintro w' ⟨s0,s1,s2,s3,s4,s5⟩
    go_simp
    with_reducible rfl
   rotate_left
   ·simp only [Act.put,lA,l0',lS,i64_w,i32_w]
    rfl
   refine one_ (i:=2) (N:=some 9) #[true,true,true,false,false,false,false,false,false,false,false,false,false,false,false,false,false] rfl rfl (one_of HT_.out (by kernel_rfl)) (by decide) (fun K hK=>?_)
   refine goes_ Try.func111 (by kernel_rfl) rfl #[.agg #[.slice A0_0 l0_0.length c0_0],.agg #[.int .i64 a1_0,.int .i64 a1_1,.slice A1_2 l1_2.length c1_2]] (by rfl) rfl rfl (by (try simp only [mA,mC,mN]);first|done|rfl) ?_
   with_reducible refine (spec_l09Even.calls k _ _ l0_0 a1_0 a1_1 _ _ l1_2 true _ ?side1 ?side2 ?side3 ?side4 A4.out).mono ?_
   (case side1=>repeat (first|exact (Kd.C_below HR0_0.out HB.out)|(with_reducible refine Kd.C_alloc ?_ _)|(with_reducible refine Kd.C_drewN ?_ _)|(with_reducible refine Kd.C_drew ?_)))
   (case side2=>exact HC0_0.out)
   (case side3=>repeat (first|exact (Kd.C_below HR1_2.out HB.out)|(with_reducible refine Kd.C_alloc ?_ _)|(with_reducible refine Kd.C_drewN ?_ _)|(with_reducible refine Kd.C_drew ?_)))
   (case side4=>exact HC1_2.out)
   rintro e w14 ⟨rfl,hb⟩
   refine ⟨_,rfl,?_⟩
   have n0_:=aK (bB (bX BK251.out) hb)
   have n1_:=aK (bB (bX BK252.out) hb)
   have n2_:=aK (bB (bX BK253.out) hb)
   have n3_:=aK (below_step (bW HB.out) hb)
   clear BK251
   clear BK252
   clear BK253
   clear HB
   have BK251:=n0_
   have BK252:=n1_
   have BK253:=n2_
   have HB:=n3_
   clear n0_ n1_ n2_ n3_
   (try clear hb)
   (try clear hb2)
   (try clear hk)
   (try clear hi)
   refine hK.out _ _ ⟨(bC BK251.out 0).trans rfl,(bC BK252.out 0).trans rfl,(bC BK252.out 1).trans rfl,(bC BK252.out 2).trans rfl,(bC BK253.out 0).trans rfl,(bC BK253.out 1).trans rfl⟩ (fun hHeld=>?_)
   clear hK K
   refine norm_ (a':=?_) ?_ ?_
   rotate_left
   ·show Act.put _ (some 9) _ = _
    simp only [Act.put,lA,l0',lS,i64_w,i32_w]
    rfl
   refine pure_ (i:=3) (N:=some 10) (v:=?_) (a':=?_) #[true,true,true,true,false,false,false,false,false,false,false,false,false,false,false,false,false] rfl rfl (any_of HT_.out (by kernel_rfl)) (fun _ _ _ h=>h) (Or.inl ⟨by rfl,?_⟩) ?_ ?_
   rotate_left
   ·intro w'
    go_simp
    with_reducible rfl
   rotate_left
   ·simp only [Act.put,lA,l0',lS,i64_w,i32_w]
    rfl
   refine pure_ (i:=4) (N:=some 11) (v:=?_) (a':=?_) #[true,true,true,true,true,false,false,false,false,false,false,false,false,false,false,false,false] rfl rfl (any_of HT_.out (by kernel_rfl)) (fun _ _ _ h=>h) (Or.inl ⟨by rfl,?_⟩) ?_ ?_
   rotate_left
   ·intro w'
    go_simp
    with_reducible rfl
   rotate_left
   ·simp only [Act.put,lA,l0',lS,i64_w,i32_w]
    rfl
   refine take_ (i:=5) (N:=some 12) (v:=?_) (a':=?_) #[true,true,true,true,true,true,false,false,false,false,false,false,false,false,false,false,false] rfl rfl (take_ofW HT_.out HW_.out (by kernel_rfl)) (fun _ _ _ h=>h) (Or.inl ⟨by rfl,?_⟩) hHeld ?_ ?_
   rotate_left
   ·rintro w' ⟨s0,s1,s2,s3,s4,s5⟩
    go_simp
    with_reducible rfl
   rotate_left
   ·simp only [Act.put,lA,l0',lS,i64_w,i32_w]
    rfl
   refine one_ (i:=6) (N:=some 13) #[true,true,true,true,true,true,true,false,false,false,false,false,false,false,false,false,false] rfl rfl (one_of HT_.out (by kernel_rfl)) (by decide) (fun K hK=>?_)
   refine goes_ Try.func83 (by kernel_rfl) rfl #[.int .i64 a2_0,.int .i64 0,.int .i64 3] (by rfl) rfl rfl (by (try simp only [mA,mC,mN]);first|done|rfl) ?_
   with_reducible refine (spec_l01In.calls a2_0 0 3 true _ A6.out).mono ?_
   rintro e w' ⟨rfl,⟨nd,rfl⟩⟩
   refine ⟨_,rfl,?_⟩
   refine hK.out _ _ ⟨(bC BK251.out 0).trans rfl,(bC BK252.out 0).trans rfl,(bC BK252.out 1).trans rfl,(bC BK252.out 2).trans rfl,(bC BK253.out 0).trans rfl,(bC BK253.out 1).trans rfl⟩ (fun hHeld=>?_)
   clear hK K
   refine norm_ (a':=?_) ?_ ?_
   rotate_left
   ·show Act.put _ (some 13) _ = _
    simp only [Act.put,lA,l0',lS,i64_w,i32_w]
    rfl
   refine pure_ (i:=7) (N:=some 14) (v:=?_) (a':=?_) #[true,true,true,true,true,true,true,true,false,false,false,false,false,false,false,false,false] rfl rfl (any_of HT_.out (by kernel_rfl)) (fun _ _ _ h=>h) (Or.inl ⟨by rfl,?_⟩) ?_ ?_
   rotate_left
   ·intro w'
    go_simp
    with_reducible rfl
   rotate_left
   ·simp only [Act.put,lA,l0',lS,i64_w,i32_w]
    rfl
   refine pure_ (i:=8) (N:=some 15) (v:=?_) (a':=?_) #[true,true,true,true,true,true,true,true,true,false,false,false,false,false,false,false,false] rfl rfl (any_of HT_.out (by kernel_rfl)) (fun _ _ _ h=>h) (Or.inl ⟨by rfl,?_⟩) ?_ ?_
   rotate_left
   ·intro w'
    go_simp
    with_reducible rfl
   rotate_left
   ·simp only [Act.put,lA,l0',lS,i64_w,i32_w]
    rfl
   refine pure_ (i:=9) (N:=some 16) (v:=?_) (a':=?_) #[true,true,true,true,true,true,true,true,true,true,false,false,false,false,false,false,false] rfl rfl (any_of HT_.out (by kernel_rfl)) (fun _ _ _ h=>h) (Or.inl ⟨by rfl,?_⟩) ?_ ?_
   rotate_left
   ·intro w'
    go_simp
    with_reducible rfl
   rotate_left
   ·simp only [Act.put,lA,l0',lS,i64_w,i32_w]
    rfl
   refine take_ (i:=10) (N:=some 17) (v:=?_) (a':=?_) #[true,true,true,true,true,true,true,true,true,true,true,false,false,false,false,false,false] rfl rfl (take_ofW HT_.out HW_.out (by kernel_rfl)) (fun _ _ _ h=>h) (Or.inl ⟨by rfl,?_⟩) hHeld ?_ ?_
   rotate_left
   ·rintro w' ⟨s0,s1,s2,s3,s4,s5⟩
    go_simp
    with_reducible rfl
   rotate_left
   ·simp only [Act.put,lA,l0',lS,i64_w,i32_w]
    rfl
   refine take_ (i:=11) (N:=some 18) (v:=?_) (a':=?_) #[true,true,true,true,true,true,true,true,true,true,true,true,false,false,false,false,false] rfl rfl (take_ofW HT_.out HW_.out (by kernel_rfl)) (fun _ _ _ h=>h) (Or.inl ⟨by rfl,?_⟩) hHeld ?_ ?_
   rotate_left
   ·rintro w' ⟨s0,s1,s2,s3,s4,s5⟩
    go_simp
    with_reducible rfl
   rotate_left
   ·simp only [Act.put,lA,l0',lS,i64_w,i32_w]
    rfl
   refine take_ (i:=12) (N:=some 19) (v:=?_) (a':=?_) #[true,true,true,true,true,true,true,true,true,true,true,true,true,false,false,false,false] rfl rfl (take_ofW HT_.out HW_.out (by kernel_rfl)) (fun _ _ _ h=>h) (Or.inl ⟨by rfl,?_⟩) hHeld ?_ ?_
   rotate_left
   ·rintro w' ⟨s0,s1,s2,s3,s4,s5⟩
    go_simp
    with_reducible rfl
   rotate_left
   ·simp only [Act.put,lA,l0',lS,i64_w,i32_w]
    rfl
   refine one_ (i:=13) (N:=some 20) #[true,true,true,true,true,true,true,true,true,true,true,true,true,true,false,false,false] rfl rfl (one_of HT_.out (by kernel_rfl)) (by decide) (fun K hK=>?_)
   refine goes_ Try.func112 (by kernel_rfl) rfl #[.agg #[.slice A0_0 l0_0.length c0_0],.agg #[.int .i64 a1_0,.int .i64 a1_1,.slice A1_2 l1_2.length c1_2]] (by rfl) rfl rfl (by (try simp only [mA,mC,mN]);first|done|rfl) ?_
   with_reducible refine (spec_l09Rest.calls _ _ l0_0 a1_0 a1_1 _ _ l1_2 t256 _ ?side1 ?side2 ?side3 ?side4 A8.out).mono ?_
   (case side1=>repeat (first|exact (Kd.C_below HR0_0.out (bW HB.out))|(with_reducible refine Kd.C_alloc ?_ _)|(with_reducible refine Kd.C_drewN ?_ _)|(with_reducible refine Kd.C_drew ?_)))
   (case side2=>exact HC0_0.out)
   (case side3=>repeat (first|exact (Kd.C_below HR1_2.out (bW HB.out))|(with_reducible refine Kd.C_alloc ?_ _)|(with_reducible refine Kd.C_drewN ?_ _)|(with_reducible refine Kd.C_drew ?_)))
   (case side4=>exact HC1_2.out)
   rintro e w15 ⟨rfl,hb⟩
   refine ⟨_,rfl,?_⟩
   have n0_:=aK (bB (bX BK251.out) hb)
   have n1_:=aK (bB (bX BK252.out) hb)
   have n2_:=aK (bB (bX BK253.out) hb)
   have n3_:=aK (below_step (bW HB.out) hb)
   clear BK251
   clear BK252
   clear BK253
   clear HB
   have BK251:=n0_
   have BK252:=n1_
   have BK253:=n2_
   have HB:=n3_
   clear n0_ n1_ n2_ n3_
   (try clear hb)
   (try clear hb2)
   (try clear hk)
   (try clear hi)
   refine hK.out _ _ ⟨(bC BK251.out 0).trans rfl,(bC BK252.out 0).trans rfl,(bC BK252.out 1).trans rfl,(bC BK252.out 2).trans rfl,(bC BK253.out 0).trans rfl,(bC BK253.out 1).trans rfl⟩ (fun hHeld=>?_)
   clear hK K
   refine norm_ (a':=?_) ?_ ?_
   rotate_left
   ·show Act.put _ (some 20) _ = _
    simp only [Act.put,lA,l0',lS,i64_w,i32_w]
    rfl
   refine one_ (i:=14) (N:=some 21) #[true,true,true,true,true,true,true,true,true,true,true,true,true,true,true,false,false] rfl rfl (one_of HT_.out (by kernel_rfl)) (by decide) (fun K hK=>?_)
   refine goes_ Try.func83 (by kernel_rfl) rfl #[.int .i64 a2_1,.int .i64 0,.int .i64 t256] (by rfl) rfl rfl (by (try simp only [mA,mC,mN]);first|done|rfl) ?_
   with_reducible refine (spec_l01In.calls a2_1 0 t256 t257 _ A9.out).mono ?_
   rintro e w' ⟨rfl,⟨nd,rfl⟩⟩
   refine ⟨_,rfl,?_⟩
   refine hK.out _ _ ⟨(bC BK251.out 0).trans rfl,(bC BK252.out 0).trans rfl,(bC BK252.out 1).trans rfl,(bC BK252.out 2).trans rfl,(bC BK253.out 0).trans rfl,(bC BK253.out 1).trans rfl⟩ (fun hHeld=>?_)
   clear hK K
   refine norm_ (a':=?_) ?_ ?_
   rotate_left
   ·show Act.put _ (some 21) _ = _
    simp only [Act.put,lA,l0',lS,i64_w,i32_w]
    rfl
   refine pure_ (i:=15) (N:=some 22) (v:=?_) (a':=?_) #[true,true,true,true,true,true,true,true,true,true,true,true,true,true,true,true,false] rfl rfl (any_of HT_.out (by kernel_rfl)) (fun _ _ _ h=>h) (Or.inl ⟨by rfl,?_⟩) ?_ ?_
   rotate_left
   ·intro w'
    go_simp
    with_reducible rfl
   rotate_left
   ·simp only [Act.put,lA,l0',lS,i64_w,i32_w]
    rfl
   refine pure_ (i:=16) (N:=some 6) (v:=?_) (a':=?_) #[true,true,true,true,true,true,true,true,true,true,true,true,true,true,true,true,true] rfl rfl (any_of HT_.out (by kernel_rfl)) (fun _ _ _ h=>h) (Or.inl ⟨by rfl,?_⟩) ?_ ?_
   rotate_left
   ·intro w'
    go_simp
    with_reducible rfl
   rotate_left
   ·simp only [Act.put,lA,l0',lS,i64_w,i32_w]
    rfl
   refine done_ (done_of HT_.out (by kernel_rfl)) ?_
   try go_wp2
   go_ret
   exact ⟨by first|rfl|(simp [errW_none,errW_some] <;> rfl)|(simp [*,errW_none,errW_some] <;> rfl),bW HB.out⟩
  ·replace c7:=Bool.eq_false_iff.mpr c7
   subst c7
   have H1 : (some false) = some r:=by rw [if_neg (show ¬ (false = true) by decide)] at H;exact H
   clear H
   have H:=H1
   clear H1
   obtain rfl:=Option.some.inj H
   go_enter Try.func49,Try.ntmps49
   try go_wp2_with (first|((with_reducible refine gate_dst (N:=3) rfl ?_);refine box_event ?hg (N:=3) ?hd (cs:=#[.slice A0_0 l0_0.length c0_0]) (t:=44) ?hr ?_;(case hd=>rfl);(case hg=>rfl);(case hr=>first|(go_simp;done)|(go_simp;rfl));intro gb251 hg w16 hbox hb;have n0_:=aK (below_step (bW HB.out) hb);have n1_:=aK (hbox);have n2_:=aK ((by rw [hg];exact (below_size (bW HB.out)) : w.heap.size ≤ gb251));have n3_:=aK ((by rw [hg];exact (below_size (bW HB.out)) : w.heap.size ≤ gb251));clear HB;have HB:=n0_;have BK251:=n1_;have GW251:=n2_;have GE251:=n3_;clear n0_ n1_ n2_ n3_;clear hb hbox hg)|((with_reducible refine gate_dst (N:=4) rfl ?_);refine box_event ?hg (N:=4) ?hd (cs:=#[.int .i64 a1_0,.int .i64 a1_1,.slice A1_2 l1_2.length c1_2]) (t:=27) ?hr ?_;(case hd=>rfl);(case hg=>rfl);(case hr=>first|(go_simp;done)|(go_simp;rfl));intro gb252 hg w17 hbox hb;have n0_:=aK (bB (bX BK251.out) hb);have n1_:=aK (below_step (bW HB.out) hb);have n2_:=aK (hbox);have n3_:=aK ((by rw [hg];exact (below_size (bW HB.out)) : w.heap.size ≤ gb252));have n4_:=aK ((by rw [hg];exact (below_size (bW HB.out)) : w.heap.size ≤ gb252));have n5_:=aK ((by rw [hg];exact Nat.ne_of_lt (blk_lt (bX BK251.out)) : gb251 ≠ gb252));have n6_:=aK ((by rw [hg];exact Nat.ne_of_gt (blk_lt (bX BK251.out)) : gb252 ≠ gb251));clear BK251;clear HB;have BK251:=n0_;have HB:=n1_;have BK252:=n2_;have GW252:=n3_;have GE252:=n4_;have NB251_252:=n5_;have NB252_251:=n6_;clear n0_ n1_ n2_ n3_ n4_ n5_ n6_;clear hb hbox hg)|((with_reducible refine gate_dst (N:=5) rfl ?_);refine box_event ?hg (N:=5) ?hd (cs:=#[.int .i64 a2_0,.int .i64 a2_1]) (t:=52) ?hr ?_;(case hd=>rfl);(case hg=>rfl);(case hr=>first|(go_simp;done)|(go_simp;rfl));intro gb253 hg w18 hbox hb;have n0_:=aK (bB (bX BK251.out) hb);have n1_:=aK (bB (bX BK252.out) hb);have n2_:=aK (below_step (bW HB.out) hb);have n3_:=aK (hbox);have n4_:=aK ((by rw [hg];exact (below_size (bW HB.out)) : w.heap.size ≤ gb253));have n5_:=aK ((by rw [hg];exact (below_size (bW HB.out)) : w.heap.size ≤ gb253));have n6_:=aK ((by rw [hg];exact Nat.ne_of_lt (blk_lt (bX BK251.out)) : gb251 ≠ gb253));have n7_:=aK ((by rw [hg];exact Nat.ne_of_gt (blk_lt (bX BK251.out)) : gb253 ≠ gb251));have n8_:=aK ((by rw [hg];exact Nat.ne_of_lt (blk_lt (bX BK252.out)) : gb252 ≠ gb253));have n9_:=aK ((by rw [hg];exact Nat.ne_of_gt (blk_lt (bX BK252.out)) : gb253 ≠ gb252));clear BK251;clear BK252;clear HB;have BK251:=n0_;have BK252:=n1_;have HB:=n2_;have BK253:=n3_;have GW253:=n4_;have GE253:=n5_;have NB251_253:=n6_;have NB253_251:=n7_;have NB252_253:=n8_;have NB253_252:=n9_;clear n0_ n1_ n2_ n3_ n4_ n5_ n6_ n7_ n8_ n9_;clear hb hbox hg))
   have n0_:=aK (bD BK251.out)
   have n1_:=aK (bD BK252.out)
   have n2_:=aK (bD BK253.out)
   have n3_:=aK (b1 HB.out)
   clear BK251
   clear BK252
   clear BK253
   clear HB
   have BK251:=n0_
   have BK252:=n1_
   have BK253:=n2_
   have HB:=n3_
   clear n0_ n1_ n2_ n3_
   refine start_ (n:=17) (S:=fun w'=>w'.cell? ⟨gb251,0,none⟩ = some (.slice A0_0 l0_0.length c0_0) ∧ w'.cell? ⟨gb252,0,none⟩ = some (.int .i64 a1_0) ∧ w'.cell? ⟨gb252,1,none⟩ = some (.int .i64 a1_1) ∧ w'.cell? ⟨gb252,2,none⟩ = some (.slice A1_2 l1_2.length c1_2) ∧ w'.cell? ⟨gb253,0,none⟩ = some (.int .i64 a2_0) ∧ w'.cell? ⟨gb253,1,none⟩ = some (.int .i64 a2_1)) (ds:=[]) #[false,false,false,false,false,false,false,false,false,false,false,false,false,false,false,false,false] (by kernel_rfl) rfl rfl ⟨(bC BK251.out 0).trans rfl,(bC BK252.out 0).trans rfl,(bC BK252.out 1).trans rfl,(bC BK252.out 2).trans rfl,(bC BK253.out 0).trans rfl,(bC BK253.out 1).trans rfl⟩ (fun hHeld=>?_);refine with_tabW spec_IsClaim.tab1 spec_IsClaim.bits1 (fun HT_ HW_=>?_)
   generalize w18.drew = w19 at BK251 BK252 BK253 HB hHeld ⊢
   refine take_ (i:=0) (N:=some 7) (v:=?_) (a':=?_) #[true,false,false,false,false,false,false,false,false,false,false,false,false,false,false,false,false] rfl rfl (take_ofW HT_.out HW_.out (by kernel_rfl)) (fun _ _ _ h=>h) (Or.inl ⟨by rfl,?_⟩) hHeld ?_ ?_
   rotate_left
   ·rintro w' ⟨s0,s1,s2,s3,s4,s5⟩
    go_simp
    with_reducible rfl
   rotate_left
   ·simp only [Act.put,lA,l0',lS,i64_w,i32_w]
    rfl
   refine take_ (i:=1) (N:=some 8) (v:=?_) (a':=?_) #[true,true,false,false,false,false,false,false,false,false,false,false,false,false,false,false,false] rfl rfl (take_ofW HT_.out HW_.out (by kernel_rfl)) (fun _ _ _ h=>h) (Or.inl ⟨by rfl,?_⟩) hHeld ?_ ?_
   rotate_left
   ·rintro w' ⟨s0,s1,s2,s3,s4,s5⟩
    go_simp
    with_reducible rfl
   rotate_left
   ·simp only [Act.put,lA,l0',lS,i64_w,i32_w]
    rfl
   refine one_ (i:=2) (N:=some 9) #[true,true,true,false,false,false,false,false,false,false,false,false,false,false,false,false,false] rfl rfl (one_of HT_.out (by kernel_rfl)) (by decide) (fun K hK=>?_)
   refine goes_ Try.func111 (by kernel_rfl) rfl #[.agg #[.slice A0_0 l0_0.length c0_0],.agg #[.int .i64 a1_0,.int .i64 a1_1,.slice A1_2 l1_2.length c1_2]] (by rfl) rfl rfl (by (try simp only [mA,mC,mN]);first|done|rfl) ?_
   with_reducible refine (spec_l09Even.calls k _ _ l0_0 a1_0 a1_1 _ _ l1_2 true _ ?side1 ?side2 ?side3 ?side4 A4.out).mono ?_
   (case side1=>repeat (first|exact (Kd.C_below HR0_0.out HB.out)|(with_reducible refine Kd.C_alloc ?_ _)|(with_reducible refine Kd.C_drewN ?_ _)|(with_reducible refine Kd.C_drew ?_)))
   (case side2=>exact HC0_0.out)
   (case side3=>repeat (first|exact (Kd.C_below HR1_2.out HB.out)|(with_reducible refine Kd.C_alloc ?_ _)|(with_reducible refine Kd.C_drewN ?_ _)|(with_reducible refine Kd.C_drew ?_)))
   (case side4=>exact HC1_2.out)
   rintro e w20 ⟨rfl,hb⟩
   refine ⟨_,rfl,?_⟩
   have n0_:=aK (bB (bX BK251.out) hb)
   have n1_:=aK (bB (bX BK252.out) hb)
   have n2_:=aK (bB (bX BK253.out) hb)
   have n3_:=aK (below_step (bW HB.out) hb)
   clear BK251
   clear BK252
   clear BK253
   clear HB
   have BK251:=n0_
   have BK252:=n1_
   have BK253:=n2_
   have HB:=n3_
   clear n0_ n1_ n2_ n3_
   (try clear hb)
   (try clear hb2)
   (try clear hk)
   (try clear hi)
   refine hK.out _ _ ⟨(bC BK251.out 0).trans rfl,(bC BK252.out 0).trans rfl,(bC BK252.out 1).trans rfl,(bC BK252.out 2).trans rfl,(bC BK253.out 0).trans rfl,(bC BK253.out 1).trans rfl⟩ (fun hHeld=>?_)
   clear hK K
   refine norm_ (a':=?_) ?_ ?_
   rotate_left
   ·show Act.put _ (some 9) _ = _
    simp only [Act.put,lA,l0',lS,i64_w,i32_w]
    rfl
   refine pure_ (i:=3) (N:=some 10) (v:=?_) (a':=?_) #[true,true,true,true,false,false,false,false,false,false,false,false,false,false,false,false,false] rfl rfl (any_of HT_.out (by kernel_rfl)) (fun _ _ _ h=>h) (Or.inl ⟨by rfl,?_⟩) ?_ ?_
   rotate_left
   ·intro w'
    go_simp
    with_reducible rfl
   rotate_left
   ·simp only [Act.put,lA,l0',lS,i64_w,i32_w]
    rfl
   refine pure_ (i:=4) (N:=some 11) (v:=?_) (a':=?_) #[true,true,true,true,true,false,false,false,false,false,false,false,false,false,false,false,false] rfl rfl (any_of HT_.out (by kernel_rfl)) (fun _ _ _ h=>h) (Or.inl ⟨by rfl,?_⟩) ?_ ?_
   rotate_left
   ·intro w'
    go_simp
    with_reducible rfl
   rotate_left
   ·simp only [Act.put,lA,l0',lS,i64_w,i32_w]
    rfl
   refine take_ (i:=5) (N:=some 12) (v:=?_) (a':=?_) #[true,true,true,true,true,true,false,false,false,false,false,false,false,false,false,false,false] rfl rfl (take_ofW HT_.out HW_.out (by kernel_rfl)) (fun _ _ _ h=>h) (Or.inl ⟨by rfl,?_⟩) hHeld ?_ ?_
   rotate_left
   ·rintro w' ⟨s0,s1,s2,s3,s4,s5⟩
    go_simp
    with_reducible rfl
   rotate_left
   ·simp only [Act.put,lA,l0',lS,i64_w,i32_w]
    rfl
   refine one_ (i:=6) (N:=some 13) #[true,true,true,true,true,true,true,false,false,false,false,false,false,false,false,false,false] rfl rfl (one_of HT_.out (by kernel_rfl)) (by decide) (fun K hK=>?_)
   refine goes_ Try.func83 (by kernel_rfl) rfl #[.int .i64 a2_0,.int .i64 0,.int .i64 3] (by rfl) rfl rfl (by (try simp only [mA,mC,mN]);first|done|rfl) ?_
   with_reducible refine (spec_l01In.calls a2_0 0 3 false _ A6.out).mono ?_
   rintro e w' ⟨rfl,⟨nd,rfl⟩⟩
   refine ⟨_,rfl,?_⟩
   refine hK.out _ _ ⟨(bC BK251.out 0).trans rfl,(bC BK252.out 0).trans rfl,(bC BK252.out 1).trans rfl,(bC BK252.out 2).trans rfl,(bC BK253.out 0).trans rfl,(bC BK253.out 1).trans rfl⟩ (fun hHeld=>?_)
   clear hK K
   refine norm_ (a':=?_) ?_ ?_
   rotate_left
   ·show Act.put _ (some 13) _ = _
    simp only [Act.put,lA,l0',lS,i64_w,i32_w]
    rfl
   refine pure_ (i:=7) (N:=some 14) (v:=?_) (a':=?_) #[true,true,true,true,true,true,true,true,false,false,false,false,false,false,false,false,false] rfl rfl (any_of HT_.out (by kernel_rfl)) (fun _ _ _ h=>h) (Or.inl ⟨by rfl,?_⟩) ?_ ?_
   rotate_left
   ·intro w'
    go_simp
    with_reducible rfl
   rotate_left
   ·simp only [Act.put,lA,l0',lS,i64_w,i32_w]
    rfl
   refine pure_ (i:=8) (N:=some 15) (v:=?_) (a':=?_) #[true,true,true,true,true,true,true,true,true,false,false,false,false,false,false,false,false] rfl rfl (any_of HT_.out (by kernel_rfl)) (fun _ _ _ h=>h) (Or.inl ⟨by rfl,?_⟩) ?_ ?_
   rotate_left
   ·intro w'
    go_simp
    with_reducible rfl
   rotate_left
   ·simp only [Act.put,lA,l0',lS,i64_w,i32_w]
    rfl
   refine pure_ (i:=9) (N:=some 16) (v:=undef) (a':=?_) #[true,true,true,true,true,true,true,true,true,true,false,false,false,false,false,false,false] rfl rfl (any_of HT_.out (by kernel_rfl)) (fun _ _ _ h=>h) (Or.inr ⟨by rfl,rfl⟩) ?_ ?_
   rotate_left
   ·simp only [Act.put,lA,l0',lS,i64_w,i32_w]
    rfl
   refine pure_ (i:=10) (N:=some 17) (v:=undef) (a':=?_) #[true,true,true,true,true,true,true,true,true,true,true,false,false,false,false,false,false] rfl rfl (any_of HT_.out (by kernel_rfl)) (fun _ _ _ h=>h) (Or.inr ⟨by rfl,rfl⟩) ?_ ?_
   rotate_left
   ·simp only [Act.put,lA,l0',lS,i64_w,i32_w]
    rfl
   refine pure_ (i:=11) (N:=some 18) (v:=undef) (a':=?_) #[true,true,true,true,true,true,true,true,true,true,true,true,false,false,false,false,false] rfl rfl (any_of HT_.out (by kernel_rfl)) (fun _ _ _ h=>h) (Or.inr ⟨by rfl,rfl⟩) ?_ ?_
   rotate_left
   ·simp only [Act.put,lA,l0',lS,i64_w,i32_w]
    rfl
   refine pure_ (i:=12) (N:=some 19) (v:=undef) (a':=?_) #[true,true,true,true,true,true,true,true,true,true,true,true,true,false,false,false,false] rfl rfl (any_of HT_.out (by kernel_rfl)) (fun _ _ _ h=>h) (Or.inr ⟨by rfl,rfl⟩) ?_ ?_
   rotate_left
   ·simp only [Act.put,lA,l0',lS,i64_w,i32_w]
    rfl
   refine pure_ (i:=13) (N:=some 20) (v:=undef) (a':=?_) #[true,true,true,true,true,true,true,true,true,true,true,true,true,true,false,false,false] rfl rfl (any_of HT_.out (by kernel_rfl)) (fun _ _ _ h=>h) (Or.inr ⟨by rfl,rfl⟩) ?_ ?_
   rotate_left
   ·simp only [Act.put,lA,l0',lS,i64_w,i32_w]
    rfl
   refine pure_ (i:=14) (N:=some 21) (v:=undef) (a':=?_) #[true,true,true,true,true,true,true,true,true,true,true,true,true,true,true,false,false] rfl rfl (any_of HT_.out (by kernel_rfl)) (fun _ _ _ h=>h) (Or.inr ⟨by rfl,rfl⟩) ?_ ?_
   rotate_left
   ·simp only [Act.put,lA,l0',lS,i64_w,i32_w]
    rfl
   refine pure_ (i:=15) (N:=some 22) (v:=?_) (a':=?_) #[true,true,true,true,true,true,true,true,true,true,true,true,true,true,true,true,false] rfl rfl (any_of HT_.out (by kernel_rfl)) (fun _ _ _ h=>h) (Or.inl ⟨by rfl,?_⟩) ?_ ?_
   rotate_left
   ·intro w'
    go_simp
    with_reducible rfl
   rotate_left
   ·simp only [Act.put,lA,l0',lS,i64_w,i32_w]
    rfl
   refine pure_ (i:=16) (N:=some 6) (v:=?_) (a':=?_) #[true,true,true,true,true,true,true,true,true,true,true,true,true,true,true,true,true] rfl rfl (any_of HT_.out (by kernel_rfl)) (fun _ _ _ h=>h) (Or.inl ⟨by rfl,?_⟩) ?_ ?_
   rotate_left
   ·intro w'
    go_simp
    with_reducible rfl
   rotate_left
   ·simp only [Act.put,lA,l0',lS,i64_w,i32_w]
    rfl
   refine done_ (done_of HT_.out (by kernel_rfl)) ?_
   try go_wp2
   go_ret
   exact ⟨by first|rfl|(simp [errW_none,errW_some] <;> rfl)|(simp [*,errW_none,errW_some] <;> rfl),bW HB.out⟩
 ·replace c5:=Bool.eq_false_iff.mpr c5
  subst c5
  have H1 : (some false) = some r:=by rw [if_neg (show ¬ (false = true) by decide)] at H;exact H
  clear H
  have H:=H1
  clear H1
  obtain rfl:=Option.some.inj H
  go_enter Try.func49,Try.ntmps49
  try go_wp2_with (first|((with_reducible refine gate_dst (N:=3) rfl ?_);refine box_event ?hg (N:=3) ?hd (cs:=#[.slice A0_0 l0_0.length c0_0]) (t:=44) ?hr ?_;(case hd=>rfl);(case hg=>rfl);(case hr=>first|(go_simp;done)|(go_simp;rfl));intro gb251 hg w21 hbox hb;have n0_:=aK (below_step (bW HB.out) hb);have n1_:=aK (hbox);have n2_:=aK ((by rw [hg];exact (below_size (bW HB.out)) : w.heap.size ≤ gb251));have n3_:=aK ((by rw [hg];exact (below_size (bW HB.out)) : w.heap.size ≤ gb251));clear HB;have HB:=n0_;have BK251:=n1_;have GW251:=n2_;have GE251:=n3_;clear n0_ n1_ n2_ n3_;clear hb hbox hg)|((with_reducible refine gate_dst (N:=4) rfl ?_);refine box_event ?hg (N:=4) ?hd (cs:=#[.int .i64 a1_0,.int .i64 a1_1,.slice A1_2 l1_2.length c1_2]) (t:=27) ?hr ?_;(case hd=>rfl);(case hg=>rfl);(case hr=>first|(go_simp;done)|(go_simp;rfl));intro gb252 hg w22 hbox hb;have n0_:=aK (bB (bX BK251.out) hb);have n1_:=aK (below_step (bW HB.out) hb);have n2_:=aK (hbox);have n3_:=aK ((by rw [hg];exact (below_size (bW HB.out)) : w.heap.size ≤ gb252));have n4_:=aK ((by rw [hg];exact (below_size (bW HB.out)) : w.heap.size ≤ gb252));have n5_:=aK ((by rw [hg];exact Nat.ne_of_lt (blk_lt (bX BK251.out)) : gb251 ≠ gb252));have n6_:=aK ((by rw [hg];exact Nat.ne_of_gt (blk_lt (bX BK251.out)) : gb252 ≠ gb251));clear BK251;clear HB;have BK251:=n0_;have HB:=n1_;have BK252:=n2_;have GW252:=n3_;have GE252:=n4_;have NB251_252:=n5_;have NB252_251:=n6_;clear n0_ n1_ n2_ n3_ n4_ n5_ n6_;clear hb hbox hg)|((with_reducible refine gate_dst (N:=5) rfl ?_);refine box_event ?hg (N:=5) ?hd (cs:=#[.int .i64 a2_0,.int .i64 a2_1]) (t:=52) ?hr ?_;(case hd=>rfl);(case hg=>rfl);(case hr=>first|(go_simp;done)|(go_simp;rfl));intro gb253 hg w23 hbox hb;have n0_:=aK (bB (bX BK251.out) hb);have n1_:=aK (bB (bX BK252.out) hb);have n2_:=aK (below_step (bW HB.out) hb);have n3_:=aK (hbox);have n4_:=aK ((by rw [hg];exact (below_size (bW HB.out)) : w.heap.size ≤ gb253));have n5_:=aK ((by rw [hg];exact (below_size (bW HB.out)) : w.heap.size ≤ gb253));have n6_:=aK ((by rw [hg];exact Nat.ne_of_lt (blk_lt (bX BK251.out)) : gb251 ≠ gb253));have n7_:=aK ((by rw [hg];exact Nat.ne_of_gt (blk_lt (bX BK251.out)) : gb253 ≠ gb251));have n8_:=aK ((by rw [hg];exact Nat.ne_of_lt (blk_lt (bX BK252.out)) : gb252 ≠ gb253));have n9_:=aK ((by rw [hg];exact Nat.ne_of_gt (blk_lt (bX BK252.out)) : gb253 ≠ gb252));clear BK251;clear BK252;clear HB;have BK251:=n0_;have BK252:=n1_;have HB:=n2_;have BK253:=n3_;have GW253:=n4_;have GE253:=n5_;have NB251_253:=n6_;have NB253_251:=n7_;have NB252_253:=n8_;have NB253_252:=n9_;clear n0_ n1_ n2_ n3_ n4_ n5_ n6_ n7_ n8_ n9_;clear hb hbox hg))
  have n0_:=aK (bD BK251.out)
  have n1_:=aK (bD BK252.out)
  have n2_:=aK (bD BK253.out)
  have n3_:=aK (b1 HB.out)
  clear BK251
  clear BK252
  clear BK253
  clear HB
  have BK251:=n0_
  have BK252:=n1_
  have BK253:=n2_
  have HB:=n3_
  clear n0_ n1_ n2_ n3_
  refine start_ (n:=17) (S:=fun w'=>w'.cell? ⟨gb251,0,none⟩ = some (.slice A0_0 l0_0.length c0_0) ∧ w'.cell? ⟨gb252,0,none⟩ = some (.int .i64 a1_0) ∧ w'.cell? ⟨gb252,1,none⟩ = some (.int .i64 a1_1) ∧ w'.cell? ⟨gb252,2,none⟩ = some (.slice A1_2 l1_2.length c1_2)) (ds:=[]) #[false,false,false,false,false,false,false,false,false,false,false,false,false,false,false,false,false] (by kernel_rfl) rfl rfl ⟨(bC BK251.out 0).trans rfl,(bC BK252.out 0).trans rfl,(bC BK252.out 1).trans rfl,(bC BK252.out 2).trans rfl⟩ (fun hHeld=>?_);refine with_tabW spec_IsClaim.tab1 spec_IsClaim.bits1 (fun HT_ HW_=>?_)
  generalize w23.drew = w24 at BK251 BK252 BK253 HB hHeld ⊢
  refine take_ (i:=0) (N:=some 7) (v:=?_) (a':=?_) #[true,false,false,false,false,false,false,false,false,false,false,false,false,false,false,false,false] rfl rfl (take_ofW HT_.out HW_.out (by kernel_rfl)) (fun _ _ _ h=>h) (Or.inl ⟨by rfl,?_⟩) hHeld ?_ ?_
  rotate_left
  ·rintro w' ⟨s0,s1,s2,s3⟩
   go_simp
   with_reducible rfl
  rotate_left
  ·simp only [Act.put,lA,l0',lS,i64_w,i32_w]
   rfl
  refine take_ (i:=1) (N:=some 8) (v:=?_) (a':=?_) #[true,true,false,false,false,false,false,false,false,false,false,false,false,false,false,false,false] rfl rfl (take_ofW HT_.out HW_.out (by kernel_rfl)) (fun _ _ _ h=>h) (Or.inl ⟨by rfl,?_⟩) hHeld ?_ ?_
  rotate_left
  ·rintro w' ⟨s0,s1,s2,s3⟩
   go_simp
   with_reducible rfl
  rotate_left
  ·simp only [Act.put,lA,l0',lS,i64_w,i32_w]
   rfl
  refine one_ (i:=2) (N:=some 9) #[true,true,true,false,false,false,false,false,false,false,false,false,false,false,false,false,false] rfl rfl (one_of HT_.out (by kernel_rfl)) (by decide) (fun K hK=>?_)
  refine goes_ Try.func111 (by kernel_rfl) rfl #[.agg #[.slice A0_0 l0_0.length c0_0],.agg #[.int .i64 a1_0,.int .i64 a1_1,.slice A1_2 l1_2.length c1_2]] (by rfl) rfl rfl (by (try simp only [mA,mC,mN]);first|done|rfl) ?_
  with_reducible refine (spec_l09Even.calls k _ _ l0_0 a1_0 a1_1 _ _ l1_2 false _ ?side1 ?side2 ?side3 ?side4 A4.out).mono ?_
  (case side1=>repeat (first|exact (Kd.C_below HR0_0.out HB.out)|(with_reducible refine Kd.C_alloc ?_ _)|(with_reducible refine Kd.C_drewN ?_ _)|(with_reducible refine Kd.C_drew ?_)))
  (case side2=>exact HC0_0.out)
  (case side3=>repeat (first|exact (Kd.C_below HR1_2.out HB.out)|(with_reducible refine Kd.C_alloc ?_ _)|(with_reducible refine Kd.C_drewN ?_ _)|(with_reducible refine Kd.C_drew ?_)))
  (case side4=>exact HC1_2.out)
  rintro e w25 ⟨rfl,hb⟩
  refine ⟨_,rfl,?_⟩
  have n0_:=aK (bB (bX BK251.out) hb)
  have n1_:=aK (bB (bX BK252.out) hb)
  have n2_:=aK (bB (bX BK253.out) hb)
  have n3_:=aK (below_step (bW HB.out) hb)
  clear BK251
  clear BK252
  clear BK253
  clear HB
  have BK251:=n0_
  have BK252:=n1_
  have BK253:=n2_
  have HB:=n3_
  clear n0_ n1_ n2_ n3_
  (try clear hb)
  (try clear hb2)
  (try clear hk)
  (try clear hi)
  refine hK.out _ _ ⟨(bC BK251.out 0).trans rfl,(bC BK252.out 0).trans rfl,(bC BK252.out 1).trans rfl,(bC BK252.out 2).trans rfl⟩ (fun hHeld=>?_)
  clear hK K
  refine norm_ (a':=?_) ?_ ?_
  rotate_left
  ·show Act.put _ (some 9) _ = _
   simp only [Act.put,lA,l0',lS,i64_w,i32_w]
   rfl
  refine pure_ (i:=3) (N:=some 10) (v:=?_) (a':=?_) #[true,true,true,true,false,false,false,false,false,false,false,false,false,false,false,false,false] rfl rfl (any_of HT_.out (by kernel_rfl)) (fun _ _ _ h=>h) (Or.inl ⟨by rfl,?_⟩) ?_ ?_
  rotate_left
  ·intro w'
   go_simp
   with_reducible rfl
  rotate_left
  ·simp only [Act.put,lA,l0',lS,i64_w,i32_w]
   rfl
  refine pure_ (i:=4) (N:=some 11) (v:=undef) (a':=?_) #[true,true,true,true,true,false,false,false,false,false,false,false,false,false,false,false,false] rfl rfl (any_of HT_.out (by kernel_rfl)) (fun _ _ _ h=>h) (Or.inr ⟨by rfl,rfl⟩) ?_ ?_
  rotate_left
  ·simp only [Act.put,lA,l0',lS,i64_w,i32_w]
   rfl
  refine pure_ (i:=5) (N:=some 12) (v:=undef) (a':=?_) #[true,true,true,true,true,true,false,false,false,false,false,false,false,false,false,false,false] rfl rfl (any_of HT_.out (by kernel_rfl)) (fun _ _ _ h=>h) (Or.inr ⟨by rfl,rfl⟩) ?_ ?_
  rotate_left
  ·simp only [Act.put,lA,l0',lS,i64_w,i32_w]
   rfl
  refine pure_ (i:=6) (N:=some 13) (v:=undef) (a':=?_) #[true,true,true,true,true,true,true,false,false,false,false,false,false,false,false,false,false] rfl rfl (any_of HT_.out (by kernel_rfl)) (fun _ _ _ h=>h) (Or.inr ⟨by rfl,rfl⟩) ?_ ?_
  rotate_left
  ·simp only [Act.put,lA,l0',lS,i64_w,i32_w]
   rfl
  refine pure_ (i:=7) (N:=some 14) (v:=?_) (a':=?_) #[true,true,true,true,true,true,true,true,false,false,false,false,false,false,false,false,false] rfl rfl (any_of HT_.out (by kernel_rfl)) (fun _ _ _ h=>h) (Or.inl ⟨by rfl,?_⟩) ?_ ?_
  rotate_left
  ·intro w'
   go_simp
   with_reducible rfl
  rotate_left
  ·simp only [Act.put,lA,l0',lS,i64_w,i32_w]
   rfl
  refine pure_ (i:=8) (N:=some 15) (v:=?_) (a':=?_) #[true,true,true,true,true,true,true,true,true,false,false,false,false,false,false,false,false] rfl rfl (any_of HT_.out (by kernel_rfl)) (fun _ _ _ h=>h) (Or.inl ⟨by rfl,?_⟩) ?_ ?_
  rotate_left
  ·intro w'
   go_simp
   with_reducible rfl
  rotate_left
  ·simp only [Act.put,lA,l0',lS,i64_w,i32_w]
   rfl
  refine pure_ (i:=9) (N:=some 16) (v:=undef) (a':=?_) #[true,true,true,true,true,true,true,true,true,true,false,false,false,false,false,false,false] rfl rfl (any_of HT_.out (by kernel_rfl)) (fun _ _ _ h=>h) (Or.inr ⟨by rfl,rfl⟩) ?_ ?_
  rotate_left
  ·simp only [Act.put,lA,l0',lS,i64_w,i32_w]
   rfl
  refine pure_ (i:=10) (N:=some 17) (v:=undef) (a':=?_) #[true,true,true,true,true,true,true,true,true,true,true,false,false,false,false,false,false] rfl rfl (any_of HT_.out (by kernel_rfl)) (fun _ _ _ h=>h) (Or.inr ⟨by rfl,rfl⟩) ?_ ?_
  rotate_left
  ·simp only [Act.put,lA,l0',lS,i64_w,i32_w]
   rfl
  refine pure_ (i:=11) (N:=some 18) (v:=undef) (a':=?_) #[true,true,true,true,true,true,true,true,true,true,true,true,false,false,false,false,false] rfl rfl (any_of HT_.out (by kernel_rfl)) (fun _ _ _ h=>h) (Or.inr ⟨by rfl,rfl⟩) ?_ ?_
  rotate_left
  ·simp only [Act.put,lA,l0',lS,i64_w,i32_w]
   rfl
  refine pure_ (i:=12) (N:=some 19) (v:=undef) (a':=?_) #[true,true,true,true,true,true,true,true,true,true,true,true,true,false,false,false,false] rfl rfl (any_of HT_.out (by kernel_rfl)) (fun _ _ _ h=>h) (Or.inr ⟨by rfl,rfl⟩) ?_ ?_
  rotate_left
  ·simp only [Act.put,lA,l0',lS,i64_w,i32_w]
   rfl
  refine pure_ (i:=13) (N:=some 20) (v:=undef) (a':=?_) #[true,true,true,true,true,true,true,true,true,true,true,true,true,true,false,false,false] rfl rfl (any_of HT_.out (by kernel_rfl)) (fun _ _ _ h=>h) (Or.inr ⟨by rfl,rfl⟩) ?_ ?_
  rotate_left
  ·simp only [Act.put,lA,l0',lS,i64_w,i32_w]
   rfl
  refine pure_ (i:=14) (N:=some 21) (v:=undef) (a':=?_) #[true,true,true,true,true,true,true,true,true,true,true,true,true,true,true,false,false] rfl rfl (any_of HT_.out (by kernel_rfl)) (fun _ _ _ h=>h) (Or.inr ⟨by rfl,rfl⟩) ?_ ?_
  rotate_left
  ·simp only [Act.put,lA,l0',lS,i64_w,i32_w]
   rfl
  refine pure_ (i:=15) (N:=some 22) (v:=?_) (a':=?_) #[true,true,true,true,true,true,true,true,true,true,true,true,true,true,true,true,false] rfl rfl (any_of HT_.out (by kernel_rfl)) (fun _ _ _ h=>h) (Or.inl ⟨by rfl,?_⟩) ?_ ?_
  rotate_left
  ·intro w'
   go_simp
   with_reducible rfl
  rotate_left
  ·simp only [Act.put,lA,l0',lS,i64_w,i32_w]
   rfl
  refine pure_ (i:=16) (N:=some 6) (v:=?_) (a':=?_) #[true,true,true,true,true,true,true,true,true,true,true,true,true,true,true,true,true] rfl rfl (any_of HT_.out (by kernel_rfl)) (fun _ _ _ h=>h) (Or.inl ⟨by rfl,?_⟩) ?_ ?_
  rotate_left
  ·intro w'
   go_simp
   with_reducible rfl
  rotate_left
  ·simp only [Act.put,lA,l0',lS,i64_w,i32_w]
   rfl
  refine done_ (done_of HT_.out (by kernel_rfl)) ?_
  try go_wp2
  go_ret
  exact ⟨by first|rfl|(simp [errW_none,errW_some] <;> rfl)|(simp [*,errW_none,errW_some] <;> rfl),bW HB.out⟩

/-! ### laws_toClaim: function 50 -/
def laws_toClaim.f (a0_0 : Int) (a0_1 : Int) : Option (Int × Int) := some (a0_0, a0_1)
set_option maxHeartbeats 8000000 in
set_option maxRecDepth 100000 in
theorem laws_toClaim.calls (a0_0 : Int) (a0_1 : Int) (r1 : Int) (r2 : Int) (w : World) (h : laws_toClaim.f a0_0 a0_1 = some (r1, r2)) :
  Calls Try.prog 50 #[.agg #[.int .i64 a0_0,.int .i64 a0_1]] w fun e w'=>e = .returned (.agg #[.int .i64 r1,.int .i64 r2]) ∧ Below w.heap.size w w':=by
 have hu50:=Try.underlying50
 have hu52:=Try.underlying52
 have HB:=aK (Below.refl w.heap.size w)
 have H : (some (a0_0,a0_1)) = some (r1,r2):=h
 clear h
 simp only [Option.some.injEq,Prod.mk.injEq] at H
 obtain ⟨rfl,rfl⟩:=H
 go_enter Try.func50,Try.ntmps50
 go_wp2_with (first|((with_reducible refine gate_dst (N:=1) rfl ?_);refine box_event ?hg (N:=1) ?hd (cs:=#[.int .i64 a0_0,.int .i64 a0_1]) (t:=50) ?hr ?_;(case hd=>rfl);(case hg=>rfl);(case hr=>first|(go_simp;done)|(go_simp;rfl));intro gb258 hg w2 hbox hb;have n0_:=aK (below_step (bW HB.out) hb);have n1_:=aK (hbox);have n2_:=aK ((by rw [hg];exact (below_size (bW HB.out)) : w.heap.size ≤ gb258));have n3_:=aK ((by rw [hg];exact (below_size (bW HB.out)) : w.heap.size ≤ gb258));clear HB;have HB:=n0_;have BK258:=n1_;have GW258:=n2_;have GE258:=n3_;clear n0_ n1_ n2_ n3_;clear hb hbox hg)|((with_reducible refine gate_dst (N:=2) rfl ?_);refine box_event ?hg (N:=2) ?hd (cs:=#[.int .i64 0,.int .i64 0]) (t:=52) ?hr ?_;(case hd=>rfl);(case hg=>rfl);(case hr=>first|(go_simp;done)|(go_simp;rfl));intro gb259 hg w3 hbox hb;have n0_:=aK (bB (bX BK258.out) hb);have n1_:=aK (below_step (bW HB.out) hb);have n2_:=aK (hbox);have n3_:=aK ((by rw [hg];exact (below_size (bW HB.out)) : w.heap.size ≤ gb259));have n4_:=aK ((by rw [hg];exact (below_size (bW HB.out)) : w.heap.size ≤ gb259));have n5_:=aK ((by rw [hg];exact Nat.ne_of_lt (blk_lt (bX BK258.out)) : gb258 ≠ gb259));have n6_:=aK ((by rw [hg];exact Nat.ne_of_gt (blk_lt (bX BK258.out)) : gb259 ≠ gb258));clear BK258;clear HB;have BK258:=n0_;have HB:=n1_;have BK259:=n2_;have GW259:=n3_;have GE259:=n4_;have NB258_259:=n5_;have NB259_258:=n6_;clear n0_ n1_ n2_ n3_ n4_ n5_ n6_;clear hb hbox hg)|((with_reducible refine gate_dst (N:=3) rfl ?_);refine box_event ?hg (N:=3) ?hd (cs:=#[.int .i64 0,.int .i64 0]) (t:=52) ?hr ?_;(case hd=>rfl);(case hg=>rfl);(case hr=>first|(go_simp;done)|(go_simp;rfl));intro gb260 hg w4 hbox hb;have n0_:=aK (bB (bX BK258.out) hb);have n1_:=aK (bB (bX BK259.out) hb);have n2_:=aK (below_step (bW HB.out) hb);have n3_:=aK (hbox);have n4_:=aK ((by rw [hg];exact (below_size (bW HB.out)) : w.heap.size ≤ gb260));have n5_:=aK ((by rw [hg];exact (below_size (bW HB.out)) : w.heap.size ≤ gb260));have n6_:=aK ((by rw [hg];exact Nat.ne_of_lt (blk_lt (bX BK258.out)) : gb258 ≠ gb260));have n7_:=aK ((by rw [hg];exact Nat.ne_of_gt (blk_lt (bX BK258.out)) : gb260 ≠ gb258));have n8_:=aK ((by rw [hg];exact Nat.ne_of_lt (blk_lt (bX BK259.out)) : gb259 ≠ gb260));have n9_:=aK ((by rw [hg];exact Nat.ne_of_gt (blk_lt (bX BK259.out)) : gb260 ≠ gb259));clear BK258;clear BK259;clear HB;have BK258:=n0_;have BK259:=n1_;have HB:=n2_;have BK260:=n3_;have GW260:=n4_;have GE260:=n5_;have NB258_260:=n6_;have NB260_258:=n7_;have NB259_260:=n8_;have NB260_259:=n9_;clear n0_ n1_ n2_ n3_ n4_ n5_ n6_ n7_ n8_ n9_;clear hb hbox hg;have hnb5:=NB258_259.out;have hnc5:=NB259_258.out;have hnb6:=NB258_260.out;have hnc6:=NB260_258.out;have hcz7_0 : w4.cell? ⟨gb258,0,none⟩ = some (.int .i64 a0_0):=(bC BK258.out 0).trans rfl;have hcz7_1 : w4.cell? ⟨gb258,1,none⟩ = some (.int .i64 a0_1):=(bC BK258.out 1).trans rfl;have hfz7_0:=blk_frozen BK258.out 0;have hfz7_1:=blk_frozen BK258.out 1;have hnb8:=NB260_259.out;have hnc8:=NB259_260.out;have hcz9_0 : w4.cell? ⟨gb260,0,none⟩ = some (.int .i64 0):=(bC BK260.out 0).trans rfl;have hcz9_1 : w4.cell? ⟨gb260,1,none⟩ = some (.int .i64 0):=(bC BK260.out 1).trans rfl;have hfz9_0:=blk_frozen BK260.out 0;have hfz9_1:=blk_frozen BK260.out 1;have hcz10_0 : w4.cell? ⟨gb259,0,none⟩ = some (.int .i64 0):=(bC BK259.out 0).trans rfl;have hcz10_1 : w4.cell? ⟨gb259,1,none⟩ = some (.int .i64 0):=(bC BK259.out 1).trans rfl;have hfz10_0:=blk_frozen BK259.out 0;have hfz10_1:=blk_frozen BK259.out 1))
 refine bodyPost_ret (results_cell_row rfl _ _ gb259 52 #[.int .i64 a0_0,.int .i64 a0_1] (0,0) _ rfl (by (with_reducible repeat first|apply bN|apply bD|apply bA);refine blk_put (cs:=#[.int .i64 a0_0,.int .i64 0]) ?_ 1 _ rfl;(with_reducible repeat first|apply bN|apply bD|apply bA);refine blk_put (cs:=#[.int .i64 0,.int .i64 0]) ?_ 0 _ rfl;(with_reducible repeat first|apply bN|apply bD|apply bA);refine blk_far ?_ NB259_260.out _;(with_reducible repeat first|apply bN|apply bD|apply bA);refine blk_far ?_ NB259_260.out _;(with_reducible repeat first|apply bN|apply bD|apply bA);exact BK259.out) Try.underlying52 rfl (by kernel_rfl)) rfl ?_
 exact ⟨by first|rfl|(simp [errW_none,errW_some] <;> rfl)|(simp [*,errW_none,errW_some] <;> rfl),bW HB.out⟩

/-! ### impl_within: function 90 -/
def impl_within.f (a0 : Int) (a1 : Int) (a2 : Int) : Option (Bool) := if a1 ≤ a0 then (some (decide (a0 ≤ a2))) else (some false)
set_option maxHeartbeats 8000000 in
set_option maxRecDepth 100000 in
theorem impl_within.calls (a0 : Int) (a1 : Int) (a2 : Int) (r : Bool) (w : World) (h : impl_within.f a0 a1 a2 = some r) :
  Calls Try.prog 90 #[.int .i64 a0,.int .i64 a1,.int .i64 a2] w fun e w'=>e = .returned (.bool r) ∧ Drawn0 w w':=by
 have H : (if a1 ≤ a0 then (some (decide (a0 ≤ a2))) else (some false)) = some r:=h
 clear h
 by_cases c4 : a1 ≤ a0
 ·rw [if_pos c4] at H
  have c4b0 : decide (a1 ≤ a0) = true:=decide_eq_true c4
  clear c4
  obtain rfl:=Option.some.inj H
  go_enter Try.func90,Try.ntmps90
  go_wp2
  go_ret
  exact ⟨by first|rfl|(simp;done)|(simp [*];done),by repeat (first|exact Drawn0.refl _|apply Drawn0.step)⟩
 ·rw [if_neg c4] at H
  have c4b0 : decide (a1 ≤ a0) = false:=decide_eq_false c4
  clear c4
  obtain rfl:=Option.some.inj H
  go_enter Try.func90,Try.ntmps90
  go_wp2
  go_ret
  exact ⟨by first|rfl|(simp;done)|(simp [*];done),by repeat (first|exact Drawn0.refl _|apply Drawn0.step)⟩

/-! ### impl_isSeat: function 85 -/
def impl_isSeat.f (a0 : Int) : Option (Bool) := (impl_within.f a0 0 3).bind fun t261 => (some t261)
set_option maxHeartbeats 8000000 in
set_option maxRecDepth 100000 in
theorem impl_isSeat.calls (a0 : Int) (r : Bool) (w : World) (h : impl_isSeat.f a0 = some r) :
  Calls Try.prog 85 #[.int .i64 a0] w fun e w'=>e = .returned (.bool r) ∧ Drawn0 w w':=by
 have H : ((impl_within.f a0 0 3).bind fun t261=>(some t261)) = some r:=h
 clear h
 replace H:=Option.bind_eq_some_iff.mp H
 obtain ⟨t261,A20,H⟩:=H
 replace H : (some t261) = some r:=H
 have A2:=aK A20
 clear A20
 obtain rfl:=Option.some.inj H
 go_enter Try.func85,Try.ntmps85
 go_wp2_with (first|((with_reducible refine gate_callee (f:=90) rfl ?_);refine goesL_ (some 4) rfl rfl Try.func90 (by kernel_rfl) rfl #[.int .i64 a0,.int .i64 0,.int .i64 3] rfl (by (try simp only [mA,mC,mN]);first|done|rfl) ?_;(with_reducible refine (impl_within.calls a0 0 3 t261 _ A2.out).mono ?_);rintro e w' ⟨rfl,⟨nd,rfl⟩⟩;refine ⟨_,rfl,?_⟩))
 go_ret
 exact ⟨by first|rfl|(simp;done)|(simp [*];done),by repeat (first|exact Drawn0.refl _|apply Drawn0.step)⟩

/-! ### impl_isStrain: function 84 -/
def impl_isStrain.f (a0 : Int) : Option (Bool) := (impl_within.f a0 0 4).bind fun t262 => (some t262)
set_option maxHeartbeats 8000000 in
set_option maxRecDepth 100000 in
theorem impl_isStrain.calls (a0 : Int) (r : Bool) (w : World) (h : impl_isStrain.f a0 = some r) :
  Calls Try.prog 84 #[.int .i64 a0] w fun e w'=>e = .returned (.bool r) ∧ Drawn0 w w':=by
 have H : ((impl_within.f a0 0 4).bind fun t262=>(some t262)) = some r:=h
 clear h
 replace H:=Option.bind_eq_some_iff.mp H
 obtain ⟨t262,A20,H⟩:=H
 replace H : (some t262) = some r:=H
 have A2:=aK A20
 clear A20
 obtain rfl:=Option.some.inj H
 go_enter Try.func84,Try.ntmps84
 go_wp2_with (first|((with_reducible refine gate_callee (f:=90) rfl ?_);refine goesL_ (some 4) rfl rfl Try.func90 (by kernel_rfl) rfl #[.int .i64 a0,.int .i64 0,.int .i64 4] rfl (by (try simp only [mA,mC,mN]);first|done|rfl) ?_;(with_reducible refine (impl_within.calls a0 0 4 t262 _ A2.out).mono ?_);rintro e w' ⟨rfl,⟨nd,rfl⟩⟩;refine ⟨_,rfl,?_⟩))
 go_ret
 exact ⟨by first|rfl|(simp;done)|(simp [*];done),by repeat (first|exact Drawn0.refl _|apply Drawn0.step)⟩

/-! ### impl_isCard: function 86 -/
def impl_isCard.f (a0 : Int) : Option (Bool) := (impl_within.f a0 0 51).bind fun t263 => (some t263)
set_option maxHeartbeats 8000000 in
set_option maxRecDepth 100000 in
theorem impl_isCard.calls (a0 : Int) (r : Bool) (w : World) (h : impl_isCard.f a0 = some r) :
  Calls Try.prog 86 #[.int .i64 a0] w fun e w'=>e = .returned (.bool r) ∧ Drawn0 w w':=by
 have H : ((impl_within.f a0 0 51).bind fun t263=>(some t263)) = some r:=h
 clear h
 replace H:=Option.bind_eq_some_iff.mp H
 obtain ⟨t263,A20,H⟩:=H
 replace H : (some t263) = some r:=H
 have A2:=aK A20
 clear A20
 obtain rfl:=Option.some.inj H
 go_enter Try.func86,Try.ntmps86
 go_wp2_with (first|((with_reducible refine gate_callee (f:=90) rfl ?_);refine goesL_ (some 4) rfl rfl Try.func90 (by kernel_rfl) rfl #[.int .i64 a0,.int .i64 0,.int .i64 51] rfl (by (try simp only [mA,mC,mN]);first|done|rfl) ?_;(with_reducible refine (impl_within.calls a0 0 51 t263 _ A2.out).mono ?_);rintro e w' ⟨rfl,⟨nd,rfl⟩⟩;refine ⟨_,rfl,?_⟩))
 go_ret
 exact ⟨by first|rfl|(simp;done)|(simp [*];done),by repeat (first|exact Drawn0.refl _|apply Drawn0.step)⟩

/-! ### impl_IsPlainPlay: function 25 -/
/-- Are these cards, all different from each other and from those seen? -/
def impl_IsPlainPlay.scan : List Int → List Int → Bool
 | [],_=>true
 | c :: cs,seen=>decide (0 ≤ c) && (decide (c ≤ 51) && (!(seen.contains c) && impl_IsPlainPlay.scan cs (c :: seen)))
def impl_IsPlainPlay.ok (a b : Int) (l : List Int) : Bool := (decide (0 ≤ a) && decide (a ≤ 4)) && ((decide (0 ≤ b) && decide (b ≤ 3)) && (decide (l.length ≤ 52) && impl_IsPlainPlay.scan l []))
def impl_IsPlainPlay.f (a0_0 : Int) (a0_1 : Int) (l0_2 : List Int) : Option (Bool) := some (impl_IsPlainPlay.ok a0_0 a0_1 l0_2)
theorem impl_IsPlainPlay.scan_bad {l : List Int} {s : List Int} {kk : Nat} (h : kk < l.length) (hb : (decide (0 ≤ rd l kk) && decide (rd l kk ≤ 51)) = false) : impl_IsPlainPlay.scan (l.drop kk) s = false := by
 rw [show l.drop kk = rd l (kk : Int) :: l.drop (kk + 1) by rw [show rd l (kk : Int) = l[kk] by simp [rd,List.getD_eq_getElem?_getD,h]];exact List.drop_eq_getElem_cons h]
 simp only [impl_IsPlainPlay.scan]
 rw [← Bool.and_assoc,hb,Bool.false_and]
theorem impl_IsPlainPlay.scan_dup {l : List Int} {s : List Int} {kk : Nat} (h : kk < l.length) (hb : s.contains (rd l kk) = true) : impl_IsPlainPlay.scan (l.drop kk) s = false := by
 rw [show l.drop kk = rd l (kk : Int) :: l.drop (kk + 1) by rw [show rd l (kk : Int) = l[kk] by simp [rd,List.getD_eq_getElem?_getD,h]];exact List.drop_eq_getElem_cons h]
 simp only [impl_IsPlainPlay.scan]
 rw [hb];simp
theorem impl_IsPlainPlay.scan_step {l : List Int} {s : List Int} {kk : Nat} (h : kk < l.length) (h0 : 0 ≤ rd l kk) (h1 : rd l kk ≤ 51) (hb : s.contains (rd l kk) = false) : impl_IsPlainPlay.scan (l.drop kk) s = impl_IsPlainPlay.scan (l.drop (kk + 1)) (rd l kk :: s) := by
 rw [show l.drop kk = rd l (kk : Int) :: l.drop (kk + 1) by rw [show rd l (kk : Int) = l[kk] by simp [rd,List.getD_eq_getElem?_getD,h]];exact List.drop_eq_getElem_cons h]
 simp only [impl_IsPlainPlay.scan]
 rw [hb,decide_eq_true h0,decide_eq_true h1];simp
set_option maxHeartbeats 4000000 in
set_option maxRecDepth 100000 in
theorem impl_IsPlainPlay.calls (a0_0 : Int) (a0_1 : Int) (A0_2 : Option Addr) (c0_2 : Nat) (l0_2 : List Int) (r : Bool) (w : World) (hr0_2 : Kd.C (Kd.int .i64) w A0_2 l0_2.length l0_2) (hc0_2 : l0_2.length ≤ c0_2) (h : impl_IsPlainPlay.f a0_0 a0_1 l0_2 = some r) :
  Calls Try.prog 25 #[.agg #[.int .i64 a0_0,.int .i64 a0_1,.slice A0_2 l0_2.length c0_2]] w fun e w'=>e = .returned (.bool r) ∧ Below w.heap.size w w':=by
 have HS : Aside0 (impl_isStrain.f a0_0 = some (decide (0 ≤ a0_0) && decide (a0_0 ≤ 4))):=⟨by simp only [impl_isStrain.f,impl_within.f];by_cases h : 0 ≤ a0_0 <;> simp [h]⟩
 have HT : Aside0 (impl_isSeat.f a0_1 = some (decide (0 ≤ a0_1) && decide (a0_1 ≤ 3))):=⟨by simp only [impl_isSeat.f,impl_within.f];by_cases h : 0 ≤ a0_1 <;> simp [h]⟩
 have HE : Aside0 (r = impl_IsPlainPlay.ok a0_0 a0_1 l0_2):=⟨(Option.some.inj h).symm⟩
 have HV : Aside0 (∀ y : Int,impl_isCard.f y = some (decide (0 ≤ y) && decide (y ≤ 51))):=⟨fun y=>by simp only [impl_isCard.f,impl_within.f];by_cases h : 0 ≤ y <;> simp [h]⟩
 have hz : ∀ w,(zeroValue 78).run Try.prog w = .ok (.agg zeros52) w:=(zero_of_info (n:=52) (by kernel_rfl)).1
 have HI : Aside0 ((Try.prog.info? 78).map (·.size) = some zeros52.size):=⟨by kernel_rfl⟩
 have HBU : Aside0 (Try.prog.built 78 [] = some zeros52):=⟨by kernel_rfl⟩
 have hsc : ∀ (W : World) (n : Nat),Sem.run Try.prog (storeCells ⟨W.heap.size,0,none⟩ zeros52.toList) ((W.drewN n).alloc (.cells zeros52 78)) = .ok () ((W.drewN n).alloc (.cells zeros52 78)):=fun W n=>run_storeCells_new (W.drewN n) 78 zeros52 zeros52 HI.out rfl zeros52_one
 have hbig : l0_2.length ≤ 9223372036854775807:=hr0_2.2.1
 have HR:=Aside0.mk hr0_2
 clear hr0_2 h hc0_2
 unfold impl_IsPlainPlay.ok at HE
 generalize (decide (0 ≤ a0_0) && decide (a0_0 ≤ 4)) = b1 at HS HE
 generalize (decide (0 ≤ a0_1) && decide (a0_1 ≤ 3)) = b2 at HT HE
 cases b1 with
 | false =>
  have HF : Aside0 (r = false):=⟨by rw [HE.out];rfl⟩
  clear HE
  go_enter Try.func25,Try.ntmps25
  go_wp2_with (first|((with_reducible refine gate_dst (N:=1) rfl ?_);refine box_event ?hg (N:=1) ?hd (cs:=#[.int .i64 a0_0,.int .i64 a0_1,.slice A0_2 l0_2.length c0_2]) (t:=27) ?hr ?_;(case hd=>rfl);(case hg=>rfl);(case hr=>first|(go_simp;done)|(go_simp;rfl));intro gb hg w2 hbox hb;have hcz0 : w2.cell? ⟨gb,0,none⟩ = some (.int .i64 a0_0):=(blk_cell hbox 0).trans rfl;have hcz1 : w2.cell? ⟨gb,1,none⟩ = some (.int .i64 a0_1):=(blk_cell hbox 1).trans rfl;have hcz2 : w2.cell? ⟨gb,2,none⟩ = some (.slice A0_2 l0_2.length c0_2):=(blk_cell hbox 2).trans rfl;have BK:=Aside0.mk hbox;have HB:=Aside0.mk hb;clear hg hbox hb)|(go_at_call 84;refine (impl_isStrain.calls a0_0 false _ HS.out).mono ?_;rintro e w3 ⟨rfl,⟨nd3,rfl⟩⟩))
  go_ret
  exact ⟨by rw [HF.out];rfl,pw_below_drewN HB.out _⟩
 | true =>
  cases b2 with
  | false =>
   have HF : Aside0 (r = false):=⟨by rw [HE.out];rfl⟩
   clear HE
   go_enter Try.func25,Try.ntmps25
   go_wp2_with (first|((with_reducible refine gate_dst (N:=1) rfl ?_);refine box_event ?hg (N:=1) ?hd (cs:=#[.int .i64 a0_0,.int .i64 a0_1,.slice A0_2 l0_2.length c0_2]) (t:=27) ?hr ?_;(case hd=>rfl);(case hg=>rfl);(case hr=>first|(go_simp;done)|(go_simp;rfl));intro gb hg w2 hbox hb;have hcz0 : w2.cell? ⟨gb,0,none⟩ = some (.int .i64 a0_0):=(blk_cell hbox 0).trans rfl;have hcz1 : w2.cell? ⟨gb,1,none⟩ = some (.int .i64 a0_1):=(blk_cell hbox 1).trans rfl;have hcz2 : w2.cell? ⟨gb,2,none⟩ = some (.slice A0_2 l0_2.length c0_2):=(blk_cell hbox 2).trans rfl;have BK:=Aside0.mk hbox;have HB:=Aside0.mk hb;clear hg hbox hb)|(go_at_call 84;refine (impl_isStrain.calls a0_0 true _ HS.out).mono ?_;rintro e w3 ⟨rfl,⟨nd3,rfl⟩⟩)|(go_at_call 85;refine (impl_isSeat.calls a0_1 false _ HT.out).mono ?_;rintro e w4 ⟨rfl,⟨nd4,rfl⟩⟩))
   go_ret
   exact ⟨by rw [HF.out];rfl,pw_below_drewN HB.out _⟩
  | true =>
   by_cases hl : l0_2.length ≤ 52
   ·have hlz : decide (52 < (l0_2.length : Int)) = false:=decide_eq_false (by omega)
    have HF : Aside0 (r = impl_IsPlainPlay.scan l0_2 []):=⟨by rw [HE.out,decide_eq_true hl];rfl⟩
    clear HE
    have HL:=Aside0.mk hl
    clear hl
    go_enter Try.func25,Try.ntmps25
    go_wp2_with (first|((with_reducible refine gate_dst (N:=1) rfl ?_);refine box_event ?hg (N:=1) ?hd (cs:=#[.int .i64 a0_0,.int .i64 a0_1,.slice A0_2 l0_2.length c0_2]) (t:=27) ?hr ?_;(case hd=>rfl);(case hg=>rfl);(case hr=>first|(go_simp;done)|(go_simp;rfl));intro gb hg w2 hbox hb;have hcz0 : w2.cell? ⟨gb,0,none⟩ = some (.int .i64 a0_0):=(blk_cell hbox 0).trans rfl;have hcz1 : w2.cell? ⟨gb,1,none⟩ = some (.int .i64 a0_1):=(blk_cell hbox 1).trans rfl;have hcz2 : w2.cell? ⟨gb,2,none⟩ = some (.slice A0_2 l0_2.length c0_2):=(blk_cell hbox 2).trans rfl;have BK:=Aside0.mk hbox;have hcA : ∀ (n : Nat) (o : Obj),((w2.drewN n).alloc o).cell? ⟨gb,2,none⟩ = some (.slice A0_2 l0_2.length c0_2):=fun n o=>(blk_cell (blk_alloc (blk_drewN BK.out n) o) 2).trans rfl;have HB:=Aside0.mk hb;clear hg hbox hb)|(go_at_call 84;refine (impl_isStrain.calls a0_0 true _ HS.out).mono ?_;rintro e w3 ⟨rfl,⟨nd3,rfl⟩⟩)|(go_at_call 85;refine (impl_isSeat.calls a0_1 true _ HT.out).mono ?_;rintro e w4 ⟨rfl,⟨nd4,rfl⟩⟩)|((with_reducible refine gate_dst (N:=22) rfl ?_);refine wpList_build rfl 78 #[] rfl ?hb1 ?_;(case hb1=>(show (Try.prog.built 78 []).isSome = true);rw [HBU.out];rfl);(show wpList _ _ _ _ (Act.put _ _ (.agg ((Try.prog.built 78 []).getD #[]))) _);rw [HBU.out,Option.getD_some]))
    have HB4:=Aside0.mk (pw_below_drewN HB.out (nd3 + nd4))
    have HGB : Aside0 (gb < w2.heap.size):=⟨blk_lt BK.out⟩
    have HW2 : Aside0 (w.heap.size ≤ w2.heap.size):=⟨HB.out.size⟩
    have BKA:=Aside0.mk (blk_alloc (blk_drewN BK.out (nd3 + nd4)) (.cells zeros52 78))
    go_loopg [26] l0_2.length (fun gk v26 wr=>∃ (kk : Nat) (s : List Int),v26 = .int .i64 kk ∧ kk ≤ l0_2.length ∧ l0_2.length - kk ≤ gk ∧ Aside0 (impl_IsPlainPlay.scan l0_2 [] = impl_IsPlainPlay.scan (l0_2.drop kk) s) ∧ Aside0 (Seen wr w2.heap.size 78 s) ∧ Aside0 (Below w.heap.size w wr))
    case atStart=>exact ⟨0,[],rfl,Nat.zero_le _,by omega,⟨by simp⟩,⟨Seen.zero (heap_alloc_last (w2.drewN (nd3 + nd4)) _)⟩,⟨below_alloc HB4.out _⟩⟩
    case round =>
     obtain ⟨kk,s,rfl,hkk,hgk,HS1,HSeen,HBr⟩:=hrel
     by_cases hlt : kk < l0_2.length
     ·have hltz : (kk : Int) < (l0_2.length : Int):=by omega
      obtain ⟨ad,rfl,hcell⟩:=Kd.at_int HR.out (kk : Int) (by omega) hltz
      rw [Int.toNat_natCast] at hcell
      have hcell':=(HBr.out.cell (World.block_lt_of_cell? w _ hcell)).trans hcell
      clear hcell
      have HV1:=Aside0.mk (HV.out (rd l0_2 kk))
      cases hb : (decide (0 ≤ rd l0_2 kk) && decide (rd l0_2 kk ≤ 51)) with
      | false =>
       rw [hb] at HV1
       have HF2 : Aside0 (r = false):=⟨by rw [HF.out,HS1.out];exact impl_IsPlainPlay.scan_bad hlt hb⟩
       clear hb
       generalize rd l0_2 kk = y at hcell' HV1
       go_wp2_with (go_at_call 86;refine (impl_isCard.calls y false _ HV1.out).mono ?_;rintro e w7 ⟨rfl,⟨nd7,rfl⟩⟩)
       go_ret
       exact ⟨by rw [HF2.out];rfl,pw_below_drewN HBr.out _⟩
      | true =>
       rw [hb] at HV1
       rw [Bool.and_eq_true,decide_eq_true_eq,decide_eq_true_eq] at hb
       obtain ⟨hy0,hy1⟩:=hb
       have hy1z : rd l0_2 kk < 52:=by omega
       have hyc : ∀ n : Nat,(wr.drewN n).cell? ⟨w2.heap.size,(rd l0_2 kk).toNat,none⟩ = some (.bool (s.contains (rd l0_2 kk))):=fun n=>(HSeen.out.drewN n).cell hy0 hy1
       have hyf : ∀ n : Nat,(wr.drewN n).frozen? ⟨w2.heap.size,(rd l0_2 kk).toNat,none⟩ = false:=fun n=>(HSeen.out.drewN n).free _
       have HPut : Aside0 (∀ n : Nat,Seen ((wr.drewN n).setCell ⟨w2.heap.size,(rd l0_2 kk).toNat,none⟩ (.bool true)) w2.heap.size 78 (rd l0_2 kk :: s)):=⟨fun n=>(HSeen.out.drewN n).put hy0 hy1⟩
       cases hd : s.contains (rd l0_2 kk) with
       | true =>
        have HF2 : Aside0 (r = false):=⟨by rw [HF.out,HS1.out];exact impl_IsPlainPlay.scan_dup hlt hd⟩
        rw [hd] at hyc
        clear hd HPut
        generalize rd l0_2 kk = y at hcell' HV1 hy0 hy1 hy1z hyc hyf
        go_wp2_with (go_at_call 86;refine (impl_isCard.calls y true _ HV1.out).mono ?_;rintro e w7 ⟨rfl,⟨nd7,rfl⟩⟩)
        go_ret
        exact ⟨by rw [HF2.out];rfl,pw_below_drewN HBr.out _⟩
       | false =>
        have HS2 : Aside0 (impl_IsPlainPlay.scan l0_2 [] = impl_IsPlainPlay.scan (l0_2.drop (kk + 1)) (rd l0_2 kk :: s)):=⟨by rw [HS1.out];exact impl_IsPlainPlay.scan_step hlt hy0 hy1 hd⟩
        rw [hd] at hyc
        clear hd
        generalize rd l0_2 kk = y at hcell' HV1 hy0 hy1 hy1z hyc hyf HPut HS2
        go_wp2_with (go_at_call 86;refine (impl_isCard.calls y true _ HV1.out).mono ?_;rintro e w7 ⟨rfl,⟨nd7,rfl⟩⟩)
        go_roundg (gk - 1)
        case measure=>omega
        case rel=>exact ⟨kk + 1,y :: s,by first|rfl|(rw [wrap64_in _ (by omega)];push_cast;rfl)|(simp;done),by omega,by omega,HS2,⟨HPut.out _⟩,⟨below_set (pw_below_drewN HBr.out _) HW2.out⟩⟩
     ·have hltz : ¬ (kk : Int) < (l0_2.length : Int):=by omega
      have HF2 : Aside0 (r = true):=⟨by rw [HF.out,HS1.out,List.drop_eq_nil_of_le (by omega)];rfl⟩
      go_wp2
      go_ret
      exact ⟨by rw [HF2.out];rfl,HBr.out⟩
   ·have hlz : decide (52 < (l0_2.length : Int)) = true:=decide_eq_true (by omega)
    have HF : Aside0 (r = false):=⟨by rw [HE.out,decide_eq_false hl];rfl⟩
    clear HE hl
    go_enter Try.func25,Try.ntmps25
    go_wp2_with (first|((with_reducible refine gate_dst (N:=1) rfl ?_);refine box_event ?hg (N:=1) ?hd (cs:=#[.int .i64 a0_0,.int .i64 a0_1,.slice A0_2 l0_2.length c0_2]) (t:=27) ?hr ?_;(case hd=>rfl);(case hg=>rfl);(case hr=>first|(go_simp;done)|(go_simp;rfl));intro gb hg w2 hbox hb;have hcz0 : w2.cell? ⟨gb,0,none⟩ = some (.int .i64 a0_0):=(blk_cell hbox 0).trans rfl;have hcz1 : w2.cell? ⟨gb,1,none⟩ = some (.int .i64 a0_1):=(blk_cell hbox 1).trans rfl;have hcz2 : w2.cell? ⟨gb,2,none⟩ = some (.slice A0_2 l0_2.length c0_2):=(blk_cell hbox 2).trans rfl;have BK:=Aside0.mk hbox;have HB:=Aside0.mk hb;clear hg hbox hb)|(go_at_call 84;refine (impl_isStrain.calls a0_0 true _ HS.out).mono ?_;rintro e w3 ⟨rfl,⟨nd3,rfl⟩⟩)|(go_at_call 85;refine (impl_isSeat.calls a0_1 true _ HT.out).mono ?_;rintro e w4 ⟨rfl,⟨nd4,rfl⟩⟩))
    go_ret
    exact ⟨by rw [HF.out];rfl,pw_below_drewN HB.out _⟩

/-! ### impl_suit: function 137 -/
def impl_suit.f (a0 : Int) : Option (Int) := some (wrap64 (Int.tdiv a0 13))
set_option maxHeartbeats 8000000 in
set_option maxRecDepth 100000 in
theorem impl_suit.calls (a0 : Int) (r : Int) (w : World) (h : impl_suit.f a0 = some r) :
  Calls Try.prog 137 #[.int .i64 a0] w fun e w'=>e = .returned (.int .i64 r) ∧ Drawn0 w w':=by
 have H : (some (wrap64 (Int.tdiv a0 13))) = some r:=h
 clear h
 obtain rfl:=Option.some.inj H
 go_enter Try.func137,Try.ntmps137
 go_wp2
 go_ret
 exact ⟨by first|rfl|(simp;done)|(simp [*];done),by repeat (first|exact Drawn0.refl _|apply Drawn0.step)⟩

/-! ### impl_wins: function 132 -/
def impl_wins.f (a0 : Int) (a1 : Int) (a2 : Int) : Option (Bool) := (impl_suit.f a2).bind fun t264 => ((impl_suit.f a1).bind fun t265 => (if t264 = t265 then (some (decide (a2 > a1))) else ((impl_suit.f a2).bind fun t266 => (some (t266 == a0)))))
set_option maxHeartbeats 8000000 in
set_option maxRecDepth 100000 in
theorem impl_wins.calls (a0 : Int) (a1 : Int) (a2 : Int) (r : Bool) (w : World) (h : impl_wins.f a0 a1 a2 = some r) :
  Calls Try.prog 132 #[.int .i64 a0,.int .i64 a1,.int .i64 a2] w fun e w'=>e = .returned (.bool r) ∧ Drawn0 w w':=by
 have H : ((impl_suit.f a2).bind fun t264=>((impl_suit.f a1).bind fun t265=>(if t264 = t265 then (some (decide (a2 > a1))) else ((impl_suit.f a2).bind fun t266=>(some (t266 == a0)))))) = some r:=h
 clear h
 replace H:=Option.bind_eq_some_iff.mp H
 obtain ⟨t264,A40,H⟩:=H
 replace H : ((impl_suit.f a1).bind fun t265=>(if t264 = t265 then (some (decide (a2 > a1))) else ((impl_suit.f a2).bind fun t266=>(some (t266 == a0))))) = some r:=H
 have A4:=aK A40
 clear A40
 replace H:=Option.bind_eq_some_iff.mp H
 obtain ⟨t265,A50,H⟩:=H
 replace H : (if t264 = t265 then (some (decide (a2 > a1))) else ((impl_suit.f a2).bind fun t266=>(some (t266 == a0)))) = some r:=H
 have A5:=aK A50
 clear A50
 by_cases c6 : t264 = t265
 ·rw [if_pos c6] at H
  have c6b0 : (t264 == t265) = true:=beq_iff_eq.mpr c6
  have c6b1 : (t264 != t265) = false:=bne_eq_false_iff_eq.mpr c6
  clear c6
  obtain rfl:=Option.some.inj H
  go_enter Try.func132,Try.ntmps132
  go_wp2_with (first|((with_reducible refine gate_callee (f:=137) rfl ?_);refine goesL_ (some 8) rfl rfl Try.func137 (by kernel_rfl) rfl #[.int .i64 a2] rfl (by (try simp only [mA,mC,mN]);first|done|rfl) ?_;(with_reducible refine (impl_suit.calls a2 t264 _ A4.out).mono ?_);rintro e w' ⟨rfl,⟨nd,rfl⟩⟩;refine ⟨_,rfl,?_⟩)|((with_reducible refine gate_callee (f:=137) rfl ?_);refine goesL_ (some 10) rfl rfl Try.func137 (by kernel_rfl) rfl #[.int .i64 a1] rfl (by (try simp only [mA,mC,mN]);first|done|rfl) ?_;(with_reducible refine (impl_suit.calls a1 t265 _ A5.out).mono ?_);rintro e w' ⟨rfl,⟨nd,rfl⟩⟩;refine ⟨_,rfl,?_⟩))
  go_ret
  exact ⟨by first|rfl|(simp;done)|(simp [*];done),by repeat (first|exact Drawn0.refl _|apply Drawn0.step)⟩
 ·rw [if_neg c6] at H
  have c6b0 : (t264 == t265) = false:=beq_eq_false_iff_ne.mpr c6
  have c6b1 : (t264 != t265) = true:=bne_iff_ne.mpr c6
  replace H:=Option.bind_eq_some_iff.mp H
  obtain ⟨t266,A70,H⟩:=H
  replace H : (some (t266 == a0)) = some r:=H
  have A7:=aK A70
  clear A70
  obtain rfl:=Option.some.inj H
  go_enter Try.func132,Try.ntmps132
  go_wp2_with (first|((with_reducible refine gate_callee (f:=137) rfl ?_);refine goesL_ (some 8) rfl rfl Try.func137 (by kernel_rfl) rfl #[.int .i64 a2] rfl (by (try simp only [mA,mC,mN]);first|done|rfl) ?_;(with_reducible refine (impl_suit.calls a2 t264 _ A4.out).mono ?_);rintro e w' ⟨rfl,⟨nd,rfl⟩⟩;refine ⟨_,rfl,?_⟩)|((with_reducible refine gate_callee (f:=137) rfl ?_);refine goesL_ (some 10) rfl rfl Try.func137 (by kernel_rfl) rfl #[.int .i64 a1] rfl (by (try simp only [mA,mC,mN]);first|done|rfl) ?_;(with_reducible refine (impl_suit.calls a1 t265 _ A5.out).mono ?_);rintro e w' ⟨rfl,⟨nd,rfl⟩⟩;refine ⟨_,rfl,?_⟩)|((with_reducible refine gate_callee (f:=137) rfl ?_);refine goesL_ (some 16) rfl rfl Try.func137 (by kernel_rfl) rfl #[.int .i64 a2] rfl (by (try simp only [mA,mC,mN]);first|done|rfl) ?_;(with_reducible refine (impl_suit.calls a2 t266 _ A7.out).mono ?_);rintro e w' ⟨rfl,⟨nd,rfl⟩⟩;refine ⟨_,rfl,?_⟩))
  go_ret
  exact ⟨by first|rfl|(simp;done)|(simp [*];done),by repeat (first|exact Drawn0.refl _|apply Drawn0.step)⟩

end Go.Proofs.Ytakepkjcmgcepaa.QFnExactIsClaim
