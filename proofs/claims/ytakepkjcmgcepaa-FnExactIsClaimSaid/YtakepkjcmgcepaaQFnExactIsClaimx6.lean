/- The functions that the law FnExactIsClaim reaches, as plain functions, and the walks that show that the machine's calls answer so. Written by a program of this session (wip/myprint.py) on the kit's print. -/
import Derived.Test.YtakepkjcmgcepaaQFnExactIsClaimx0
import Derived.Test.YtakepkjcmgcepaaQFnExactIsClaimx2
import Derived.Test.YtakepkjcmgcepaaQFnExactIsClaimx3
import Derived.Test.YtakepkjcmgcepaaQFnExactIsClaimx5
namespace Go.Proofs.Ytakepkjcmgcepaa.QFnExactIsClaim
open Go.RowKit Go.Proofs.YtakepkjcmgcepaaW.PrintWords Go.Proofs.YtakepkjcmgcepaaW.PrintLast Go.Proofs.YtakepkjcmgcepaaW.PrintMore
attribute [local go_sem] max2_int min2_int max_two min_two max_three min_three max_four min_four   -- for this text's walks alone
set_option linter.unusedVariables false
set_option linter.unusedSimpArgs false

/-! ### spec_IsPlay: function 45 -/
mutual
def spec_IsPlay.j0 : Nat → Bool → List (List Int) → Int → Int → List Int → Option (Bool)
 | 0,_,_,_,_,_=>none
 | k + 1,x13,x232000,x233000,x233001,x233002=>if x13 = true then (some false) else (spec_IsPlay.l0 k 0 x232000 x233000 x233001 x233002)
def spec_IsPlay.l0 : Nat → Int → List (List Int) → Int → Int → List Int → Option (Bool)
 | 0,_,_,_,_,_=>none
 | k + 1,x5,x232000,x233000,x233001,x233002=>if x5 < (x233002.length : Int) then ((spec_l08Begin.f x233000 x233001 x233002 x5).bind fun bt235=>((spec_l08Legal.f k x232000 bt235.1 bt235.2.1 bt235.2.2).bind fun t240=>(if 0 ≤ x5 then ((spec_l01Has.f k t240 (rd x233002 x5)).bind fun t244=>(if t244 = true then (spec_IsPlay.l0 k (wrap64 (x5 + 1)) x232000 x233000 x233001 x233002) else (some false))) else (none)))) else (some true)
end
def spec_IsPlay.f (k : Nat) (l0_0 : List (List Int)) (a1_0 : Int) (a1_1 : Int) (l1_2 : List Int) : Option (Bool) := (spec_IsDeal.f k l0_0).bind fun t233 => (if t233 = true then ((spec_IsPlainPlay.f k a1_0 a1_1 l1_2).bind fun t234 => (spec_IsPlay.j0 k (!t234) l0_0 a1_0 a1_1 l1_2)) else (spec_IsPlay.j0 k true l0_0 a1_0 a1_1 l1_2))
theorem spec_IsPlay.mono_l : ∀ k, (∀ y0 y1 y2 y3 y4, LeO (spec_IsPlay.j0 k y0 y1 y2 y3 y4) (spec_IsPlay.j0 (k + 1) y0 y1 y2 y3 y4)) ∧ (∀ y0 y1 y2 y3 y4, LeO (spec_IsPlay.l0 k y0 y1 y2 y3 y4) (spec_IsPlay.l0 (k + 1) y0 y1 y2 y3 y4))
 | 0=>⟨fun _ _ _ _ _ r h=>by simp [spec_IsPlay.j0] at h,fun _ _ _ _ _ r h=>by simp [spec_IsPlay.l0] at h⟩
 | k + 1=>by
  obtain ⟨ih0,ih1⟩:=spec_IsPlay.mono_l k
  refine ⟨?_,?_⟩
  ·intro y0 y1 y2 y3 y4
   unfold spec_IsPlay.j0
   repeat' first
   | (with_reducible exact ih0 _ _ _ _ _)
   | (with_reducible exact ih1 _ _ _ _ _)
   | (with_reducible exact spec_IsDeal.mono _ _)
   | (with_reducible exact spec_IsPlainPlay.mono _ _ _ _)
   | (with_reducible exact spec_l01Has.mono _ _ _)
   | (with_reducible exact spec_l08Legal.mono _ _ _ _ _)
   | (with_reducible exact LeO.refl _)
   | (with_reducible exact LeO.none _)
   | (with_reducible refine LeO.ite ?_ ?_)
   | (with_reducible refine LeO.bind ?_ (fun _=>?_))
   | exact ih0 _ _ _ _ _
   | exact ih1 _ _ _ _ _
   | exact spec_IsDeal.mono _ _
   | exact spec_IsPlainPlay.mono _ _ _ _
   | exact spec_l01Has.mono _ _ _
   | exact spec_l08Legal.mono _ _ _ _ _
   | exact LeO.none _
   | refine LeO.ite ?_ ?_
   | refine LeO.bind ?_ (fun _=>?_)
  ·intro y0 y1 y2 y3 y4
   unfold spec_IsPlay.l0
   repeat' first
   | (with_reducible exact ih0 _ _ _ _ _)
   | (with_reducible exact ih1 _ _ _ _ _)
   | (with_reducible exact spec_IsDeal.mono _ _)
   | (with_reducible exact spec_IsPlainPlay.mono _ _ _ _)
   | (with_reducible exact spec_l01Has.mono _ _ _)
   | (with_reducible exact spec_l08Legal.mono _ _ _ _ _)
   | (with_reducible exact LeO.refl _)
   | (with_reducible exact LeO.none _)
   | (with_reducible refine LeO.ite ?_ ?_)
   | (with_reducible refine LeO.bind ?_ (fun _=>?_))
   | exact ih0 _ _ _ _ _
   | exact ih1 _ _ _ _ _
   | exact spec_IsDeal.mono _ _
   | exact spec_IsPlainPlay.mono _ _ _ _
   | exact spec_l01Has.mono _ _ _
   | exact spec_l08Legal.mono _ _ _ _ _
   | exact LeO.none _
   | refine LeO.ite ?_ ?_
   | refine LeO.bind ?_ (fun _=>?_)
theorem spec_IsPlay.mono : ∀ a0 a1 a2 a3 k, LeO (spec_IsPlay.f k a0 a1 a2 a3) (spec_IsPlay.f (k + 1) a0 a1 a2 a3) := by
 intro a0 a1 a2 a3 k
 obtain ⟨ih0,ih1⟩:=spec_IsPlay.mono_l k
 unfold spec_IsPlay.f
 repeat' first
   | (with_reducible exact ih0 _ _ _ _ _)
   | (with_reducible exact ih1 _ _ _ _ _)
   | (with_reducible exact spec_IsDeal.mono _ _)
   | (with_reducible exact spec_IsPlainPlay.mono _ _ _ _)
   | (with_reducible exact spec_l01Has.mono _ _ _)
   | (with_reducible exact spec_l08Legal.mono _ _ _ _ _)
   | (with_reducible exact LeO.refl _)
   | (with_reducible exact LeO.none _)
   | (with_reducible refine LeO.ite ?_ ?_)
   | (with_reducible refine LeO.bind ?_ (fun _=>?_))
   | exact ih0 _ _ _ _ _
   | exact ih1 _ _ _ _ _
   | exact spec_IsDeal.mono _ _
   | exact spec_IsPlainPlay.mono _ _ _ _
   | exact spec_l01Has.mono _ _ _
   | exact spec_l08Legal.mono _ _ _ _ _
   | exact LeO.none _
   | refine LeO.ite ?_ ?_
   | refine LeO.bind ?_ (fun _=>?_)
def spec_IsPlay.T6 : Bool × List (List Nat × List Nat) := (true, [([], []), ([], []), ([], []), ([1, 2], [1, 2]), ([0, 3, 3], [0, 3]), ([], []), ([5], [5]), ([], []), ([6, 7], [6, 7]), ([8], [8]), ([4, 9, 4], [4, 9]), ([10], [10])])
def spec_IsPlay.B6 : List Nat := [0, 0, 0, 6, 15, 0, 32, 0, 224, 480, 1023, 2047]
theorem spec_IsPlay.tab6 : rtab .any (opsOf Try.f45 6) = spec_IsPlay.T6 := by kernel_rfl
theorem spec_IsPlay.bits6 : waitsOk spec_IsPlay.T6.2 spec_IsPlay.B6 = true := by kernel_rfl
set_option maxHeartbeats 8000000 in
set_option maxRecDepth 100000 in
theorem spec_IsPlay.calls (k : Nat) (A0_0 : Option Addr) (c0_0 : Nat) (l0_0 : List (List Int)) (a1_0 : Int) (a1_1 : Int) (A1_2 : Option Addr) (c1_2 : Nat) (l1_2 : List Int) (r : Bool) (w : World) (hr0_0 : Kd.C (Kd.slice 2 (Kd.int .i64)) w A0_0 l0_0.length l0_0) (hc0_0 : l0_0.length ≤ c0_0) (hr1_2 : Kd.C (Kd.int .i64) w A1_2 l1_2.length l1_2) (hc1_2 : l1_2.length ≤ c1_2) (h : spec_IsPlay.f k l0_0 a1_0 a1_1 l1_2 = some r) :
  Calls Try.prog 45 #[.agg #[.slice A0_0 l0_0.length c0_0],.agg #[.int .i64 a1_0,.int .i64 a1_1,.slice A1_2 l1_2.length c1_2]] w fun e w'=>e = .returned (.bool r) ∧ Below w.heap.size w w':=by
 have hu44:=Try.underlying44
 have hu27:=Try.underlying27
 have HR0_0:=aK hr0_0
 have HC0_0:=aK hc0_0
 clear hr0_0 hc0_0
 have HR1_2:=aK hr1_2
 have HC1_2:=aK hc1_2
 clear hr1_2 hc1_2
 have HB:=aK (Below.refl w.heap.size w)
 have H : ((spec_IsDeal.f k l0_0).bind fun t233=>(if t233 = true then ((spec_IsPlainPlay.f k a1_0 a1_1 l1_2).bind fun t234=>(spec_IsPlay.j0 k (!t234) l0_0 a1_0 a1_1 l1_2)) else (spec_IsPlay.j0 k true l0_0 a1_0 a1_1 l1_2))) = some r:=h
 clear h
 have HC3:=aK H
 clear H
 go_enter Try.func45,Try.ntmps45
 go_upto_region 1 with (first|((with_reducible refine gate_dst (N:=2) rfl ?_);refine box_event ?hg (N:=2) ?hd (cs:=#[.slice A0_0 l0_0.length c0_0]) (t:=44) ?hr ?_;(case hd=>rfl);(case hg=>rfl);(case hr=>first|(go_simp;done)|(go_simp;rfl));intro gb231 hg w4 hbox hb;have n0_:=aK (below_step (bW HB.out) hb);have n1_:=aK (hbox);have n2_:=aK ((by rw [hg];exact (below_size (bW HB.out)) : w.heap.size ≤ gb231));have n3_:=aK ((by rw [hg];exact (below_size (bW HB.out)) : w.heap.size ≤ gb231));clear HB;have HB:=n0_;have BK231:=n1_;have GW231:=n2_;have GE231:=n3_;clear n0_ n1_ n2_ n3_;clear hb hbox hg)|((with_reducible refine gate_dst (N:=3) rfl ?_);refine box_event ?hg (N:=3) ?hd (cs:=#[.int .i64 a1_0,.int .i64 a1_1,.slice A1_2 l1_2.length c1_2]) (t:=27) ?hr ?_;(case hd=>rfl);(case hg=>rfl);(case hr=>first|(go_simp;done)|(go_simp;rfl));intro gb232 hg w5 hbox hb;have n0_:=aK (bB (bX BK231.out) hb);have n1_:=aK (below_step (bW HB.out) hb);have n2_:=aK (hbox);have n3_:=aK ((by rw [hg];exact (below_size (bW HB.out)) : w.heap.size ≤ gb232));have n4_:=aK ((by rw [hg];exact (below_size (bW HB.out)) : w.heap.size ≤ gb232));have n5_:=aK ((by rw [hg];exact Nat.ne_of_lt (blk_lt (bX BK231.out)) : gb231 ≠ gb232));have n6_:=aK ((by rw [hg];exact Nat.ne_of_gt (blk_lt (bX BK231.out)) : gb232 ≠ gb231));clear BK231;clear HB;have BK231:=n0_;have HB:=n1_;have BK232:=n2_;have GW232:=n3_;have GE232:=n4_;have NB231_232:=n5_;have NB232_231:=n6_;clear n0_ n1_ n2_ n3_ n4_ n5_ n6_;clear hb hbox hg))
 (try simp only [Act.put,lA,l0',lS])
 go_cut [13] (fun v13 wc=>∃ (kq : Nat) (x13_2 : Bool),v13 = .bool x13_2 ∧ Aside0 (spec_IsPlay.j0 kq x13_2 l0_0 a1_0 a1_1 l1_2 = some r) ∧ Aside0 (kq ≤ k) ∧ Aside0 (wc.heap[gb231]? = some (.cells #[(.slice A0_0 l0_0.length c0_0)] 44 (0,0))) ∧ Aside0 (wc.heap[gb232]? = some (.cells #[.int .i64 a1_0,.int .i64 a1_1,(.slice A1_2 l1_2.length c1_2)] 27 (0,0))) ∧ Aside0 (Below w.heap.size w wc))
 case first =>
  have H:=HC3.out
  clear HC3
  replace H:=Option.bind_eq_some_iff.mp H
  obtain ⟨t233,A60,H⟩:=H
  replace H : (if t233 = true then ((spec_IsPlainPlay.f k a1_0 a1_1 l1_2).bind fun t234=>(spec_IsPlay.j0 k (!t234) l0_0 a1_0 a1_1 l1_2)) else (spec_IsPlay.j0 k true l0_0 a1_0 a1_1 l1_2)) = some r:=H
  have A6:=aK A60
  clear A60
  by_cases c7 : t233 = true
  ·subst c7
   have H1 : ((spec_IsPlainPlay.f k a1_0 a1_1 l1_2).bind fun t234=>(spec_IsPlay.j0 k (!t234) l0_0 a1_0 a1_1 l1_2)) = some r:=by rw [if_pos rfl] at H;exact H
   clear H
   have H:=H1
   clear H1
   replace H:=Option.bind_eq_some_iff.mp H
   obtain ⟨t234,A80,H⟩:=H
   replace H : (spec_IsPlay.j0 k (!t234) l0_0 a1_0 a1_1 l1_2) = some r:=H
   have A8:=aK A80
   clear A80
   have H':=aK H
   clear H
   have hnb9:=NB231_232.out
   have hnc9:=NB232_231.out
   have hcz10_0 : w5.cell? ⟨gb231,0,none⟩ = some (.slice A0_0 l0_0.length c0_0):=(bC BK231.out 0).trans rfl
   have hfz10_0:=blk_frozen BK231.out 0
   go_wp2_with (first|((with_reducible refine gate_callee (f:=102) rfl ?_);refine goesL_ (some 7) rfl rfl Try.func102 (by kernel_rfl) rfl #[.agg #[.slice A0_0 l0_0.length c0_0]] rfl (by (try simp only [mA,mC,mN]);first|done|rfl) ?_;(with_reducible refine (spec_IsDeal.calls k _ _ l0_0 true _ ?side1 ?side2 A6.out).mono ?_);(case side1=>repeat (first|exact (Kd.C_below HR0_0.out HB.out)|(with_reducible refine Kd.C_alloc ?_ _)|(with_reducible refine Kd.C_drewN ?_ _)|(with_reducible refine Kd.C_drew ?_)));(case side2=>exact HC0_0.out);rintro e w11 ⟨rfl,hb⟩;refine ⟨_,rfl,?_⟩;have n0_:=aK (bB (bX BK231.out) hb);have n1_:=aK (bB (bX BK232.out) hb);have n2_:=aK (below_step (bW HB.out) hb);clear BK231;clear BK232;clear HB;have BK231:=n0_;have BK232:=n1_;have HB:=n2_;clear n0_ n1_ n2_;(try clear hb);(try clear hb2);(try clear hk);(try clear hi);have hcz12_0 : w11.cell? ⟨gb232,0,none⟩ = some (.int .i64 a1_0):=(bC BK232.out 0).trans rfl;have hcz12_1 : w11.cell? ⟨gb232,1,none⟩ = some (.int .i64 a1_1):=(bC BK232.out 1).trans rfl;have hcz12_2 : w11.cell? ⟨gb232,2,none⟩ = some (.slice A1_2 l1_2.length c1_2):=(bC BK232.out 2).trans rfl;have hfz12_0:=blk_frozen BK232.out 0;have hfz12_1:=blk_frozen BK232.out 1;have hfz12_2:=blk_frozen BK232.out 2)|(go_at_call 23;(with_reducible refine (spec_IsPlainPlay.calls k a1_0 a1_1 _ _ l1_2 t234 _ ?side1 ?side2 A8.out).mono ?_);(case side1=>repeat (first|exact (Kd.C_below HR1_2.out HB.out)|(with_reducible refine Kd.C_alloc ?_ _)|(with_reducible refine Kd.C_drewN ?_ _)|(with_reducible refine Kd.C_drew ?_)));(case side2=>exact HC1_2.out);rintro e w13 ⟨rfl,hb⟩;have n0_:=aK (bB (bX BK231.out) hb);have n1_:=aK (bB (bX BK232.out) hb);have n2_:=aK (below_step (bW HB.out) hb);clear BK231;clear BK232;clear HB;have BK231:=n0_;have BK232:=n1_;have HB:=n2_;clear n0_ n1_ n2_;(try clear hb);(try clear hb2);(try clear hk);(try clear hi)))
   go_meet
   case rel=>exact ⟨_,(!t234),(by first|rfl|(simp;done)|(simp [*];done)),H',⟨by first|omega|exact Nat.le_refl _⟩,⟨by (with_reducible repeat first|apply bN|apply bD|apply bA);exact BK231.out⟩,⟨by (with_reducible repeat first|apply bN|apply bD|apply bA);exact BK232.out⟩,⟨bW HB.out⟩⟩
  ·replace c7:=Bool.eq_false_iff.mpr c7
   subst c7
   have H1 : (spec_IsPlay.j0 k true l0_0 a1_0 a1_1 l1_2) = some r:=by rw [if_neg (show ¬ (false = true) by decide)] at H;exact H
   clear H
   have H:=H1
   clear H1
   have H':=aK H
   clear H
   have hnb14:=NB231_232.out
   have hnc14:=NB232_231.out
   have hcz15_0 : w5.cell? ⟨gb231,0,none⟩ = some (.slice A0_0 l0_0.length c0_0):=(bC BK231.out 0).trans rfl
   have hfz15_0:=blk_frozen BK231.out 0
   go_wp2_with (first|((with_reducible refine gate_callee (f:=102) rfl ?_);refine goesL_ (some 7) rfl rfl Try.func102 (by kernel_rfl) rfl #[.agg #[.slice A0_0 l0_0.length c0_0]] rfl (by (try simp only [mA,mC,mN]);first|done|rfl) ?_;(with_reducible refine (spec_IsDeal.calls k _ _ l0_0 false _ ?side1 ?side2 A6.out).mono ?_);(case side1=>repeat (first|exact (Kd.C_below HR0_0.out HB.out)|(with_reducible refine Kd.C_alloc ?_ _)|(with_reducible refine Kd.C_drewN ?_ _)|(with_reducible refine Kd.C_drew ?_)));(case side2=>exact HC0_0.out);rintro e w16 ⟨rfl,hb⟩;refine ⟨_,rfl,?_⟩;have n0_:=aK (bB (bX BK231.out) hb);have n1_:=aK (bB (bX BK232.out) hb);have n2_:=aK (below_step (bW HB.out) hb);clear BK231;clear BK232;clear HB;have BK231:=n0_;have BK232:=n1_;have HB:=n2_;clear n0_ n1_ n2_;(try clear hb);(try clear hb2);(try clear hk);(try clear hi)))
   go_meet
   case rel=>exact ⟨_,(true),(by first|rfl|(simp;done)|(simp [*];done)),H',⟨by first|omega|exact Nat.le_refl _⟩,⟨by (with_reducible repeat first|apply bN|apply bD|apply bA);exact BK231.out⟩,⟨by (with_reducible repeat first|apply bN|apply bD|apply bA);exact BK232.out⟩,⟨bW HB.out⟩⟩
 case rest =>
  clear HC3
  try clear c1
  try clear p2
  try clear c4
  try clear c7
  try clear c9
  try clear c10
  try clear c14
  try clear hcz10_0
  try clear hcz12_0
  try clear hcz12_1
  try clear hcz12_2
  try clear hcz15_0
  try clear hfz10_0
  try clear hfz12_0
  try clear hfz12_1
  try clear hfz12_2
  try clear hfz15_0
  obtain ⟨kq,x13_2,rfl,HA,HJ2,BK231,BK232,HB⟩:=hcut
  cases kq with
  | zero=>exact absurd HA.out (by simp [spec_IsPlay.j0])
  | succ kj2 =>
   have H:=HA.out
   clear HA
   simp only [spec_IsPlay.j0] at H
   by_cases c17 : x13_2 = true
   ·subst c17
    have H1 : (some false) = some r:=by rw [if_pos rfl] at H;exact H
    clear H
    have H:=H1
    clear H1
    obtain rfl:=Option.some.inj H
    go_wp2
    go_ret
    exact ⟨by first|rfl|(simp [errW_none,errW_some] <;> rfl)|(simp [*,errW_none,errW_some] <;> rfl),bW HB.out⟩
   ·replace c17:=Bool.eq_false_iff.mpr c17
    subst c17
    have H1 : (spec_IsPlay.l0 kj2 0 l0_0 a1_0 a1_1 l1_2) = some r:=by rw [if_neg (show ¬ (false = true) by decide)] at H;exact H
    clear H
    have H:=H1
    clear H1
    have H':=aK H
    clear H
    go_wp2
    go_loopg [5] kj2 (fun kq v5 w'=>∃ (x5_2 : Int),v5 = .int .i64 x5_2 ∧ Aside0 (spec_IsPlay.l0 kq x5_2 l0_0 a1_0 a1_1 l1_2 = some r) ∧ Aside0 (kq ≤ kj2) ∧ Aside0 (w'.heap[gb231]? = some (.cells #[(.slice A0_0 l0_0.length c0_0)] 44 (0,0))) ∧ Aside0 (w'.heap[gb232]? = some (.cells #[.int .i64 a1_0,.int .i64 a1_1,(.slice A1_2 l1_2.length c1_2)] 27 (0,0))) ∧ Aside0 (Below w.heap.size w w'))
    case atStart=>exact ⟨(0),(by first|rfl|(simp;done)|(simp [*];done)),H',⟨Nat.le_refl _⟩,⟨by (with_reducible repeat first|apply bN|apply bD|apply bA);exact BK231.out⟩,⟨by (with_reducible repeat first|apply bN|apply bD|apply bA);exact BK232.out⟩,⟨bW HB.out⟩⟩
    case round =>
     clear H'
     try clear c1
     try clear p2
     try clear c4
     try clear c7
     try clear c9
     try clear c10
     try clear c14
     try clear c17
     try clear hcz10_0
     try clear hcz12_0
     try clear hcz12_1
     try clear hcz12_2
     try clear hcz15_0
     try clear hfz10_0
     try clear hfz12_0
     try clear hfz12_1
     try clear hfz12_2
     try clear hfz15_0
     try clear p2
     obtain ⟨x5_2,rfl,HA,HK2,BK231,BK232,HB⟩:=hrel
     cases gk with
     | zero=>exact absurd HA.out (by simp [spec_IsPlay.l0])
     | succ k2 =>
      have H:=HA.out
      clear HA
      simp only [spec_IsPlay.l0] at H
      by_cases c18 : x5_2 < (l1_2.length : Int)
      ·rw [if_pos c18] at H
       have c18b0 : decide (x5_2 < (l1_2.length : Int)) = true:=decide_eq_true c18
       clear c18
       replace H:=Option.bind_eq_some_iff.mp H
       obtain ⟨⟨t235,t236,t237⟩,A190,H⟩:=H
       replace H : ((spec_l08Legal.f k2 l0_0 t235 t236 t237).bind fun t240=>(if 0 ≤ x5_2 then ((spec_l01Has.f k2 t240 (rd l1_2 x5_2)).bind fun t244=>(if t244 = true then (spec_IsPlay.l0 k2 (wrap64 (x5_2 + 1)) l0_0 a1_0 a1_1 l1_2) else (some false))) else (none))) = some r:=H
       have A19:=aK A190
       clear A190
       replace H:=Option.bind_eq_some_iff.mp H
       obtain ⟨t240,A200,H⟩:=H
       replace H : (if 0 ≤ x5_2 then ((spec_l01Has.f k2 t240 (rd l1_2 x5_2)).bind fun t244=>(if t244 = true then (spec_IsPlay.l0 k2 (wrap64 (x5_2 + 1)) l0_0 a1_0 a1_1 l1_2) else (some false))) else (none)) = some r:=H
       have A20:=aK A200
       clear A200
       by_cases c21 : 0 ≤ x5_2
       ·rw [if_pos c21] at H
        have c21b0 : decide (0 ≤ x5_2) = true:=decide_eq_true c21
        clear c21
        replace H:=Option.bind_eq_some_iff.mp H
        obtain ⟨t244,A220,H⟩:=H
        replace H : (if t244 = true then (spec_IsPlay.l0 k2 (wrap64 (x5_2 + 1)) l0_0 a1_0 a1_1 l1_2) else (some false)) = some r:=H
        have A22:=aK A220
        clear A220
        by_cases c23 : t244 = true
        ·subst c23
         have H1 : (spec_IsPlay.l0 k2 (wrap64 (x5_2 + 1)) l0_0 a1_0 a1_1 l1_2) = some r:=by rw [if_pos rfl] at H;exact H
         clear H
         have H:=H1
         clear H1
         have H':=aK H
         clear H
         have hnb24:=NB232_231.out
         have hnc24:=NB231_232.out
         have hcz25_0 : wr.cell? ⟨gb232,0,none⟩ = some (.int .i64 a1_0):=(bC BK232.out 0).trans rfl
         have hcz25_1 : wr.cell? ⟨gb232,1,none⟩ = some (.int .i64 a1_1):=(bC BK232.out 1).trans rfl
         have hcz25_2 : wr.cell? ⟨gb232,2,none⟩ = some (.slice A1_2 l1_2.length c1_2):=(bC BK232.out 2).trans rfl
         have hfz25_0:=blk_frozen BK232.out 0
         have hfz25_1:=blk_frozen BK232.out 1
         have hfz25_2:=blk_frozen BK232.out 2
         try go_wp2
         have n0_:=aK (bD BK231.out)
         have n1_:=aK (bD BK232.out)
         have n2_:=aK (b1 HB.out)
         clear BK231
         clear BK232
         clear HB
         have BK231:=n0_
         have BK232:=n1_
         have HB:=n2_
         clear n0_ n1_ n2_
         have p243 : 0 ≤ (x5_2 : Int):=of_decide_eq_true (by first|(with_reducible assumption)|assumption)
         have q243 : x5_2 < (l1_2.length : Int):=of_decide_eq_true (by first|(with_reducible assumption)|assumption)
         obtain ⟨ad243,e243,hx243_0⟩:=Kd.at_int HR1_2.out x5_2 p243 q243
         have hw243_0:=hx243_0
         cases e243
         replace hx243_0:=(HB.out.cell (World.block_lt_of_cell? w _ hx243_0)).trans hx243_0
         replace p243:=eq_true p243
         replace q243:=eq_true q243
         refine start_ (n:=12) (S:=fun w'=>w'.cell? ⟨gb231,0,none⟩ = some (.slice A0_0 l0_0.length c0_0) ∧ w'.cell? ⟨gb232,0,none⟩ = some (.int .i64 a1_0) ∧ w'.cell? ⟨gb232,1,none⟩ = some (.int .i64 a1_1) ∧ w'.cell? ⟨gb232,2,none⟩ = some (.slice (some ad243) l1_2.length c1_2) ∧ w'.cell? (ad243.add (x5_2).toNat) = some (.int .i64 (rd l1_2 x5_2))) (ds:=[]) #[false,false,false,false,false,false,false,false,false,false,false,false] (by kernel_rfl) rfl rfl ⟨(bC BK231.out 0).trans rfl,(bC BK232.out 0).trans rfl,(bC BK232.out 1).trans rfl,(bC BK232.out 2).trans rfl,((HB.out.cell (World.block_lt_of_cell? w _ hw243_0)).trans hw243_0)⟩ (fun hHeld=>?_);refine with_tabW spec_IsPlay.tab6 spec_IsPlay.bits6 (fun HT_ HW_=>?_)
         generalize wr.drew = w26 at BK231 BK232 HB hx243_0 hHeld ⊢
         refine pure_ (i:=2) (N:=some 23) (v:=?_) (a':=?_) #[false,false,true,false,false,false,false,false,false,false,false,false] rfl rfl (any_of HT_.out (by kernel_rfl)) (fun _ _ _ h=>h) (Or.inl ⟨by rfl,?_⟩) ?_ ?_
         rotate_left
         ·intro w'
          go_simp
          with_reducible rfl
         rotate_left
         ·simp only [Act.put,lA,l0',lS,i64_w,i32_w]
          rfl
         refine pure_ (i:=5) (N:=some 26) (v:=?_) (a':=?_) #[false,false,true,false,false,true,false,false,false,false,false,false] rfl rfl (any_of HT_.out (by kernel_rfl)) (fun _ _ _ h=>h) (Or.inl ⟨by rfl,?_⟩) ?_ ?_
         rotate_left
         ·intro w'
          go_simp
          with_reducible rfl
         rotate_left
         ·simp only [Act.put,lA,l0',lS,i64_w,i32_w]
          rfl
         refine pure_ (i:=7) (N:=some 28) (v:=?_) (a':=?_) #[false,false,true,false,false,true,false,true,false,false,false,false] rfl rfl (any_of HT_.out (by kernel_rfl)) (fun _ _ _ h=>h) (Or.inl ⟨by rfl,?_⟩) ?_ ?_
         rotate_left
         ·intro w'
          go_simp
          with_reducible rfl
         rotate_left
         ·simp only [Act.put,lA,l0',lS,i64_w,i32_w]
          rfl
         refine take_ (i:=0) (N:=some 21) (v:=?_) (a':=?_) #[true,false,true,false,false,true,false,true,false,false,false,false] rfl rfl (take_ofW HT_.out HW_.out (by kernel_rfl)) (fun _ _ _ h=>h) (Or.inl ⟨by rfl,?_⟩) hHeld ?_ ?_
         rotate_left
         ·rintro w' ⟨s0,s1,s2,s3,s4⟩
          go_simp
          with_reducible rfl
         rotate_left
         ·simp only [Act.put,lA,l0',lS,i64_w,i32_w]
          rfl
         refine take_ (i:=1) (N:=some 22) (v:=?_) (a':=?_) #[true,true,true,false,false,true,false,true,false,false,false,false] rfl rfl (take_ofW HT_.out HW_.out (by kernel_rfl)) (fun _ _ _ h=>h) (Or.inl ⟨by rfl,?_⟩) hHeld ?_ ?_
         rotate_left
         ·rintro w' ⟨s0,s1,s2,s3,s4⟩
          go_simp
          with_reducible rfl
         rotate_left
         ·simp only [Act.put,lA,l0',lS,i64_w,i32_w]
          rfl
         refine take_ (i:=6) (N:=some 27) (v:=?_) (a':=?_) #[true,true,true,false,false,true,true,true,false,false,false,false] rfl rfl (take_ofW HT_.out HW_.out (by kernel_rfl)) (fun _ _ _ h=>h) (Or.inl ⟨by rfl,?_⟩) hHeld ?_ ?_
         rotate_left
         ·rintro w' ⟨s0,s1,s2,s3,s4⟩
          go_simp
          with_reducible rfl
         rotate_left
         ·simp only [Act.put,lA,l0',lS,i64_w,i32_w]
          rfl
         refine pure_ (i:=8) (N:=some 29) (v:=?_) (a':=?_) #[true,true,true,false,false,true,true,true,true,false,false,false] rfl rfl (any_of HT_.out (by kernel_rfl)) (fun _ _ _ h=>h) (Or.inl ⟨by rfl,?_⟩) ?_ ?_
         rotate_left
         ·intro w'
          go_simp
          with_reducible rfl
         rotate_left
         ·simp only [Act.put,lA,l0',lS,i64_w,i32_w]
          rfl
         refine take_ (i:=9) (N:=some 30) (v:=?_) (a':=?_) #[true,true,true,false,false,true,true,true,true,true,false,false] rfl rfl (take_ofW HT_.out HW_.out (by kernel_rfl)) (fun _ _ _ h=>h) (Or.inl ⟨by rfl,?_⟩) hHeld ?_ ?_
         rotate_left
         ·rintro w' ⟨s0,s1,s2,s3,s4⟩
          go_simp
          with_reducible rfl
         rotate_left
         ·simp only [Act.put,lA,l0',lS,i64_w,i32_w]
          rfl
         refine one_ (i:=3) (N:=some 24) #[true,true,true,true,false,true,true,true,true,true,false,false] rfl rfl (one_of HT_.out (by kernel_rfl)) (by decide) (fun K hK=>?_)
         refine goes_ Try.func104 (by kernel_rfl) rfl #[.agg #[.int .i64 a1_0,.int .i64 a1_1,.slice (some ad243) l1_2.length c1_2],.int .i64 x5_2] (by rfl) rfl rfl (by (try simp only [mA,mC,mN]);first|done|rfl) ?_
         with_reducible refine (spec_l08Begin.calls a1_0 a1_1 _ _ l1_2 x5_2 t235 t236 t237 _ ?side1 ?side2 A19.out).mono ?_
         (case side1=>repeat (first|exact (Kd.C_below HR1_2.out HB.out)|(with_reducible refine Kd.C_alloc ?_ _)|(with_reducible refine Kd.C_drewN ?_ _)|(with_reducible refine Kd.C_drew ?_)))
         (case side2=>exact HC1_2.out)
         rintro e w27 ⟨v238,rfl,ho0,hb⟩
         refine ⟨_,rfl,?_⟩
         have n0_:=aK (Kd.R_lower ho0 (below_size (bW HB.out)))
         have n1_:=aK (bB (bX BK231.out) hb)
         have n2_:=aK (bB (bX BK232.out) hb)
         have n3_:=aK (below_step (bW HB.out) hb)
         clear BK231
         clear BK232
         clear HB
         have HO239:=n0_
         have BK231:=n1_
         have BK232:=n2_
         have HB:=n3_
         clear n0_ n1_ n2_ n3_
         (try clear hb)
         (try clear hb2)
         (try clear hk)
         (try clear hi)
         (try clear ho0)
         obtain ⟨Ao28,co28,eo28⟩:=Kd.R_slice HO239.out
         (first|subst eo28|(injection eo28 with f1_ f2_ f3_;have f4_:=f1_.symm;have f5_:=f3_.symm;clear f1_ f2_ f3_;subst f4_;subst f5_))
         refine hK.out _ _ ⟨(bC BK231.out 0).trans rfl,(bC BK232.out 0).trans rfl,(bC BK232.out 1).trans rfl,(bC BK232.out 2).trans rfl,((HB.out.cell (World.block_lt_of_cell? w _ hw243_0)).trans hw243_0)⟩ (fun hHeld=>?_)
         clear hK K
         refine norm_ (a':=?_) ?_ ?_
         rotate_left
         ·show Act.put _ (some 24) _ = _
          simp only [Act.put,lA,l0',lS,i64_w,i32_w]
          rfl
         refine one_ (i:=4) (N:=some 25) #[true,true,true,true,true,true,true,true,true,true,false,false] rfl rfl (one_of HT_.out (by kernel_rfl)) (by decide) (fun K hK=>?_)
         refine goes_ Try.func107 (by kernel_rfl) rfl #[.agg #[.slice A0_0 l0_0.length c0_0],.agg #[.int .i64 t235,.int .i64 t236,.slice Ao28 t237.length co28]] (by rfl) rfl rfl (by (try simp only [mA,mC,mN]);first|done|rfl) ?_
         with_reducible refine (spec_l08Legal.calls k2 _ _ l0_0 t235 t236 _ _ t237 t240 _ ?side1 ?side2 ?side3 ?side4 A20.out).mono ?_
         (case side1=>repeat (first|exact (Kd.C_below HR0_0.out HB.out)|(with_reducible refine Kd.C_alloc ?_ _)|(with_reducible refine Kd.C_drewN ?_ _)|(with_reducible refine Kd.C_drew ?_)))
         (case side2=>exact HC0_0.out)
         (case side3=>repeat (first|exact (Kd.R_reads' HO239.out).2.2|(with_reducible refine Kd.C_alloc ?_ _)|(with_reducible refine Kd.C_drewN ?_ _)|(with_reducible refine Kd.C_drew ?_)))
         (case side4=>exact (Kd.R_reads' HO239.out).2.1)
         rintro e w29 ⟨v241,rfl,ho0,hb⟩
         refine ⟨_,rfl,?_⟩
         have n0_:=aK (Kd.R_elder' (rX HO239.out) (Kd.R_base ho0) hb)
         have n1_:=aK (Kd.R_lower (Kd.R_new' ho0 (Kd.R_lt (rX HO239.out))) (below_size (bW HB.out)))
         have n2_:=aK (bB (bX BK231.out) hb)
         have n3_:=aK (bB (bX BK232.out) hb)
         have n4_:=aK (below_step (bW HB.out) hb)
         clear HO239
         clear BK231
         clear BK232
         clear HB
         have HO239:=n0_
         have HO242:=n1_
         have BK231:=n2_
         have BK232:=n3_
         have HB:=n4_
         clear n0_ n1_ n2_ n3_ n4_
         (try clear hb)
         (try clear hb2)
         (try clear hk)
         (try clear hi)
         (try clear ho0)
         obtain ⟨Ao30,co30,eo30⟩:=Kd.R_slice HO242.out
         (first|subst eo30|(injection eo30 with f1_ f2_ f3_;have f4_:=f1_.symm;have f5_:=f3_.symm;clear f1_ f2_ f3_;subst f4_;subst f5_))
         refine hK.out _ _ ⟨(bC BK231.out 0).trans rfl,(bC BK232.out 0).trans rfl,(bC BK232.out 1).trans rfl,(bC BK232.out 2).trans rfl,((HB.out.cell (World.block_lt_of_cell? w _ hw243_0)).trans hw243_0)⟩ (fun hHeld=>?_)
         clear hK K
         refine norm_ (a':=?_) ?_ ?_
         rotate_left
         ·show Act.put _ (some 25) _ = _
          simp only [Act.put,lA,l0',lS,i64_w,i32_w]
          rfl
         refine one_ (i:=10) (N:=some 31) #[true,true,true,true,true,true,true,true,true,true,true,false] rfl rfl (one_of HT_.out (by kernel_rfl)) (by decide) (fun K hK=>?_)
         refine goes_ Try.func82 (by kernel_rfl) rfl #[.slice Ao30 t240.length co30,.int .i64 (rd l1_2 x5_2)] (by rfl) rfl rfl (by (try simp only [mA,mC,mN]);first|done|rfl) ?_
         with_reducible refine (spec_l01Has.calls k2 _ _ t240 (rd l1_2 x5_2) true _ ?side1 ?side2 A22.out).mono ?_
         (case side1=>repeat (first|exact (Kd.R_reads' HO242.out).2.2|(with_reducible refine Kd.C_alloc ?_ _)|(with_reducible refine Kd.C_drewN ?_ _)|(with_reducible refine Kd.C_drew ?_)))
         (case side2=>exact (Kd.R_reads' HO242.out).2.1)
         rintro e w' ⟨rfl,⟨nd,rfl⟩⟩
         refine ⟨_,rfl,?_⟩
         refine hK.out _ _ ⟨(bC BK231.out 0).trans rfl,(bC BK232.out 0).trans rfl,(bC BK232.out 1).trans rfl,(bC BK232.out 2).trans rfl,((HB.out.cell (World.block_lt_of_cell? w _ hw243_0)).trans hw243_0)⟩ (fun hHeld=>?_)
         clear hK K
         refine norm_ (a':=?_) ?_ ?_
         rotate_left
         ·show Act.put _ (some 31) _ = _
          simp only [Act.put,lA,l0',lS,i64_w,i32_w]
          rfl
         refine pure_ (i:=11) (N:=some 32) (v:=?_) (a':=?_) #[true,true,true,true,true,true,true,true,true,true,true,true] rfl rfl (any_of HT_.out (by kernel_rfl)) (fun _ _ _ h=>h) (Or.inl ⟨by rfl,?_⟩) ?_ ?_
         rotate_left
         ·intro w'
          go_simp
          with_reducible rfl
         rotate_left
         ·simp only [Act.put,lA,l0',lS,i64_w,i32_w]
          rfl
         refine done_ (done_of HT_.out (by kernel_rfl)) ?_
         try go_wp2
         go_roundg k2
         case measure=>have:=HJ2.out;have:=HK2.out;omega
         case rel=>exact ⟨(wrap64 (x5_2 + 1)),(by first|rfl|(simp;done)|(simp [*];done)),H',⟨by have:=HJ2.out;have:=HK2.out;omega⟩,⟨by (with_reducible repeat first|apply bN|apply bD|apply bA);exact BK231.out⟩,⟨by (with_reducible repeat first|apply bN|apply bD|apply bA);exact BK232.out⟩,⟨bW HB.out⟩⟩
        ·replace c23:=Bool.eq_false_iff.mpr c23
         subst c23
         have H1 : (some false) = some r:=by rw [if_neg (show ¬ (false = true) by decide)] at H;exact H
         clear H
         have H:=H1
         clear H1
         obtain rfl:=Option.some.inj H
         have hnb31:=NB232_231.out
         have hnc31:=NB231_232.out
         have hcz32_0 : wr.cell? ⟨gb232,0,none⟩ = some (.int .i64 a1_0):=(bC BK232.out 0).trans rfl
         have hcz32_1 : wr.cell? ⟨gb232,1,none⟩ = some (.int .i64 a1_1):=(bC BK232.out 1).trans rfl
         have hcz32_2 : wr.cell? ⟨gb232,2,none⟩ = some (.slice A1_2 l1_2.length c1_2):=(bC BK232.out 2).trans rfl
         have hfz32_0:=blk_frozen BK232.out 0
         have hfz32_1:=blk_frozen BK232.out 1
         have hfz32_2:=blk_frozen BK232.out 2
         try go_wp2
         have n0_:=aK (bD BK231.out)
         have n1_:=aK (bD BK232.out)
         have n2_:=aK (b1 HB.out)
         clear BK231
         clear BK232
         clear HB
         have BK231:=n0_
         have BK232:=n1_
         have HB:=n2_
         clear n0_ n1_ n2_
         have p243 : 0 ≤ (x5_2 : Int):=of_decide_eq_true (by first|(with_reducible assumption)|assumption)
         have q243 : x5_2 < (l1_2.length : Int):=of_decide_eq_true (by first|(with_reducible assumption)|assumption)
         obtain ⟨ad243,e243,hx243_0⟩:=Kd.at_int HR1_2.out x5_2 p243 q243
         have hw243_0:=hx243_0
         cases e243
         replace hx243_0:=(HB.out.cell (World.block_lt_of_cell? w _ hx243_0)).trans hx243_0
         replace p243:=eq_true p243
         replace q243:=eq_true q243
         refine start_ (n:=12) (S:=fun w'=>w'.cell? ⟨gb231,0,none⟩ = some (.slice A0_0 l0_0.length c0_0) ∧ w'.cell? ⟨gb232,0,none⟩ = some (.int .i64 a1_0) ∧ w'.cell? ⟨gb232,1,none⟩ = some (.int .i64 a1_1) ∧ w'.cell? ⟨gb232,2,none⟩ = some (.slice (some ad243) l1_2.length c1_2) ∧ w'.cell? (ad243.add (x5_2).toNat) = some (.int .i64 (rd l1_2 x5_2))) (ds:=[]) #[false,false,false,false,false,false,false,false,false,false,false,false] (by kernel_rfl) rfl rfl ⟨(bC BK231.out 0).trans rfl,(bC BK232.out 0).trans rfl,(bC BK232.out 1).trans rfl,(bC BK232.out 2).trans rfl,((HB.out.cell (World.block_lt_of_cell? w _ hw243_0)).trans hw243_0)⟩ (fun hHeld=>?_);refine with_tabW spec_IsPlay.tab6 spec_IsPlay.bits6 (fun HT_ HW_=>?_)
         generalize wr.drew = w33 at BK231 BK232 HB hx243_0 hHeld ⊢
         refine pure_ (i:=2) (N:=some 23) (v:=?_) (a':=?_) #[false,false,true,false,false,false,false,false,false,false,false,false] rfl rfl (any_of HT_.out (by kernel_rfl)) (fun _ _ _ h=>h) (Or.inl ⟨by rfl,?_⟩) ?_ ?_
         rotate_left
         ·intro w'
          go_simp
          with_reducible rfl
         rotate_left
         ·simp only [Act.put,lA,l0',lS,i64_w,i32_w]
          rfl
         refine pure_ (i:=5) (N:=some 26) (v:=?_) (a':=?_) #[false,false,true,false,false,true,false,false,false,false,false,false] rfl rfl (any_of HT_.out (by kernel_rfl)) (fun _ _ _ h=>h) (Or.inl ⟨by rfl,?_⟩) ?_ ?_
         rotate_left
         ·intro w'
          go_simp
          with_reducible rfl
         rotate_left
         ·simp only [Act.put,lA,l0',lS,i64_w,i32_w]
          rfl
         refine pure_ (i:=7) (N:=some 28) (v:=?_) (a':=?_) #[false,false,true,false,false,true,false,true,false,false,false,false] rfl rfl (any_of HT_.out (by kernel_rfl)) (fun _ _ _ h=>h) (Or.inl ⟨by rfl,?_⟩) ?_ ?_
         rotate_left
         ·intro w'
          go_simp
          with_reducible rfl
         rotate_left
         ·simp only [Act.put,lA,l0',lS,i64_w,i32_w]
          rfl
         refine take_ (i:=0) (N:=some 21) (v:=?_) (a':=?_) #[true,false,true,false,false,true,false,true,false,false,false,false] rfl rfl (take_ofW HT_.out HW_.out (by kernel_rfl)) (fun _ _ _ h=>h) (Or.inl ⟨by rfl,?_⟩) hHeld ?_ ?_
         rotate_left
         ·rintro w' ⟨s0,s1,s2,s3,s4⟩
          go_simp
          with_reducible rfl
         rotate_left
         ·simp only [Act.put,lA,l0',lS,i64_w,i32_w]
          rfl
         refine take_ (i:=1) (N:=some 22) (v:=?_) (a':=?_) #[true,true,true,false,false,true,false,true,false,false,false,false] rfl rfl (take_ofW HT_.out HW_.out (by kernel_rfl)) (fun _ _ _ h=>h) (Or.inl ⟨by rfl,?_⟩) hHeld ?_ ?_
         rotate_left
         ·rintro w' ⟨s0,s1,s2,s3,s4⟩
          go_simp
          with_reducible rfl
         rotate_left
         ·simp only [Act.put,lA,l0',lS,i64_w,i32_w]
          rfl
         refine take_ (i:=6) (N:=some 27) (v:=?_) (a':=?_) #[true,true,true,false,false,true,true,true,false,false,false,false] rfl rfl (take_ofW HT_.out HW_.out (by kernel_rfl)) (fun _ _ _ h=>h) (Or.inl ⟨by rfl,?_⟩) hHeld ?_ ?_
         rotate_left
         ·rintro w' ⟨s0,s1,s2,s3,s4⟩
          go_simp
          with_reducible rfl
         rotate_left
         ·simp only [Act.put,lA,l0',lS,i64_w,i32_w]
          rfl
         refine pure_ (i:=8) (N:=some 29) (v:=?_) (a':=?_) #[true,true,true,false,false,true,true,true,true,false,false,false] rfl rfl (any_of HT_.out (by kernel_rfl)) (fun _ _ _ h=>h) (Or.inl ⟨by rfl,?_⟩) ?_ ?_
         rotate_left
         ·intro w'
          go_simp
          with_reducible rfl
         rotate_left
         ·simp only [Act.put,lA,l0',lS,i64_w,i32_w]
          rfl
         refine take_ (i:=9) (N:=some 30) (v:=?_) (a':=?_) #[true,true,true,false,false,true,true,true,true,true,false,false] rfl rfl (take_ofW HT_.out HW_.out (by kernel_rfl)) (fun _ _ _ h=>h) (Or.inl ⟨by rfl,?_⟩) hHeld ?_ ?_
         rotate_left
         ·rintro w' ⟨s0,s1,s2,s3,s4⟩
          go_simp
          with_reducible rfl
         rotate_left
         ·simp only [Act.put,lA,l0',lS,i64_w,i32_w]
          rfl
         refine one_ (i:=3) (N:=some 24) #[true,true,true,true,false,true,true,true,true,true,false,false] rfl rfl (one_of HT_.out (by kernel_rfl)) (by decide) (fun K hK=>?_)
         refine goes_ Try.func104 (by kernel_rfl) rfl #[.agg #[.int .i64 a1_0,.int .i64 a1_1,.slice (some ad243) l1_2.length c1_2],.int .i64 x5_2] (by rfl) rfl rfl (by (try simp only [mA,mC,mN]);first|done|rfl) ?_
         with_reducible refine (spec_l08Begin.calls a1_0 a1_1 _ _ l1_2 x5_2 t235 t236 t237 _ ?side1 ?side2 A19.out).mono ?_
         (case side1=>repeat (first|exact (Kd.C_below HR1_2.out HB.out)|(with_reducible refine Kd.C_alloc ?_ _)|(with_reducible refine Kd.C_drewN ?_ _)|(with_reducible refine Kd.C_drew ?_)))
         (case side2=>exact HC1_2.out)
         rintro e w34 ⟨v238,rfl,ho0,hb⟩
         refine ⟨_,rfl,?_⟩
         have n0_:=aK (Kd.R_lower ho0 (below_size (bW HB.out)))
         have n1_:=aK (bB (bX BK231.out) hb)
         have n2_:=aK (bB (bX BK232.out) hb)
         have n3_:=aK (below_step (bW HB.out) hb)
         clear BK231
         clear BK232
         clear HB
         have HO239:=n0_
         have BK231:=n1_
         have BK232:=n2_
         have HB:=n3_
         clear n0_ n1_ n2_ n3_
         (try clear hb)
         (try clear hb2)
         (try clear hk)
         (try clear hi)
         (try clear ho0)
         obtain ⟨Ao35,co35,eo35⟩:=Kd.R_slice HO239.out
         (first|subst eo35|(injection eo35 with f1_ f2_ f3_;have f4_:=f1_.symm;have f5_:=f3_.symm;clear f1_ f2_ f3_;subst f4_;subst f5_))
         refine hK.out _ _ ⟨(bC BK231.out 0).trans rfl,(bC BK232.out 0).trans rfl,(bC BK232.out 1).trans rfl,(bC BK232.out 2).trans rfl,((HB.out.cell (World.block_lt_of_cell? w _ hw243_0)).trans hw243_0)⟩ (fun hHeld=>?_)
         clear hK K
         refine norm_ (a':=?_) ?_ ?_
         rotate_left
         ·show Act.put _ (some 24) _ = _
          simp only [Act.put,lA,l0',lS,i64_w,i32_w]
          rfl
         refine one_ (i:=4) (N:=some 25) #[true,true,true,true,true,true,true,true,true,true,false,false] rfl rfl (one_of HT_.out (by kernel_rfl)) (by decide) (fun K hK=>?_)
         refine goes_ Try.func107 (by kernel_rfl) rfl #[.agg #[.slice A0_0 l0_0.length c0_0],.agg #[.int .i64 t235,.int .i64 t236,.slice Ao35 t237.length co35]] (by rfl) rfl rfl (by (try simp only [mA,mC,mN]);first|done|rfl) ?_
         with_reducible refine (spec_l08Legal.calls k2 _ _ l0_0 t235 t236 _ _ t237 t240 _ ?side1 ?side2 ?side3 ?side4 A20.out).mono ?_
         (case side1=>repeat (first|exact (Kd.C_below HR0_0.out HB.out)|(with_reducible refine Kd.C_alloc ?_ _)|(with_reducible refine Kd.C_drewN ?_ _)|(with_reducible refine Kd.C_drew ?_)))
         (case side2=>exact HC0_0.out)
         (case side3=>repeat (first|exact (Kd.R_reads' HO239.out).2.2|(with_reducible refine Kd.C_alloc ?_ _)|(with_reducible refine Kd.C_drewN ?_ _)|(with_reducible refine Kd.C_drew ?_)))
         (case side4=>exact (Kd.R_reads' HO239.out).2.1)
         rintro e w36 ⟨v241,rfl,ho0,hb⟩
         refine ⟨_,rfl,?_⟩
         have n0_:=aK (Kd.R_elder' (rX HO239.out) (Kd.R_base ho0) hb)
         have n1_:=aK (Kd.R_lower (Kd.R_new' ho0 (Kd.R_lt (rX HO239.out))) (below_size (bW HB.out)))
         have n2_:=aK (bB (bX BK231.out) hb)
         have n3_:=aK (bB (bX BK232.out) hb)
         have n4_:=aK (below_step (bW HB.out) hb)
         clear HO239
         clear BK231
         clear BK232
         clear HB
         have HO239:=n0_
         have HO242:=n1_
         have BK231:=n2_
         have BK232:=n3_
         have HB:=n4_
         clear n0_ n1_ n2_ n3_ n4_
         (try clear hb)
         (try clear hb2)
         (try clear hk)
         (try clear hi)
         (try clear ho0)
         obtain ⟨Ao37,co37,eo37⟩:=Kd.R_slice HO242.out
         (first|subst eo37|(injection eo37 with f1_ f2_ f3_;have f4_:=f1_.symm;have f5_:=f3_.symm;clear f1_ f2_ f3_;subst f4_;subst f5_))
         refine hK.out _ _ ⟨(bC BK231.out 0).trans rfl,(bC BK232.out 0).trans rfl,(bC BK232.out 1).trans rfl,(bC BK232.out 2).trans rfl,((HB.out.cell (World.block_lt_of_cell? w _ hw243_0)).trans hw243_0)⟩ (fun hHeld=>?_)
         clear hK K
         refine norm_ (a':=?_) ?_ ?_
         rotate_left
         ·show Act.put _ (some 25) _ = _
          simp only [Act.put,lA,l0',lS,i64_w,i32_w]
          rfl
         refine one_ (i:=10) (N:=some 31) #[true,true,true,true,true,true,true,true,true,true,true,false] rfl rfl (one_of HT_.out (by kernel_rfl)) (by decide) (fun K hK=>?_)
         refine goes_ Try.func82 (by kernel_rfl) rfl #[.slice Ao37 t240.length co37,.int .i64 (rd l1_2 x5_2)] (by rfl) rfl rfl (by (try simp only [mA,mC,mN]);first|done|rfl) ?_
         with_reducible refine (spec_l01Has.calls k2 _ _ t240 (rd l1_2 x5_2) false _ ?side1 ?side2 A22.out).mono ?_
         (case side1=>repeat (first|exact (Kd.R_reads' HO242.out).2.2|(with_reducible refine Kd.C_alloc ?_ _)|(with_reducible refine Kd.C_drewN ?_ _)|(with_reducible refine Kd.C_drew ?_)))
         (case side2=>exact (Kd.R_reads' HO242.out).2.1)
         rintro e w' ⟨rfl,⟨nd,rfl⟩⟩
         refine ⟨_,rfl,?_⟩
         refine hK.out _ _ ⟨(bC BK231.out 0).trans rfl,(bC BK232.out 0).trans rfl,(bC BK232.out 1).trans rfl,(bC BK232.out 2).trans rfl,((HB.out.cell (World.block_lt_of_cell? w _ hw243_0)).trans hw243_0)⟩ (fun hHeld=>?_)
         clear hK K
         refine norm_ (a':=?_) ?_ ?_
         rotate_left
         ·show Act.put _ (some 31) _ = _
          simp only [Act.put,lA,l0',lS,i64_w,i32_w]
          rfl
         refine pure_ (i:=11) (N:=some 32) (v:=?_) (a':=?_) #[true,true,true,true,true,true,true,true,true,true,true,true] rfl rfl (any_of HT_.out (by kernel_rfl)) (fun _ _ _ h=>h) (Or.inl ⟨by rfl,?_⟩) ?_ ?_
         rotate_left
         ·intro w'
          go_simp
          with_reducible rfl
         rotate_left
         ·simp only [Act.put,lA,l0',lS,i64_w,i32_w]
          rfl
         refine done_ (done_of HT_.out (by kernel_rfl)) ?_
         try go_wp2
         go_ret
         exact ⟨by first|rfl|(simp [errW_none,errW_some] <;> rfl)|(simp [*,errW_none,errW_some] <;> rfl),bW HB.out⟩
       ·rw [if_neg c21] at H
        exact absurd H (by simp)
      ·rw [if_neg c18] at H
       have c18b0 : decide (x5_2 < (l1_2.length : Int)) = false:=decide_eq_false c18
       clear c18
       obtain rfl:=Option.some.inj H
       have hnb38:=NB232_231.out
       have hnc38:=NB231_232.out
       have hcz39_0 : wr.cell? ⟨gb232,0,none⟩ = some (.int .i64 a1_0):=(bC BK232.out 0).trans rfl
       have hcz39_1 : wr.cell? ⟨gb232,1,none⟩ = some (.int .i64 a1_1):=(bC BK232.out 1).trans rfl
       have hcz39_2 : wr.cell? ⟨gb232,2,none⟩ = some (.slice A1_2 l1_2.length c1_2):=(bC BK232.out 2).trans rfl
       have hfz39_0:=blk_frozen BK232.out 0
       have hfz39_1:=blk_frozen BK232.out 1
       have hfz39_2:=blk_frozen BK232.out 2
       go_wp2
       go_ret
       exact ⟨by first|rfl|(simp [errW_none,errW_some] <;> rfl)|(simp [*,errW_none,errW_some] <;> rfl),bW HB.out⟩

/-! ### spec_l09Even: function 111 -/
def spec_l09Even.f (k : Nat) (l0_0 : List (List Int)) (a1_0 : Int) (a1_1 : Int) (l1_2 : List Int) : Option (Bool) := (spec_IsPlay.f k l0_0 a1_0 a1_1 l1_2).bind fun t247 => (if t247 = true then (some (((l1_2.length : Int) % 4) == 0)) else (some false))
theorem spec_l09Even.mono : ∀ a0 a1 a2 a3 k, LeO (spec_l09Even.f k a0 a1 a2 a3) (spec_l09Even.f (k + 1) a0 a1 a2 a3) := by
 intro a0 a1 a2 a3 k
 unfold spec_l09Even.f
 repeat' first
   | (with_reducible exact spec_IsPlay.mono _ _ _ _ _)
   | (with_reducible exact LeO.refl _)
   | (with_reducible exact LeO.none _)
   | (with_reducible refine LeO.ite ?_ ?_)
   | (with_reducible refine LeO.bind ?_ (fun _=>?_))
   | exact spec_IsPlay.mono _ _ _ _ _
   | exact LeO.none _
   | refine LeO.ite ?_ ?_
   | refine LeO.bind ?_ (fun _=>?_)
set_option maxHeartbeats 8000000 in
set_option maxRecDepth 100000 in
theorem spec_l09Even.calls (k : Nat) (A0_0 : Option Addr) (c0_0 : Nat) (l0_0 : List (List Int)) (a1_0 : Int) (a1_1 : Int) (A1_2 : Option Addr) (c1_2 : Nat) (l1_2 : List Int) (r : Bool) (w : World) (hr0_0 : Kd.C (Kd.slice 2 (Kd.int .i64)) w A0_0 l0_0.length l0_0) (hc0_0 : l0_0.length ≤ c0_0) (hr1_2 : Kd.C (Kd.int .i64) w A1_2 l1_2.length l1_2) (hc1_2 : l1_2.length ≤ c1_2) (h : spec_l09Even.f k l0_0 a1_0 a1_1 l1_2 = some r) :
  Calls Try.prog 111 #[.agg #[.slice A0_0 l0_0.length c0_0],.agg #[.int .i64 a1_0,.int .i64 a1_1,.slice A1_2 l1_2.length c1_2]] w fun e w'=>e = .returned (.bool r) ∧ Below w.heap.size w w':=by
 have hu44:=Try.underlying44
 have hu27:=Try.underlying27
 have HR0_0:=aK hr0_0
 have HC0_0:=aK hc0_0
 clear hr0_0 hc0_0
 have HR1_2:=aK hr1_2
 have HC1_2:=aK hc1_2
 clear hr1_2 hc1_2
 have HB:=aK (Below.refl w.heap.size w)
 have H : ((spec_IsPlay.f k l0_0 a1_0 a1_1 l1_2).bind fun t247=>(if t247 = true then (some (((l1_2.length : Int) % 4) == 0)) else (some false))) = some r:=h
 clear h
 replace H:=Option.bind_eq_some_iff.mp H
 obtain ⟨t247,A30,H⟩:=H
 replace H : (if t247 = true then (some (((l1_2.length : Int) % 4) == 0)) else (some false)) = some r:=H
 have A3:=aK A30
 clear A30
 by_cases c4 : t247 = true
 ·subst c4
  have H1 : (some (((l1_2.length : Int) % 4) == 0)) = some r:=by rw [if_pos rfl] at H;exact H
  clear H
  have H:=H1
  clear H1
  obtain rfl:=Option.some.inj H
  go_enter Try.func111,Try.ntmps111
  go_wp2_with (first|((with_reducible refine gate_dst (N:=2) rfl ?_);(try (refine gate_guard (by rfl) ?_;dsimp only));refine box_event ?hg (N:=2) ?hd (cs:=#[.slice A0_0 l0_0.length c0_0]) (t:=44) ?hr ?_;(case hd=>rfl);(case hg=>rfl);(case hr=>first|(go_simp;done)|(go_simp;rfl));intro gb245 hg w5 hbox hb;have n0_:=aK (below_step (bW HB.out) hb);have n1_:=aK (hbox);have n2_:=aK ((by rw [hg];exact (below_size (bW HB.out)) : w.heap.size ≤ gb245));have n3_:=aK ((by rw [hg];exact (below_size (bW HB.out)) : w.heap.size ≤ gb245));clear HB;have HB:=n0_;have BK245:=n1_;have GW245:=n2_;have GE245:=n3_;clear n0_ n1_ n2_ n3_;clear hb hbox hg)|((with_reducible refine gate_dst (N:=3) rfl ?_);(try (refine gate_guard (by rfl) ?_;dsimp only));refine box_event ?hg (N:=3) ?hd (cs:=#[.int .i64 a1_0,.int .i64 a1_1,.slice A1_2 l1_2.length c1_2]) (t:=27) ?hr ?_;(case hd=>rfl);(case hg=>rfl);(case hr=>first|(go_simp;done)|(go_simp;rfl));intro gb246 hg w6 hbox hb;have n0_:=aK (bB (bX BK245.out) hb);have n1_:=aK (below_step (bW HB.out) hb);have n2_:=aK (hbox);have n3_:=aK ((by rw [hg];exact (below_size (bW HB.out)) : w.heap.size ≤ gb246));have n4_:=aK ((by rw [hg];exact (below_size (bW HB.out)) : w.heap.size ≤ gb246));have n5_:=aK ((by rw [hg];exact Nat.ne_of_lt (blk_lt (bX BK245.out)) : gb245 ≠ gb246));have n6_:=aK ((by rw [hg];exact Nat.ne_of_gt (blk_lt (bX BK245.out)) : gb246 ≠ gb245));clear BK245;clear HB;have BK245:=n0_;have HB:=n1_;have BK246:=n2_;have GW246:=n3_;have GE246:=n4_;have NB245_246:=n5_;have NB246_245:=n6_;clear n0_ n1_ n2_ n3_ n4_ n5_ n6_;clear hb hbox hg;have hnb7:=NB245_246.out;have hnc7:=NB246_245.out;have hcz8_0 : w6.cell? ⟨gb245,0,none⟩ = some (.slice A0_0 l0_0.length c0_0):=(bC BK245.out 0).trans rfl;have hfz8_0:=blk_frozen BK245.out 0;have hcz9_0 : w6.cell? ⟨gb246,0,none⟩ = some (.int .i64 a1_0):=(bC BK246.out 0).trans rfl;have hcz9_1 : w6.cell? ⟨gb246,1,none⟩ = some (.int .i64 a1_1):=(bC BK246.out 1).trans rfl;have hcz9_2 : w6.cell? ⟨gb246,2,none⟩ = some (.slice A1_2 l1_2.length c1_2):=(bC BK246.out 2).trans rfl;have hfz9_0:=blk_frozen BK246.out 0;have hfz9_1:=blk_frozen BK246.out 1;have hfz9_2:=blk_frozen BK246.out 2)|((with_reducible refine gate_callee (f:=45) rfl ?_);refine goesL_ (some 7) rfl rfl Try.func45 (by kernel_rfl) rfl #[.agg #[.slice A0_0 l0_0.length c0_0],.agg #[.int .i64 a1_0,.int .i64 a1_1,.slice A1_2 l1_2.length c1_2]] rfl (by (try simp only [mA,mC,mN]);first|done|rfl) ?_;(with_reducible refine (spec_IsPlay.calls k _ _ l0_0 a1_0 a1_1 _ _ l1_2 true _ ?side1 ?side2 ?side3 ?side4 A3.out).mono ?_);(case side1=>repeat (first|exact (Kd.C_below HR0_0.out HB.out)|(with_reducible refine Kd.C_alloc ?_ _)|(with_reducible refine Kd.C_drewN ?_ _)|(with_reducible refine Kd.C_drew ?_)));(case side2=>exact HC0_0.out);(case side3=>repeat (first|exact (Kd.C_below HR1_2.out HB.out)|(with_reducible refine Kd.C_alloc ?_ _)|(with_reducible refine Kd.C_drewN ?_ _)|(with_reducible refine Kd.C_drew ?_)));(case side4=>exact HC1_2.out);rintro e w10 ⟨rfl,hb⟩;refine ⟨_,rfl,?_⟩;have n0_:=aK (bB (bX BK245.out) hb);have n1_:=aK (bB (bX BK246.out) hb);have n2_:=aK (below_step (bW HB.out) hb);clear BK245;clear BK246;clear HB;have BK245:=n0_;have BK246:=n1_;have HB:=n2_;clear n0_ n1_ n2_;(try clear hb);(try clear hb2);(try clear hk);(try clear hi);have hcz11_0 : w10.cell? ⟨gb246,0,none⟩ = some (.int .i64 a1_0):=(bC BK246.out 0).trans rfl;have hcz11_1 : w10.cell? ⟨gb246,1,none⟩ = some (.int .i64 a1_1):=(bC BK246.out 1).trans rfl;have hcz11_2 : w10.cell? ⟨gb246,2,none⟩ = some (.slice A1_2 l1_2.length c1_2):=(bC BK246.out 2).trans rfl;have hfz11_0:=blk_frozen BK246.out 0;have hfz11_1:=blk_frozen BK246.out 1;have hfz11_2:=blk_frozen BK246.out 2))
  go_ret
  exact ⟨by first|rfl|(simp [errW_none,errW_some] <;> rfl)|(simp [*,errW_none,errW_some] <;> rfl),bW HB.out⟩
 ·replace c4:=Bool.eq_false_iff.mpr c4
  subst c4
  have H1 : (some false) = some r:=by rw [if_neg (show ¬ (false = true) by decide)] at H;exact H
  clear H
  have H:=H1
  clear H1
  obtain rfl:=Option.some.inj H
  go_enter Try.func111,Try.ntmps111
  go_wp2_with (first|((with_reducible refine gate_dst (N:=2) rfl ?_);(try (refine gate_guard (by rfl) ?_;dsimp only));refine box_event ?hg (N:=2) ?hd (cs:=#[.slice A0_0 l0_0.length c0_0]) (t:=44) ?hr ?_;(case hd=>rfl);(case hg=>rfl);(case hr=>first|(go_simp;done)|(go_simp;rfl));intro gb245 hg w12 hbox hb;have n0_:=aK (below_step (bW HB.out) hb);have n1_:=aK (hbox);have n2_:=aK ((by rw [hg];exact (below_size (bW HB.out)) : w.heap.size ≤ gb245));have n3_:=aK ((by rw [hg];exact (below_size (bW HB.out)) : w.heap.size ≤ gb245));clear HB;have HB:=n0_;have BK245:=n1_;have GW245:=n2_;have GE245:=n3_;clear n0_ n1_ n2_ n3_;clear hb hbox hg)|((with_reducible refine gate_dst (N:=3) rfl ?_);(try (refine gate_guard (by rfl) ?_;dsimp only));refine box_event ?hg (N:=3) ?hd (cs:=#[.int .i64 a1_0,.int .i64 a1_1,.slice A1_2 l1_2.length c1_2]) (t:=27) ?hr ?_;(case hd=>rfl);(case hg=>rfl);(case hr=>first|(go_simp;done)|(go_simp;rfl));intro gb246 hg w13 hbox hb;have n0_:=aK (bB (bX BK245.out) hb);have n1_:=aK (below_step (bW HB.out) hb);have n2_:=aK (hbox);have n3_:=aK ((by rw [hg];exact (below_size (bW HB.out)) : w.heap.size ≤ gb246));have n4_:=aK ((by rw [hg];exact (below_size (bW HB.out)) : w.heap.size ≤ gb246));have n5_:=aK ((by rw [hg];exact Nat.ne_of_lt (blk_lt (bX BK245.out)) : gb245 ≠ gb246));have n6_:=aK ((by rw [hg];exact Nat.ne_of_gt (blk_lt (bX BK245.out)) : gb246 ≠ gb245));clear BK245;clear HB;have BK245:=n0_;have HB:=n1_;have BK246:=n2_;have GW246:=n3_;have GE246:=n4_;have NB245_246:=n5_;have NB246_245:=n6_;clear n0_ n1_ n2_ n3_ n4_ n5_ n6_;clear hb hbox hg;have hnb14:=NB245_246.out;have hnc14:=NB246_245.out;have hcz15_0 : w13.cell? ⟨gb245,0,none⟩ = some (.slice A0_0 l0_0.length c0_0):=(bC BK245.out 0).trans rfl;have hfz15_0:=blk_frozen BK245.out 0;have hcz16_0 : w13.cell? ⟨gb246,0,none⟩ = some (.int .i64 a1_0):=(bC BK246.out 0).trans rfl;have hcz16_1 : w13.cell? ⟨gb246,1,none⟩ = some (.int .i64 a1_1):=(bC BK246.out 1).trans rfl;have hcz16_2 : w13.cell? ⟨gb246,2,none⟩ = some (.slice A1_2 l1_2.length c1_2):=(bC BK246.out 2).trans rfl;have hfz16_0:=blk_frozen BK246.out 0;have hfz16_1:=blk_frozen BK246.out 1;have hfz16_2:=blk_frozen BK246.out 2)|((with_reducible refine gate_callee (f:=45) rfl ?_);refine goesL_ (some 7) rfl rfl Try.func45 (by kernel_rfl) rfl #[.agg #[.slice A0_0 l0_0.length c0_0],.agg #[.int .i64 a1_0,.int .i64 a1_1,.slice A1_2 l1_2.length c1_2]] rfl (by (try simp only [mA,mC,mN]);first|done|rfl) ?_;(with_reducible refine (spec_IsPlay.calls k _ _ l0_0 a1_0 a1_1 _ _ l1_2 false _ ?side1 ?side2 ?side3 ?side4 A3.out).mono ?_);(case side1=>repeat (first|exact (Kd.C_below HR0_0.out HB.out)|(with_reducible refine Kd.C_alloc ?_ _)|(with_reducible refine Kd.C_drewN ?_ _)|(with_reducible refine Kd.C_drew ?_)));(case side2=>exact HC0_0.out);(case side3=>repeat (first|exact (Kd.C_below HR1_2.out HB.out)|(with_reducible refine Kd.C_alloc ?_ _)|(with_reducible refine Kd.C_drewN ?_ _)|(with_reducible refine Kd.C_drew ?_)));(case side4=>exact HC1_2.out);rintro e w17 ⟨rfl,hb⟩;refine ⟨_,rfl,?_⟩;have n0_:=aK (bB (bX BK245.out) hb);have n1_:=aK (bB (bX BK246.out) hb);have n2_:=aK (below_step (bW HB.out) hb);clear BK245;clear BK246;clear HB;have BK245:=n0_;have BK246:=n1_;have HB:=n2_;clear n0_ n1_ n2_;(try clear hb);(try clear hb2);(try clear hk);(try clear hi)))
  go_ret
  exact ⟨by first|rfl|(simp [errW_none,errW_some] <;> rfl)|(simp [*,errW_none,errW_some] <;> rfl),bW HB.out⟩

/-! ### spec_l09Rest: function 112 -/
def spec_l09Rest.f (l0_0 : List (List Int)) (a1_0 : Int) (a1_1 : Int) (l1_2 : List Int) : Option (Int) := if 0 < (l0_0.length : Int) then (some (wrap64 (((rd_L1 l0_0 0).length : Int) - (wrap64 ((l1_2.length : Int) / 4))))) else (none)
set_option maxHeartbeats 8000000 in
set_option maxRecDepth 100000 in
theorem spec_l09Rest.calls (A0_0 : Option Addr) (c0_0 : Nat) (l0_0 : List (List Int)) (a1_0 : Int) (a1_1 : Int) (A1_2 : Option Addr) (c1_2 : Nat) (l1_2 : List Int) (r : Int) (w : World) (hr0_0 : Kd.C (Kd.slice 2 (Kd.int .i64)) w A0_0 l0_0.length l0_0) (hc0_0 : l0_0.length ≤ c0_0) (hr1_2 : Kd.C (Kd.int .i64) w A1_2 l1_2.length l1_2) (hc1_2 : l1_2.length ≤ c1_2) (h : spec_l09Rest.f l0_0 a1_0 a1_1 l1_2 = some r) :
  Calls Try.prog 112 #[.agg #[.slice A0_0 l0_0.length c0_0],.agg #[.int .i64 a1_0,.int .i64 a1_1,.slice A1_2 l1_2.length c1_2]] w fun e w'=>e = .returned (.int .i64 r) ∧ Below w.heap.size w w':=by
 have hu44:=Try.underlying44
 have hu27:=Try.underlying27
 have HR0_0:=aK hr0_0
 have HC0_0:=aK hc0_0
 clear hr0_0 hc0_0
 have HR1_2:=aK hr1_2
 have HC1_2:=aK hc1_2
 clear hr1_2 hc1_2
 have HB:=aK (Below.refl w.heap.size w)
 have H : (if 0 < (l0_0.length : Int) then (some (wrap64 (((rd_L1 l0_0 0).length : Int) - (wrap64 ((l1_2.length : Int) / 4))))) else (none)) = some r:=h
 clear h
 by_cases c3 : 0 < (l0_0.length : Int)
 ·rw [if_pos c3] at H
  have c3b0 : decide (0 < (l0_0.length : Int)) = true:=decide_eq_true c3
  have c3b1 : decide (0 < l0_0.length) = true:=decide_eq_true (by omega)
  clear c3
  obtain rfl:=Option.some.inj H
  go_enter Try.func112,Try.ntmps112
  go_wp2_with (first|((with_reducible refine gate_dst (N:=2) rfl ?_);refine box_event ?hg (N:=2) ?hd (cs:=#[.slice A0_0 l0_0.length c0_0]) (t:=44) ?hr ?_;(case hd=>rfl);(case hg=>rfl);(case hr=>first|(go_simp;done)|(go_simp;rfl));intro gb248 hg w4 hbox hb;have n0_:=aK (below_step (bW HB.out) hb);have n1_:=aK (hbox);have n2_:=aK ((by rw [hg];exact (below_size (bW HB.out)) : w.heap.size ≤ gb248));have n3_:=aK ((by rw [hg];exact (below_size (bW HB.out)) : w.heap.size ≤ gb248));clear HB;have HB:=n0_;have BK248:=n1_;have GW248:=n2_;have GE248:=n3_;clear n0_ n1_ n2_ n3_;clear hb hbox hg)|((with_reducible refine gate_dst (N:=3) rfl ?_);refine box_event ?hg (N:=3) ?hd (cs:=#[.int .i64 a1_0,.int .i64 a1_1,.slice A1_2 l1_2.length c1_2]) (t:=27) ?hr ?_;(case hd=>rfl);(case hg=>rfl);(case hr=>first|(go_simp;done)|(go_simp;rfl));intro gb249 hg w5 hbox hb;have n0_:=aK (bB (bX BK248.out) hb);have n1_:=aK (below_step (bW HB.out) hb);have n2_:=aK (hbox);have n3_:=aK ((by rw [hg];exact (below_size (bW HB.out)) : w.heap.size ≤ gb249));have n4_:=aK ((by rw [hg];exact (below_size (bW HB.out)) : w.heap.size ≤ gb249));have n5_:=aK ((by rw [hg];exact Nat.ne_of_lt (blk_lt (bX BK248.out)) : gb248 ≠ gb249));have n6_:=aK ((by rw [hg];exact Nat.ne_of_gt (blk_lt (bX BK248.out)) : gb249 ≠ gb248));clear BK248;clear HB;have BK248:=n0_;have HB:=n1_;have BK249:=n2_;have GW249:=n3_;have GE249:=n4_;have NB248_249:=n5_;have NB249_248:=n6_;clear n0_ n1_ n2_ n3_ n4_ n5_ n6_;clear hb hbox hg;have hnb6:=NB248_249.out;have hnc6:=NB249_248.out;have hcz7_0 : w5.cell? ⟨gb248,0,none⟩ = some (.slice A0_0 l0_0.length c0_0):=(bC BK248.out 0).trans rfl;have hfz7_0:=blk_frozen BK248.out 0;have p250 : 0 ≤ (0 : Int):=(by omega);have q250 : 0 < (l0_0.length : Int):=of_decide_eq_true (by first|(with_reducible assumption)|assumption);obtain ⟨ad250,A250_0,c250_0,e250,hx250_0,hl250_0,hi250_0⟩:=at_L1 HR0_0.out 0 p250 q250;cases e250;have qi250 : (0 < l0_0.length) = True:=eq_true (by omega);(try rw [show ((0 : Int)).toNat = 0 from rfl] at hx250_0);(try rw [Addr.add_zero'] at hx250_0);replace hx250_0:=(HB.out.cell (World.block_lt_of_cell? w _ hx250_0)).trans hx250_0;have HR250_0:=aK hi250_0;have HC250_0:=aK hl250_0;clear hi250_0 hl250_0;replace p250:=eq_true p250;replace q250:=eq_true q250;have hcz8_0 : w5.cell? ⟨gb249,0,none⟩ = some (.int .i64 a1_0):=(bC BK249.out 0).trans rfl;have hcz8_1 : w5.cell? ⟨gb249,1,none⟩ = some (.int .i64 a1_1):=(bC BK249.out 1).trans rfl;have hcz8_2 : w5.cell? ⟨gb249,2,none⟩ = some (.slice A1_2 l1_2.length c1_2):=(bC BK249.out 2).trans rfl;have hfz8_0:=blk_frozen BK249.out 0;have hfz8_1:=blk_frozen BK249.out 1;have hfz8_2:=blk_frozen BK249.out 2))
  repeat (go_quiet (first|((with_reducible refine gate_dst (N:=2) rfl ?_);refine box_event ?hg (N:=2) ?hd (cs:=#[.slice A0_0 l0_0.length c0_0]) (t:=44) ?hr ?_;(case hd=>rfl);(case hg=>rfl);(case hr=>first|(go_simp;done)|(go_simp;rfl));intro gb248 hg w4 hbox hb;have n0_:=aK (below_step (bW HB.out) hb);have n1_:=aK (hbox);have n2_:=aK ((by rw [hg];exact (below_size (bW HB.out)) : w.heap.size ≤ gb248));have n3_:=aK ((by rw [hg];exact (below_size (bW HB.out)) : w.heap.size ≤ gb248));clear HB;have HB:=n0_;have BK248:=n1_;have GW248:=n2_;have GE248:=n3_;clear n0_ n1_ n2_ n3_;clear hb hbox hg)|((with_reducible refine gate_dst (N:=3) rfl ?_);refine box_event ?hg (N:=3) ?hd (cs:=#[.int .i64 a1_0,.int .i64 a1_1,.slice A1_2 l1_2.length c1_2]) (t:=27) ?hr ?_;(case hd=>rfl);(case hg=>rfl);(case hr=>first|(go_simp;done)|(go_simp;rfl));intro gb249 hg w5 hbox hb;have n0_:=aK (bB (bX BK248.out) hb);have n1_:=aK (below_step (bW HB.out) hb);have n2_:=aK (hbox);have n3_:=aK ((by rw [hg];exact (below_size (bW HB.out)) : w.heap.size ≤ gb249));have n4_:=aK ((by rw [hg];exact (below_size (bW HB.out)) : w.heap.size ≤ gb249));have n5_:=aK ((by rw [hg];exact Nat.ne_of_lt (blk_lt (bX BK248.out)) : gb248 ≠ gb249));have n6_:=aK ((by rw [hg];exact Nat.ne_of_gt (blk_lt (bX BK248.out)) : gb249 ≠ gb248));clear BK248;clear HB;have BK248:=n0_;have HB:=n1_;have BK249:=n2_;have GW249:=n3_;have GE249:=n4_;have NB248_249:=n5_;have NB249_248:=n6_;clear n0_ n1_ n2_ n3_ n4_ n5_ n6_;clear hb hbox hg;have hnb6:=NB248_249.out;have hnc6:=NB249_248.out;have hcz7_0 : w5.cell? ⟨gb248,0,none⟩ = some (.slice A0_0 l0_0.length c0_0):=(bC BK248.out 0).trans rfl;have hfz7_0:=blk_frozen BK248.out 0;have p250 : 0 ≤ (0 : Int):=(by omega);have q250 : 0 < (l0_0.length : Int):=of_decide_eq_true (by first|(with_reducible assumption)|assumption);obtain ⟨ad250,A250_0,c250_0,e250,hx250_0,hl250_0,hi250_0⟩:=at_L1 HR0_0.out 0 p250 q250;cases e250;have qi250 : (0 < l0_0.length) = True:=eq_true (by omega);(try rw [show ((0 : Int)).toNat = 0 from rfl] at hx250_0);(try rw [Addr.add_zero'] at hx250_0);replace hx250_0:=(HB.out.cell (World.block_lt_of_cell? w _ hx250_0)).trans hx250_0;have HR250_0:=aK hi250_0;have HC250_0:=aK hl250_0;clear hi250_0 hl250_0;replace p250:=eq_true p250;replace q250:=eq_true q250;have hcz8_0 : w5.cell? ⟨gb249,0,none⟩ = some (.int .i64 a1_0):=(bC BK249.out 0).trans rfl;have hcz8_1 : w5.cell? ⟨gb249,1,none⟩ = some (.int .i64 a1_1):=(bC BK249.out 1).trans rfl;have hcz8_2 : w5.cell? ⟨gb249,2,none⟩ = some (.slice A1_2 l1_2.length c1_2):=(bC BK249.out 2).trans rfl;have hfz8_0:=blk_frozen BK249.out 0;have hfz8_1:=blk_frozen BK249.out 1;have hfz8_2:=blk_frozen BK249.out 2));try go_wp2_with (first|((with_reducible refine gate_dst (N:=2) rfl ?_);refine box_event ?hg (N:=2) ?hd (cs:=#[.slice A0_0 l0_0.length c0_0]) (t:=44) ?hr ?_;(case hd=>rfl);(case hg=>rfl);(case hr=>first|(go_simp;done)|(go_simp;rfl));intro gb248 hg w4 hbox hb;have n0_:=aK (below_step (bW HB.out) hb);have n1_:=aK (hbox);have n2_:=aK ((by rw [hg];exact (below_size (bW HB.out)) : w.heap.size ≤ gb248));have n3_:=aK ((by rw [hg];exact (below_size (bW HB.out)) : w.heap.size ≤ gb248));clear HB;have HB:=n0_;have BK248:=n1_;have GW248:=n2_;have GE248:=n3_;clear n0_ n1_ n2_ n3_;clear hb hbox hg)|((with_reducible refine gate_dst (N:=3) rfl ?_);refine box_event ?hg (N:=3) ?hd (cs:=#[.int .i64 a1_0,.int .i64 a1_1,.slice A1_2 l1_2.length c1_2]) (t:=27) ?hr ?_;(case hd=>rfl);(case hg=>rfl);(case hr=>first|(go_simp;done)|(go_simp;rfl));intro gb249 hg w5 hbox hb;have n0_:=aK (bB (bX BK248.out) hb);have n1_:=aK (below_step (bW HB.out) hb);have n2_:=aK (hbox);have n3_:=aK ((by rw [hg];exact (below_size (bW HB.out)) : w.heap.size ≤ gb249));have n4_:=aK ((by rw [hg];exact (below_size (bW HB.out)) : w.heap.size ≤ gb249));have n5_:=aK ((by rw [hg];exact Nat.ne_of_lt (blk_lt (bX BK248.out)) : gb248 ≠ gb249));have n6_:=aK ((by rw [hg];exact Nat.ne_of_gt (blk_lt (bX BK248.out)) : gb249 ≠ gb248));clear BK248;clear HB;have BK248:=n0_;have HB:=n1_;have BK249:=n2_;have GW249:=n3_;have GE249:=n4_;have NB248_249:=n5_;have NB249_248:=n6_;clear n0_ n1_ n2_ n3_ n4_ n5_ n6_;clear hb hbox hg;have hnb6:=NB248_249.out;have hnc6:=NB249_248.out;have hcz7_0 : w5.cell? ⟨gb248,0,none⟩ = some (.slice A0_0 l0_0.length c0_0):=(bC BK248.out 0).trans rfl;have hfz7_0:=blk_frozen BK248.out 0;have p250 : 0 ≤ (0 : Int):=(by omega);have q250 : 0 < (l0_0.length : Int):=of_decide_eq_true (by first|(with_reducible assumption)|assumption);obtain ⟨ad250,A250_0,c250_0,e250,hx250_0,hl250_0,hi250_0⟩:=at_L1 HR0_0.out 0 p250 q250;cases e250;have qi250 : (0 < l0_0.length) = True:=eq_true (by omega);(try rw [show ((0 : Int)).toNat = 0 from rfl] at hx250_0);(try rw [Addr.add_zero'] at hx250_0);replace hx250_0:=(HB.out.cell (World.block_lt_of_cell? w _ hx250_0)).trans hx250_0;have HR250_0:=aK hi250_0;have HC250_0:=aK hl250_0;clear hi250_0 hl250_0;replace p250:=eq_true p250;replace q250:=eq_true q250;have hcz8_0 : w5.cell? ⟨gb249,0,none⟩ = some (.int .i64 a1_0):=(bC BK249.out 0).trans rfl;have hcz8_1 : w5.cell? ⟨gb249,1,none⟩ = some (.int .i64 a1_1):=(bC BK249.out 1).trans rfl;have hcz8_2 : w5.cell? ⟨gb249,2,none⟩ = some (.slice A1_2 l1_2.length c1_2):=(bC BK249.out 2).trans rfl;have hfz8_0:=blk_frozen BK249.out 0;have hfz8_1:=blk_frozen BK249.out 1;have hfz8_2:=blk_frozen BK249.out 2)))
  go_ret
  exact ⟨by first|rfl|(simp [errW_none,errW_some] <;> rfl)|(simp [*,errW_none,errW_some] <;> rfl),bW HB.out⟩
 ·rw [if_neg c3] at H
  exact absurd H (by simp)

end Go.Proofs.Ytakepkjcmgcepaa.QFnExactIsClaim
