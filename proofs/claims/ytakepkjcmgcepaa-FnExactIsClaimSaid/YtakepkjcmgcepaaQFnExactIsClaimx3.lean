/- The functions that the law FnExactIsClaim reaches, as plain functions, and the walks that show that the machine's calls answer so. Written by a program of this session (wip/myprint.py) on the kit's print. -/
import Derived.Test.YtakepkjcmgcepaaQFnExactIsClaimx0
import Derived.Test.YtakepkjcmgcepaaQFnExactIsClaimx2
namespace Go.Proofs.Ytakepkjcmgcepaa.QFnExactIsClaim
open Go.RowKit Go.Proofs.YtakepkjcmgcepaaW.PrintWords Go.Proofs.YtakepkjcmgcepaaW.PrintLast Go.Proofs.YtakepkjcmgcepaaW.PrintMore
attribute [local go_sem] max2_int min2_int max_two min_two max_three min_three max_four min_four   -- for this text's walks alone
set_option linter.unusedVariables false
set_option linter.unusedSimpArgs false

/-! ### spec_l03Deal: function 142 -/
mutual
def spec_l03Deal.l0 : Nat → List Bool → Int → List (List Int) → Option (Bool)
 | 0,_,_,_=>none
 | k + 1,x3,x4,x159000=>if x4 < 4 then (if 0 ≤ x4 then (if x4 < (x159000.length : Int) then ((spec_IsHand.f k (rd_L1 x159000 x4)).bind fun t163=>(if t163 = true then (if 0 < (x159000.length : Int) then (spec_l03Deal.j1 k x3 x4 (((rd_L1 x159000 x4).length : Int) != ((rd_L1 x159000 0).length : Int)) x159000) else (none)) else (spec_l03Deal.j1 k x3 x4 true x159000))) else (none)) else (none)) else (some true)
def spec_l03Deal.j1 : Nat → List Bool → Int → Bool → List (List Int) → Option (Bool)
 | 0,_,_,_,_=>none
 | k + 1,x3,x4,x36,x159000=>if x36 = true then (some false) else (spec_l03Deal.l1 k x3 x4 0 x159000)
def spec_l03Deal.l1 : Nat → List Bool → Int → Int → List (List Int) → Option (Bool)
 | 0,_,_,_,_=>none
 | k + 1,x3,x4,x5,x159000=>if 0 ≤ x4 then (if x4 < (x159000.length : Int) then (if x5 < ((rd_L1 x159000 x4).length : Int) then (if 0 ≤ x5 then (if 0 ≤ (rd (rd_L1 x159000 x4) x5) then (if (rd (rd_L1 x159000 x4) x5) < (x3.length : Int) then (if rdOf false x3 (rd (rd_L1 x159000 x4) x5) = true then (some false) else (spec_l03Deal.l1 k (x3.set ((rd (rd_L1 x159000 x4) x5) : Int).toNat true) x4 (wrap64 (x5 + 1)) x159000)) else (none)) else (none)) else (none)) else (spec_l03Deal.l0 k x3 (wrap64 (x4 + 1)) x159000)) else (none)) else (none)
end
def spec_l03Deal.f (k : Nat) (l0_0 : List (List Int)) : Option (Bool) := if (l0_0.length : Int) = 4 then (if 52 ≤ 281474976710656 then (spec_l03Deal.l0 k (List.replicate 52 false) 0 l0_0) else (none)) else (some false)
theorem spec_l03Deal.mono_l : ∀ k, (∀ y0 y1 y2, LeO (spec_l03Deal.l0 k y0 y1 y2) (spec_l03Deal.l0 (k + 1) y0 y1 y2)) ∧ (∀ y0 y1 y2 y3, LeO (spec_l03Deal.j1 k y0 y1 y2 y3) (spec_l03Deal.j1 (k + 1) y0 y1 y2 y3)) ∧ (∀ y0 y1 y2 y3, LeO (spec_l03Deal.l1 k y0 y1 y2 y3) (spec_l03Deal.l1 (k + 1) y0 y1 y2 y3))
 | 0=>⟨fun _ _ _ r h=>by simp [spec_l03Deal.l0] at h,fun _ _ _ _ r h=>by simp [spec_l03Deal.j1] at h,fun _ _ _ _ r h=>by simp [spec_l03Deal.l1] at h⟩
 | k + 1=>by
  obtain ⟨ih0,ih1,ih2⟩:=spec_l03Deal.mono_l k
  refine ⟨?_,?_,?_⟩
  ·intro y0 y1 y2
   unfold spec_l03Deal.l0
   repeat' first
   | (with_reducible exact ih0 _ _ _)
   | (with_reducible exact ih1 _ _ _ _)
   | (with_reducible exact ih2 _ _ _ _)
   | (with_reducible exact spec_IsHand.mono _ _)
   | (with_reducible exact LeO.refl _)
   | (with_reducible exact LeO.none _)
   | (with_reducible refine LeO.ite ?_ ?_)
   | (with_reducible refine LeO.bind ?_ (fun _=>?_))
   | exact ih0 _ _ _
   | exact ih1 _ _ _ _
   | exact ih2 _ _ _ _
   | exact spec_IsHand.mono _ _
   | exact LeO.none _
   | refine LeO.ite ?_ ?_
   | refine LeO.bind ?_ (fun _=>?_)
  ·intro y0 y1 y2 y3
   unfold spec_l03Deal.j1
   repeat' first
   | (with_reducible exact ih0 _ _ _)
   | (with_reducible exact ih1 _ _ _ _)
   | (with_reducible exact ih2 _ _ _ _)
   | (with_reducible exact spec_IsHand.mono _ _)
   | (with_reducible exact LeO.refl _)
   | (with_reducible exact LeO.none _)
   | (with_reducible refine LeO.ite ?_ ?_)
   | (with_reducible refine LeO.bind ?_ (fun _=>?_))
   | exact ih0 _ _ _
   | exact ih1 _ _ _ _
   | exact ih2 _ _ _ _
   | exact spec_IsHand.mono _ _
   | exact LeO.none _
   | refine LeO.ite ?_ ?_
   | refine LeO.bind ?_ (fun _=>?_)
  ·intro y0 y1 y2 y3
   unfold spec_l03Deal.l1
   repeat' first
   | (with_reducible exact ih0 _ _ _)
   | (with_reducible exact ih1 _ _ _ _)
   | (with_reducible exact ih2 _ _ _ _)
   | (with_reducible exact spec_IsHand.mono _ _)
   | (with_reducible exact LeO.refl _)
   | (with_reducible exact LeO.none _)
   | (with_reducible refine LeO.ite ?_ ?_)
   | (with_reducible refine LeO.bind ?_ (fun _=>?_))
   | exact ih0 _ _ _
   | exact ih1 _ _ _ _
   | exact ih2 _ _ _ _
   | exact spec_IsHand.mono _ _
   | exact LeO.none _
   | refine LeO.ite ?_ ?_
   | refine LeO.bind ?_ (fun _=>?_)
theorem spec_l03Deal.mono : ∀ a0 k, LeO (spec_l03Deal.f k a0) (spec_l03Deal.f (k + 1) a0) := by
 intro a0 k
 obtain ⟨ih0,ih1,ih2⟩:=spec_l03Deal.mono_l k
 unfold spec_l03Deal.f
 repeat' first
   | (with_reducible exact ih0 _ _ _)
   | (with_reducible exact ih1 _ _ _ _)
   | (with_reducible exact ih2 _ _ _ _)
   | (with_reducible exact spec_IsHand.mono _ _)
   | (with_reducible exact LeO.refl _)
   | (with_reducible exact LeO.none _)
   | (with_reducible refine LeO.ite ?_ ?_)
   | (with_reducible refine LeO.bind ?_ (fun _=>?_))
   | exact ih0 _ _ _
   | exact ih1 _ _ _ _
   | exact ih2 _ _ _ _
   | exact spec_IsHand.mono _ _
   | exact LeO.none _
   | refine LeO.ite ?_ ?_
   | refine LeO.bind ?_ (fun _=>?_)
set_option maxHeartbeats 8000000 in
set_option maxRecDepth 100000 in
theorem spec_l03Deal.calls (k : Nat) (A0_0 : Option Addr) (c0_0 : Nat) (l0_0 : List (List Int)) (r : Bool) (w : World) (hr0_0 : Kd.C (Kd.slice 2 (Kd.int .i64)) w A0_0 l0_0.length l0_0) (hc0_0 : l0_0.length ≤ c0_0) (h : spec_l03Deal.f k l0_0 = some r) :
  Calls Try.prog 142 #[.agg #[.slice A0_0 l0_0.length c0_0]] w fun e w'=>e = .returned (.bool r) ∧ Below w.heap.size w w':=by
 have hu44:=Try.underlying44
 have HR0_0:=aK hr0_0
 have HC0_0:=aK hc0_0
 clear hr0_0 hc0_0
 have HB:=aK (Below.refl w.heap.size w)
 have H : (if (l0_0.length : Int) = 4 then (if 52 ≤ 281474976710656 then (spec_l03Deal.l0 k (List.replicate 52 false) 0 l0_0) else (none)) else (some false)) = some r:=h
 clear h
 by_cases c2 : (l0_0.length : Int) = 4
 ·rw [if_pos c2] at H
  have c2b0 : ((l0_0.length : Int) == 4) = true:=beq_iff_eq.mpr c2
  have c2b1 : ((l0_0.length : Int) != 4) = false:=bne_eq_false_iff_eq.mpr c2
  clear c2
  by_cases c3 : 52 ≤ 281474976710656
  ·rw [if_pos c3] at H
   have c3b0:=eq_true c3
   have c3b1 : decide (52 ≤ 281474976710656) = true:=decide_eq_true c3
   clear c3
   obtain ⟨y159,hy159⟩ : ∃ y_ : List Bool,y_ = (List.replicate 52 false):=⟨_,rfl⟩
   replace H : (spec_l03Deal.l0 k y159 0 l0_0) = some r:=by first|(rw [hy159];with_reducible exact H)|(have H2_:=(Option.bind_some _ _).symm.trans H;rw [hy159];with_reducible exact H2_)|(have H2_:=(Option.bind_some _ _).symm.trans H;with_reducible exact H2_)|with_reducible exact H|(rw [hy159];exact H)|exact H
   have Ny159:=aK hy159
   clear hy159
   have H':=aK H
   clear H
   go_enter Try.func142,Try.ntmps142
   go_wp2_with (first|((with_reducible refine gate_dst (N:=1) rfl ?_);(try (refine gate_guard (by rfl) ?_;dsimp only));refine box_event ?hg (N:=1) ?hd (cs:=#[.slice A0_0 l0_0.length c0_0]) (t:=44) ?hr ?_;(case hd=>rfl);(case hg=>rfl);(case hr=>first|(go_simp;done)|(go_simp;rfl));intro gb158 hg w4 hbox hb;have n0_:=aK (below_step (bW HB.out) hb);have n1_:=aK (hbox);have n2_:=aK ((by rw [hg];exact (below_size (bW HB.out)) : w.heap.size ≤ gb158));have n3_:=aK ((by rw [hg];exact (below_size (bW HB.out)) : w.heap.size ≤ gb158));clear HB;have HB:=n0_;have BK158:=n1_;have GW158:=n2_;have GE158:=n3_;clear n0_ n1_ n2_ n3_;clear hb hbox hg;have hcz5_0 : w4.cell? ⟨gb158,0,none⟩ = some (.slice A0_0 l0_0.length c0_0):=(bC BK158.out 0).trans rfl;have hfz5_0:=blk_frozen BK158.out 0)|((with_reducible refine gate_dst (N:=11) rfl ?_);(try (refine gate_guard (by rfl) ?_;dsimp only));refine Kd.R_make Kd.bool _ 4 rfl (N:=11) rfl 120 _ _ rfl 52 rfl rfl Try.underlying120 (.bool false) 1 info4 rfl (by decide) (by omega) false (ok:=fun _=>True) (okp:=fun _=>True) rfl (fun _ hk=>hk) trivial (by omega) (by omega) (Below.refl _ _) (Nat.le_refl _) ?_;intro v160 w6 ho7 hb hg_ hnew_;clear hg_ hnew_;(first|rw [← Ny159.out] at ho7|(simp only [Int.reduceToNat] at ho7;rw [← Ny159.out] at ho7));have n0_:=aK (Kd.R_lower ho7 (below_size (bW HB.out)));have n1_:=aK (bB (bX BK158.out) hb);have n2_:=aK (below_step (bW HB.out) hb);clear BK158;clear HB;have HO161:=n0_;have BK158:=n1_;have HB:=n2_;clear n0_ n1_ n2_;clear hb ho7))
   repeat (go_quiet (first|((with_reducible refine gate_dst (N:=1) rfl ?_);(try (refine gate_guard (by rfl) ?_;dsimp only));refine box_event ?hg (N:=1) ?hd (cs:=#[.slice A0_0 l0_0.length c0_0]) (t:=44) ?hr ?_;(case hd=>rfl);(case hg=>rfl);(case hr=>first|(go_simp;done)|(go_simp;rfl));intro gb158 hg w4 hbox hb;have n0_:=aK (below_step (bW HB.out) hb);have n1_:=aK (hbox);have n2_:=aK ((by rw [hg];exact (below_size (bW HB.out)) : w.heap.size ≤ gb158));have n3_:=aK ((by rw [hg];exact (below_size (bW HB.out)) : w.heap.size ≤ gb158));clear HB;have HB:=n0_;have BK158:=n1_;have GW158:=n2_;have GE158:=n3_;clear n0_ n1_ n2_ n3_;clear hb hbox hg;have hcz5_0 : w4.cell? ⟨gb158,0,none⟩ = some (.slice A0_0 l0_0.length c0_0):=(bC BK158.out 0).trans rfl;have hfz5_0:=blk_frozen BK158.out 0)|((with_reducible refine gate_dst (N:=11) rfl ?_);(try (refine gate_guard (by rfl) ?_;dsimp only));refine Kd.R_make Kd.bool _ 4 rfl (N:=11) rfl 120 _ _ rfl 52 rfl rfl Try.underlying120 (.bool false) 1 info4 rfl (by decide) (by omega) false (ok:=fun _=>True) (okp:=fun _=>True) rfl (fun _ hk=>hk) trivial (by omega) (by omega) (Below.refl _ _) (Nat.le_refl _) ?_;intro v160 w6 ho7 hb hg_ hnew_;clear hg_ hnew_;(first|rw [← Ny159.out] at ho7|(simp only [Int.reduceToNat] at ho7;rw [← Ny159.out] at ho7));have n0_:=aK (Kd.R_lower ho7 (below_size (bW HB.out)));have n1_:=aK (bB (bX BK158.out) hb);have n2_:=aK (below_step (bW HB.out) hb);clear BK158;clear HB;have HO161:=n0_;have BK158:=n1_;have HB:=n2_;clear n0_ n1_ n2_;clear hb ho7));try go_wp2_with (first|((with_reducible refine gate_dst (N:=1) rfl ?_);(try (refine gate_guard (by rfl) ?_;dsimp only));refine box_event ?hg (N:=1) ?hd (cs:=#[.slice A0_0 l0_0.length c0_0]) (t:=44) ?hr ?_;(case hd=>rfl);(case hg=>rfl);(case hr=>first|(go_simp;done)|(go_simp;rfl));intro gb158 hg w4 hbox hb;have n0_:=aK (below_step (bW HB.out) hb);have n1_:=aK (hbox);have n2_:=aK ((by rw [hg];exact (below_size (bW HB.out)) : w.heap.size ≤ gb158));have n3_:=aK ((by rw [hg];exact (below_size (bW HB.out)) : w.heap.size ≤ gb158));clear HB;have HB:=n0_;have BK158:=n1_;have GW158:=n2_;have GE158:=n3_;clear n0_ n1_ n2_ n3_;clear hb hbox hg;have hcz5_0 : w4.cell? ⟨gb158,0,none⟩ = some (.slice A0_0 l0_0.length c0_0):=(bC BK158.out 0).trans rfl;have hfz5_0:=blk_frozen BK158.out 0)|((with_reducible refine gate_dst (N:=11) rfl ?_);(try (refine gate_guard (by rfl) ?_;dsimp only));refine Kd.R_make Kd.bool _ 4 rfl (N:=11) rfl 120 _ _ rfl 52 rfl rfl Try.underlying120 (.bool false) 1 info4 rfl (by decide) (by omega) false (ok:=fun _=>True) (okp:=fun _=>True) rfl (fun _ hk=>hk) trivial (by omega) (by omega) (Below.refl _ _) (Nat.le_refl _) ?_;intro v160 w6 ho7 hb hg_ hnew_;clear hg_ hnew_;(first|rw [← Ny159.out] at ho7|(simp only [Int.reduceToNat] at ho7;rw [← Ny159.out] at ho7));have n0_:=aK (Kd.R_lower ho7 (below_size (bW HB.out)));have n1_:=aK (bB (bX BK158.out) hb);have n2_:=aK (below_step (bW HB.out) hb);clear BK158;clear HB;have HO161:=n0_;have BK158:=n1_;have HB:=n2_;clear n0_ n1_ n2_;clear hb ho7)))
   go_loopg [4] k (fun kq v4 w'=>∃ (x3_1 : List Bool) (x4_1 : Int),v4 = .int .i64 x4_1 ∧ Aside0 (spec_l03Deal.l0 kq x3_1 x4_1 l0_0 = some r) ∧ Aside0 (kq ≤ k) ∧ Aside0 (Kd.R Kd.bool 4 w' w.heap.size (fun _=>True) v160 x3_1) ∧ Aside0 (w'.heap[gb158]? = some (.cells #[(.slice A0_0 l0_0.length c0_0)] 44 (0,0))) ∧ Aside0 (Below w.heap.size w w'))
   case atStart=>exact ⟨(y159),(0),(by first|rfl|(simp;done)|(simp [*];done)),H',⟨Nat.le_refl _⟩,⟨by (with_reducible repeat first|apply Kd.R_alloc|apply Kd.R_drewN|apply Kd.R_drew);exact HO161.out⟩,⟨by (with_reducible repeat first|apply bN|apply bD|apply bA);exact BK158.out⟩,⟨bW HB.out⟩⟩
   case round =>
    clear H'
    try clear c1
    try clear c2
    try clear c2b0
    try clear c2b1
    try clear p2
    try clear c3
    try clear c3b0
    try clear c3b1
    try clear hcz5_0
    try clear hfz5_0
    obtain ⟨x3_1,x4_1,rfl,HA,HK1,HO_3,BK158,HB⟩:=hrel
    cases gk with
    | zero=>exact absurd HA.out (by simp [spec_l03Deal.l0])
    | succ k1 =>
     have H:=HA.out
     clear HA
     simp only [spec_l03Deal.l0] at H
     by_cases c8 : x4_1 < 4
     ·rw [if_pos c8] at H
      have c8b0 : decide (x4_1 < 4) = true:=decide_eq_true c8
      clear c8
      have HC9:=aK H
      clear H
      go_upto_region 7 with (fail)
      repeat (go_quiet (fail);go_upto_region 7 with (fail))
      go_cut [36] (fun v36 wc=>∃ (kq : Nat) (x36_8 : Bool),v36 = .bool x36_8 ∧ Aside0 (spec_l03Deal.j1 kq x3_1 x4_1 x36_8 l0_0 = some r) ∧ Aside0 (kq ≤ k1) ∧ Aside0 (Kd.R Kd.bool 4 wc w.heap.size (fun _=>True) v160 x3_1) ∧ Aside0 (wc.heap[gb158]? = some (.cells #[(.slice A0_0 l0_0.length c0_0)] 44 (0,0))) ∧ Aside0 (Below w.heap.size w wc))
      case first =>
       have H:=HC9.out
       clear HC9
       by_cases c10 : 0 ≤ x4_1
       ·rw [if_pos c10] at H
        have c10b0 : decide (0 ≤ x4_1) = true:=decide_eq_true c10
        clear c10
        (first|rw [c10b0]|(simp only [i64_w,i32_w];rw [c10b0])|skip)
        by_cases c11 : x4_1 < (l0_0.length : Int)
        ·rw [if_pos c11] at H
         have c11b0 : decide (x4_1 < (l0_0.length : Int)) = true:=decide_eq_true c11
         clear c11
         replace H:=Option.bind_eq_some_iff.mp H
         obtain ⟨t163,A120,H⟩:=H
         replace H : (if t163 = true then (if 0 < (l0_0.length : Int) then (spec_l03Deal.j1 k1 x3_1 x4_1 (((rd_L1 l0_0 x4_1).length : Int) != ((rd_L1 l0_0 0).length : Int)) l0_0) else (none)) else (spec_l03Deal.j1 k1 x3_1 x4_1 true l0_0)) = some r:=H
         have A12:=aK A120
         clear A120
         by_cases c13 : t163 = true
         ·subst c13
          have H1 : (if 0 < (l0_0.length : Int) then (spec_l03Deal.j1 k1 x3_1 x4_1 (((rd_L1 l0_0 x4_1).length : Int) != ((rd_L1 l0_0 0).length : Int)) l0_0) else (none)) = some r:=by rw [if_pos rfl] at H;exact H
          clear H
          have H:=H1
          clear H1
          by_cases c14 : 0 < (l0_0.length : Int)
          ·rw [if_pos c14] at H
           have c14b0 : decide (0 < (l0_0.length : Int)) = true:=decide_eq_true c14
           have c14b1 : decide (0 < l0_0.length) = true:=decide_eq_true (by omega)
           clear c14
           have H':=aK H
           clear H
           have hcz15_0 : wr.cell? ⟨gb158,0,none⟩ = some (.slice A0_0 l0_0.length c0_0):=(bC BK158.out 0).trans rfl
           have hfz15_0:=blk_frozen BK158.out 0
           have p162 : 0 ≤ (x4_1 : Int):=of_decide_eq_true (by first|(with_reducible assumption)|assumption)
           have q162 : x4_1 < (l0_0.length : Int):=of_decide_eq_true (by first|(with_reducible assumption)|assumption)
           obtain ⟨ad162,A162_0,c162_0,e162,hx162_0,hl162_0,hi162_0⟩:=at_L1 HR0_0.out x4_1 p162 q162
           cases e162
           replace hx162_0:=(HB.out.cell (World.block_lt_of_cell? w _ hx162_0)).trans hx162_0
           have HR162_0:=aK hi162_0
           have HC162_0:=aK hl162_0
           clear hi162_0 hl162_0
           replace p162:=eq_true p162
           replace q162:=eq_true q162
           go_wp2_with (first|(go_at_call 154;(with_reducible refine (spec_IsHand.calls k1 _ _ (rd_L1 l0_0 x4_1) true _ ?side1 ?side2 A12.out).mono ?_);(case side1=>repeat (first|exact (Kd.C_below HR162_0.out HB.out)|(with_reducible refine Kd.C_alloc ?_ _)|(with_reducible refine Kd.C_drewN ?_ _)|(with_reducible refine Kd.C_drew ?_)));(case side2=>exact HC162_0.out);rintro e w' ⟨rfl,⟨nd,rfl⟩⟩;(try first|exact ⟨rfl,_,World.drewN_drewN _ _ _⟩|exact ⟨rfl,_,Eq.trans (World.drewN_drewN _ _ _) (congrArg (World.drewN _) (Nat.add_assoc _ _ _))⟩);have p164 : 0 ≤ (x4_1 : Int):=of_decide_eq_true (by first|(with_reducible assumption)|assumption);have q164 : x4_1 < (l0_0.length : Int):=of_decide_eq_true (by first|(with_reducible assumption)|assumption);obtain ⟨ad164,A164_0,c164_0,e164,hx164_0,hl164_0,hi164_0⟩:=at_L1 HR0_0.out x4_1 p164 q164;obtain rfl : ad162 = ad164:=(by injection e164);replace hx164_0:=(HB.out.cell (World.block_lt_of_cell? w _ hx164_0)).trans hx164_0;have HR164_0:=aK hi164_0;have HC164_0:=aK hl164_0;clear hi164_0 hl164_0;replace p164:=eq_true p164;replace q164:=eq_true q164;have ea_:=Option.some.inj (hx162_0.symm.trans hx164_0);injection ea_ with ea_ en_ ec_;subst ea_;subst ec_;clear en_;have p165 : 0 ≤ (0 : Int):=(by omega);have q165 : 0 < (l0_0.length : Int):=of_decide_eq_true (by first|(with_reducible assumption)|assumption);obtain ⟨ad165,A165_0,c165_0,e165,hx165_0,hl165_0,hi165_0⟩:=at_L1 HR0_0.out 0 p165 q165;obtain rfl : ad162 = ad165:=(by injection e165);have qi165 : (0 < l0_0.length) = True:=eq_true (by omega);(try rw [show ((0 : Int)).toNat = 0 from rfl] at hx165_0);(try rw [Addr.add_zero'] at hx165_0);replace hx165_0:=(HB.out.cell (World.block_lt_of_cell? w _ hx165_0)).trans hx165_0;have HR165_0:=aK hi165_0;have HC165_0:=aK hl165_0;clear hi165_0 hl165_0;replace p165:=eq_true p165;replace q165:=eq_true q165))
           repeat (go_quiet (first|(go_at_call 154;(with_reducible refine (spec_IsHand.calls k1 _ _ (rd_L1 l0_0 x4_1) true _ ?side1 ?side2 A12.out).mono ?_);(case side1=>repeat (first|exact (Kd.C_below HR162_0.out HB.out)|(with_reducible refine Kd.C_alloc ?_ _)|(with_reducible refine Kd.C_drewN ?_ _)|(with_reducible refine Kd.C_drew ?_)));(case side2=>exact HC162_0.out);rintro e w' ⟨rfl,⟨nd,rfl⟩⟩;(try first|exact ⟨rfl,_,World.drewN_drewN _ _ _⟩|exact ⟨rfl,_,Eq.trans (World.drewN_drewN _ _ _) (congrArg (World.drewN _) (Nat.add_assoc _ _ _))⟩);have p164 : 0 ≤ (x4_1 : Int):=of_decide_eq_true (by first|(with_reducible assumption)|assumption);have q164 : x4_1 < (l0_0.length : Int):=of_decide_eq_true (by first|(with_reducible assumption)|assumption);obtain ⟨ad164,A164_0,c164_0,e164,hx164_0,hl164_0,hi164_0⟩:=at_L1 HR0_0.out x4_1 p164 q164;obtain rfl : ad162 = ad164:=(by injection e164);replace hx164_0:=(HB.out.cell (World.block_lt_of_cell? w _ hx164_0)).trans hx164_0;have HR164_0:=aK hi164_0;have HC164_0:=aK hl164_0;clear hi164_0 hl164_0;replace p164:=eq_true p164;replace q164:=eq_true q164;have ea_:=Option.some.inj (hx162_0.symm.trans hx164_0);injection ea_ with ea_ en_ ec_;subst ea_;subst ec_;clear en_;have p165 : 0 ≤ (0 : Int):=(by omega);have q165 : 0 < (l0_0.length : Int):=of_decide_eq_true (by first|(with_reducible assumption)|assumption);obtain ⟨ad165,A165_0,c165_0,e165,hx165_0,hl165_0,hi165_0⟩:=at_L1 HR0_0.out 0 p165 q165;obtain rfl : ad162 = ad165:=(by injection e165);have qi165 : (0 < l0_0.length) = True:=eq_true (by omega);(try rw [show ((0 : Int)).toNat = 0 from rfl] at hx165_0);(try rw [Addr.add_zero'] at hx165_0);replace hx165_0:=(HB.out.cell (World.block_lt_of_cell? w _ hx165_0)).trans hx165_0;have HR165_0:=aK hi165_0;have HC165_0:=aK hl165_0;clear hi165_0 hl165_0;replace p165:=eq_true p165;replace q165:=eq_true q165));try go_wp2_with (first|(go_at_call 154;(with_reducible refine (spec_IsHand.calls k1 _ _ (rd_L1 l0_0 x4_1) true _ ?side1 ?side2 A12.out).mono ?_);(case side1=>repeat (first|exact (Kd.C_below HR162_0.out HB.out)|(with_reducible refine Kd.C_alloc ?_ _)|(with_reducible refine Kd.C_drewN ?_ _)|(with_reducible refine Kd.C_drew ?_)));(case side2=>exact HC162_0.out);rintro e w' ⟨rfl,⟨nd,rfl⟩⟩;(try first|exact ⟨rfl,_,World.drewN_drewN _ _ _⟩|exact ⟨rfl,_,Eq.trans (World.drewN_drewN _ _ _) (congrArg (World.drewN _) (Nat.add_assoc _ _ _))⟩);have p164 : 0 ≤ (x4_1 : Int):=of_decide_eq_true (by first|(with_reducible assumption)|assumption);have q164 : x4_1 < (l0_0.length : Int):=of_decide_eq_true (by first|(with_reducible assumption)|assumption);obtain ⟨ad164,A164_0,c164_0,e164,hx164_0,hl164_0,hi164_0⟩:=at_L1 HR0_0.out x4_1 p164 q164;obtain rfl : ad162 = ad164:=(by injection e164);replace hx164_0:=(HB.out.cell (World.block_lt_of_cell? w _ hx164_0)).trans hx164_0;have HR164_0:=aK hi164_0;have HC164_0:=aK hl164_0;clear hi164_0 hl164_0;replace p164:=eq_true p164;replace q164:=eq_true q164;have ea_:=Option.some.inj (hx162_0.symm.trans hx164_0);injection ea_ with ea_ en_ ec_;subst ea_;subst ec_;clear en_;have p165 : 0 ≤ (0 : Int):=(by omega);have q165 : 0 < (l0_0.length : Int):=of_decide_eq_true (by first|(with_reducible assumption)|assumption);obtain ⟨ad165,A165_0,c165_0,e165,hx165_0,hl165_0,hi165_0⟩:=at_L1 HR0_0.out 0 p165 q165;obtain rfl : ad162 = ad165:=(by injection e165);have qi165 : (0 < l0_0.length) = True:=eq_true (by omega);(try rw [show ((0 : Int)).toNat = 0 from rfl] at hx165_0);(try rw [Addr.add_zero'] at hx165_0);replace hx165_0:=(HB.out.cell (World.block_lt_of_cell? w _ hx165_0)).trans hx165_0;have HR165_0:=aK hi165_0;have HC165_0:=aK hl165_0;clear hi165_0 hl165_0;replace p165:=eq_true p165;replace q165:=eq_true q165)))
           go_meet
           case rel=>exact ⟨_,((((rd_L1 l0_0 x4_1).length : Int) != ((rd_L1 l0_0 0).length : Int))),(by first|rfl|(simp;done)|(simp [*];done)),H',⟨by have:=HK1.out;first|omega|exact Nat.le_refl _⟩,⟨by (with_reducible repeat first|apply Kd.R_alloc|apply Kd.R_drewN|apply Kd.R_drew);exact HO_3.out⟩,⟨by (with_reducible repeat first|apply bN|apply bD|apply bA);exact BK158.out⟩,⟨bW HB.out⟩⟩
          ·rw [if_neg c14] at H
           exact absurd H (by simp)
         ·replace c13:=Bool.eq_false_iff.mpr c13
          subst c13
          have H1 : (spec_l03Deal.j1 k1 x3_1 x4_1 true l0_0) = some r:=by rw [if_neg (show ¬ (false = true) by decide)] at H;exact H
          clear H
          have H:=H1
          clear H1
          have H':=aK H
          clear H
          have hcz16_0 : wr.cell? ⟨gb158,0,none⟩ = some (.slice A0_0 l0_0.length c0_0):=(bC BK158.out 0).trans rfl
          have hfz16_0:=blk_frozen BK158.out 0
          have p162 : 0 ≤ (x4_1 : Int):=of_decide_eq_true (by first|(with_reducible assumption)|assumption)
          have q162 : x4_1 < (l0_0.length : Int):=of_decide_eq_true (by first|(with_reducible assumption)|assumption)
          obtain ⟨ad162,A162_0,c162_0,e162,hx162_0,hl162_0,hi162_0⟩:=at_L1 HR0_0.out x4_1 p162 q162
          cases e162
          replace hx162_0:=(HB.out.cell (World.block_lt_of_cell? w _ hx162_0)).trans hx162_0
          have HR162_0:=aK hi162_0
          have HC162_0:=aK hl162_0
          clear hi162_0 hl162_0
          replace p162:=eq_true p162
          replace q162:=eq_true q162
          go_wp2_with (first|(go_at_call 154;(with_reducible refine (spec_IsHand.calls k1 _ _ (rd_L1 l0_0 x4_1) false _ ?side1 ?side2 A12.out).mono ?_);(case side1=>repeat (first|exact (Kd.C_below HR162_0.out HB.out)|(with_reducible refine Kd.C_alloc ?_ _)|(with_reducible refine Kd.C_drewN ?_ _)|(with_reducible refine Kd.C_drew ?_)));(case side2=>exact HC162_0.out);rintro e w' ⟨rfl,⟨nd,rfl⟩⟩;(try first|exact ⟨rfl,_,World.drewN_drewN _ _ _⟩|exact ⟨rfl,_,Eq.trans (World.drewN_drewN _ _ _) (congrArg (World.drewN _) (Nat.add_assoc _ _ _))⟩)))
          repeat (go_quiet (first|(go_at_call 154;(with_reducible refine (spec_IsHand.calls k1 _ _ (rd_L1 l0_0 x4_1) false _ ?side1 ?side2 A12.out).mono ?_);(case side1=>repeat (first|exact (Kd.C_below HR162_0.out HB.out)|(with_reducible refine Kd.C_alloc ?_ _)|(with_reducible refine Kd.C_drewN ?_ _)|(with_reducible refine Kd.C_drew ?_)));(case side2=>exact HC162_0.out);rintro e w' ⟨rfl,⟨nd,rfl⟩⟩;(try first|exact ⟨rfl,_,World.drewN_drewN _ _ _⟩|exact ⟨rfl,_,Eq.trans (World.drewN_drewN _ _ _) (congrArg (World.drewN _) (Nat.add_assoc _ _ _))⟩)));try go_wp2_with (first|(go_at_call 154;(with_reducible refine (spec_IsHand.calls k1 _ _ (rd_L1 l0_0 x4_1) false _ ?side1 ?side2 A12.out).mono ?_);(case side1=>repeat (first|exact (Kd.C_below HR162_0.out HB.out)|(with_reducible refine Kd.C_alloc ?_ _)|(with_reducible refine Kd.C_drewN ?_ _)|(with_reducible refine Kd.C_drew ?_)));(case side2=>exact HC162_0.out);rintro e w' ⟨rfl,⟨nd,rfl⟩⟩;(try first|exact ⟨rfl,_,World.drewN_drewN _ _ _⟩|exact ⟨rfl,_,Eq.trans (World.drewN_drewN _ _ _) (congrArg (World.drewN _) (Nat.add_assoc _ _ _))⟩))))
          go_meet
          case rel=>exact ⟨_,(true),(by first|rfl|(simp;done)|(simp [*];done)),H',⟨by have:=HK1.out;first|omega|exact Nat.le_refl _⟩,⟨by (with_reducible repeat first|apply Kd.R_alloc|apply Kd.R_drewN|apply Kd.R_drew);exact HO_3.out⟩,⟨by (with_reducible repeat first|apply bN|apply bD|apply bA);exact BK158.out⟩,⟨bW HB.out⟩⟩
        ·rw [if_neg c11] at H
         exact absurd H (by simp)
       ·rw [if_neg c10] at H
        exact absurd H (by simp)
      case rest =>
       clear HC9
       try clear c1
       try clear p1
       try clear q1
       try clear hx1
       try clear qi1
       try clear c2
       try clear c2b0
       try clear c2b1
       try clear p2
       try clear c3
       try clear c3b0
       try clear c3b1
       try clear c8
       try clear c8b0
       try clear c10
       try clear c10b0
       try clear c11
       try clear c11b0
       try clear c13
       try clear c14
       try clear c14b0
       try clear c14b1
       try clear c16
       try clear p16
       try clear q16
       try clear hx16
       try clear qi16
       try clear hcz15_0
       try clear hcz16_0
       try clear hcz5_0
       try clear hfz15_0
       try clear hfz16_0
       try clear hfz5_0
       try clear hx162_0
       try clear hx164_0
       try clear hx165_0
       try clear p162
       try clear p164
       try clear p165
       try clear p2
       try clear q162
       try clear q164
       try clear q165
       obtain ⟨kq,x36_8,rfl,HA,HJ8,HO_3,BK158,HB⟩:=hcut
       cases kq with
       | zero=>exact absurd HA.out (by simp [spec_l03Deal.j1])
       | succ kj8 =>
        have H:=HA.out
        clear HA
        simp only [spec_l03Deal.j1] at H
        by_cases c17 : x36_8 = true
        ·subst c17
         have H1 : (some false) = some r:=by rw [if_pos rfl] at H;exact H
         clear H
         have H:=H1
         clear H1
         obtain rfl:=Option.some.inj H
         go_wp2
         repeat (go_quiet (fail);try go_wp2)
         go_ret
         exact ⟨by first|rfl|(simp [errW_none,errW_some] <;> rfl)|(simp [*,errW_none,errW_some] <;> rfl),bW HB.out⟩
        ·replace c17:=Bool.eq_false_iff.mpr c17
         subst c17
         have H1 : (spec_l03Deal.l1 kj8 x3_1 x4_1 0 l0_0) = some r:=by rw [if_neg (show ¬ (false = true) by decide)] at H;exact H
         clear H
         have H:=H1
         clear H1
         have H':=aK H
         clear H
         go_wp2
         repeat (go_quiet (fail);try go_wp2)
         go_loopg [5] kj8 (fun kq v5 w'=>∃ (x3_3 : List Bool) (x5_3 : Int),v5 = .int .i64 x5_3 ∧ Aside0 (spec_l03Deal.l1 kq x3_3 x4_1 x5_3 l0_0 = some r) ∧ Aside0 (kq ≤ kj8) ∧ Aside0 (Kd.R Kd.bool 4 w' w.heap.size (fun _=>True) v160 x3_3) ∧ Aside0 (w'.heap[gb158]? = some (.cells #[(.slice A0_0 l0_0.length c0_0)] 44 (0,0))) ∧ Aside0 (Below w.heap.size w w'))
         case atStart=>exact ⟨(x3_1),(0),(by first|rfl|(simp;done)|(simp [*];done)),H',⟨Nat.le_refl _⟩,⟨by (with_reducible repeat first|apply Kd.R_alloc|apply Kd.R_drewN|apply Kd.R_drew);exact HO_3.out⟩,⟨by (with_reducible repeat first|apply bN|apply bD|apply bA);exact BK158.out⟩,⟨bW HB.out⟩⟩
         case round =>
          clear H'
          try clear c1
          try clear p1
          try clear q1
          try clear hx1
          try clear qi1
          try clear c2
          try clear c2b0
          try clear c2b1
          try clear p2
          try clear c3
          try clear c3b0
          try clear c3b1
          try clear c8
          try clear c8b0
          try clear c10
          try clear c10b0
          try clear c11
          try clear c11b0
          try clear c13
          try clear c14
          try clear c14b0
          try clear c14b1
          try clear c16
          try clear p16
          try clear q16
          try clear hx16
          try clear qi16
          try clear c17
          try clear hcz15_0
          try clear hcz16_0
          try clear hcz5_0
          try clear hfz15_0
          try clear hfz16_0
          try clear hfz5_0
          try clear hx162_0
          try clear hx164_0
          try clear hx165_0
          try clear p1
          try clear p16
          try clear p162
          try clear p164
          try clear p165
          try clear p2
          try clear q1
          try clear q16
          try clear q162
          try clear q164
          try clear q165
          obtain ⟨x3_3,x5_3,rfl,HA,HK3,HO_3,BK158,HB⟩:=hrel
          cases gk with
          | zero=>exact absurd HA.out (by simp [spec_l03Deal.l1])
          | succ k3 =>
           have H:=HA.out
           clear HA
           simp only [spec_l03Deal.l1] at H
           by_cases c18 : 0 ≤ x4_1
           ·rw [if_pos c18] at H
            have c18b0 : decide (0 ≤ x4_1) = true:=decide_eq_true c18
            clear c18
            by_cases c19 : x4_1 < (l0_0.length : Int)
            ·rw [if_pos c19] at H
             have c19b0 : decide (x4_1 < (l0_0.length : Int)) = true:=decide_eq_true c19
             clear c19
             by_cases c20 : x5_3 < ((rd_L1 l0_0 x4_1).length : Int)
             ·rw [if_pos c20] at H
              have c20b0 : decide (x5_3 < ((rd_L1 l0_0 x4_1).length : Int)) = true:=decide_eq_true c20
              clear c20
              by_cases c21 : 0 ≤ x5_3
              ·rw [if_pos c21] at H
               have c21b0 : decide (0 ≤ x5_3) = true:=decide_eq_true c21
               clear c21
               by_cases c22 : 0 ≤ (rd (rd_L1 l0_0 x4_1) x5_3)
               ·rw [if_pos c22] at H
                have c22b0 : decide (0 ≤ (rd (rd_L1 l0_0 x4_1) x5_3)) = true:=decide_eq_true c22
                clear c22
                by_cases c23 : (rd (rd_L1 l0_0 x4_1) x5_3) < (x3_3.length : Int)
                ·rw [if_pos c23] at H
                 have c23b0 : decide ((rd (rd_L1 l0_0 x4_1) x5_3) < (x3_3.length : Int)) = true:=decide_eq_true c23
                 clear c23
                 obtain ⟨bq24,hbq24⟩ : ∃ b_ : Bool,b_ = (rdOf false x3_3 (rd (rd_L1 l0_0 x4_1) x5_3)):=⟨_,rfl⟩
                 replace H : (if bq24 = true then (some false) else (spec_l03Deal.l1 k3 (x3_3.set ((rd (rd_L1 l0_0 x4_1) x5_3) : Int).toNat true) x4_1 (wrap64 (x5_3 + 1)) l0_0)) = some r:=by rw [← hbq24] at H;exact H
                 have Nbq24:=aK hbq24
                 clear hbq24
                 by_cases c25 : bq24 = true
                 ·subst c25
                  have H1 : (some false) = some r:=by rw [if_pos rfl] at H;exact H
                  clear H
                  have H:=H1
                  clear H1
                  obtain rfl:=Option.some.inj H
                  have hcz26_0 : wr.cell? ⟨gb158,0,none⟩ = some (.slice A0_0 l0_0.length c0_0):=(bC BK158.out 0).trans rfl
                  have hfz26_0:=blk_frozen BK158.out 0
                  have p166 : 0 ≤ (x4_1 : Int):=of_decide_eq_true (by first|(with_reducible assumption)|assumption)
                  have q166 : x4_1 < (l0_0.length : Int):=of_decide_eq_true (by first|(with_reducible assumption)|assumption)
                  obtain ⟨ad166,A166_0,c166_0,e166,hx166_0,hl166_0,hi166_0⟩:=at_L1 HR0_0.out x4_1 p166 q166
                  cases e166
                  replace hx166_0:=(HB.out.cell (World.block_lt_of_cell? w _ hx166_0)).trans hx166_0
                  have HR166_0:=aK hi166_0
                  have HC166_0:=aK hl166_0
                  clear hi166_0 hl166_0
                  replace p166:=eq_true p166
                  replace q166:=eq_true q166
                  have p167 : 0 ≤ (x4_1 : Int):=of_decide_eq_true (by first|(with_reducible assumption)|assumption)
                  have q167 : x4_1 < (l0_0.length : Int):=of_decide_eq_true (by first|(with_reducible assumption)|assumption)
                  obtain ⟨ad167,A167_0,c167_0,e167,hx167_0,hl167_0,hi167_0⟩:=at_L1 HR0_0.out x4_1 p167 q167
                  obtain rfl : ad166 = ad167:=(by injection e167)
                  replace hx167_0:=(HB.out.cell (World.block_lt_of_cell? w _ hx167_0)).trans hx167_0
                  have HR167_0:=aK hi167_0
                  have HC167_0:=aK hl167_0
                  clear hi167_0 hl167_0
                  replace p167:=eq_true p167
                  replace q167:=eq_true q167
                  have ea_:=Option.some.inj (hx166_0.symm.trans hx167_0)
                  injection ea_ with ea_ en_ ec_
                  subst ea_
                  subst ec_
                  clear en_
                  have p168 : 0 ≤ (x5_3 : Int):=of_decide_eq_true (by first|(with_reducible assumption)|assumption)
                  have q168 : x5_3 < ((rd_L1 l0_0 x4_1).length : Int):=of_decide_eq_true (by first|(with_reducible assumption)|assumption)
                  obtain ⟨ad168,e168,hx168_0⟩:=Kd.at_int HR167_0.out x5_3 p168 q168
                  cases e168
                  replace hx168_0:=(HB.out.cell (World.block_lt_of_cell? w _ hx168_0)).trans hx168_0
                  replace p168:=eq_true p168
                  replace q168:=eq_true q168
                  obtain ⟨Ao27,co27,eo27⟩:=Kd.R_slice HO_3.out
                  subst eo27
                  have p169 : 0 ≤ ((rd (rd_L1 l0_0 x4_1) x5_3) : Int):=of_decide_eq_true (by first|(with_reducible assumption)|assumption)
                  have q169 : (rd (rd_L1 l0_0 x4_1) x5_3) < (x3_3.length : Int):=of_decide_eq_true (by first|(with_reducible assumption)|assumption)
                  obtain ⟨ad169,e169,hx169_0⟩:=Kd.at_bool (Kd.R_reads' HO_3.out).2.2 (rd (rd_L1 l0_0 x4_1) x5_3) p169 q169
                  (try rw [← Nbq24.out] at hx169_0)
                  cases e169
                  replace p169:=eq_true p169
                  replace q169:=eq_true q169
                  go_wp2
                  repeat (go_quiet (fail);try go_wp2)
                  go_ret
                  exact ⟨by first|rfl|(simp [errW_none,errW_some] <;> rfl)|(simp [*,errW_none,errW_some] <;> rfl),bW HB.out⟩
                 ·replace c25:=Bool.eq_false_iff.mpr c25
                  subst c25
                  have H1 : (spec_l03Deal.l1 k3 (x3_3.set ((rd (rd_L1 l0_0 x4_1) x5_3) : Int).toNat true) x4_1 (wrap64 (x5_3 + 1)) l0_0) = some r:=by rw [if_neg (show ¬ (false = true) by decide)] at H;exact H
                  clear H
                  have H:=H1
                  clear H1
                  obtain ⟨y170,hy170⟩ : ∃ y_ : List Bool,y_ = (x3_3.set ((rd (rd_L1 l0_0 x4_1) x5_3) : Int).toNat true):=⟨_,rfl⟩
                  replace H : (spec_l03Deal.l1 k3 y170 x4_1 (wrap64 (x5_3 + 1)) l0_0) = some r:=by first|(rw [hy170];with_reducible exact H)|(have H2_:=(Option.bind_some _ _).symm.trans H;rw [hy170];with_reducible exact H2_)|(have H2_:=(Option.bind_some _ _).symm.trans H;with_reducible exact H2_)|with_reducible exact H|(rw [hy170];exact H)|exact H
                  have Ny170:=aK hy170
                  clear hy170
                  have H':=aK H
                  clear H
                  have hcz29_0 : wr.cell? ⟨gb158,0,none⟩ = some (.slice A0_0 l0_0.length c0_0):=(bC BK158.out 0).trans rfl
                  have hfz29_0:=blk_frozen BK158.out 0
                  have p166 : 0 ≤ (x4_1 : Int):=of_decide_eq_true (by first|(with_reducible assumption)|assumption)
                  have q166 : x4_1 < (l0_0.length : Int):=of_decide_eq_true (by first|(with_reducible assumption)|assumption)
                  obtain ⟨ad166,A166_0,c166_0,e166,hx166_0,hl166_0,hi166_0⟩:=at_L1 HR0_0.out x4_1 p166 q166
                  cases e166
                  replace hx166_0:=(HB.out.cell (World.block_lt_of_cell? w _ hx166_0)).trans hx166_0
                  have HR166_0:=aK hi166_0
                  have HC166_0:=aK hl166_0
                  clear hi166_0 hl166_0
                  replace p166:=eq_true p166
                  replace q166:=eq_true q166
                  have p167 : 0 ≤ (x4_1 : Int):=of_decide_eq_true (by first|(with_reducible assumption)|assumption)
                  have q167 : x4_1 < (l0_0.length : Int):=of_decide_eq_true (by first|(with_reducible assumption)|assumption)
                  obtain ⟨ad167,A167_0,c167_0,e167,hx167_0,hl167_0,hi167_0⟩:=at_L1 HR0_0.out x4_1 p167 q167
                  obtain rfl : ad166 = ad167:=(by injection e167)
                  replace hx167_0:=(HB.out.cell (World.block_lt_of_cell? w _ hx167_0)).trans hx167_0
                  have HR167_0:=aK hi167_0
                  have HC167_0:=aK hl167_0
                  clear hi167_0 hl167_0
                  replace p167:=eq_true p167
                  replace q167:=eq_true q167
                  have ea_:=Option.some.inj (hx166_0.symm.trans hx167_0)
                  injection ea_ with ea_ en_ ec_
                  subst ea_
                  subst ec_
                  clear en_
                  have p168 : 0 ≤ (x5_3 : Int):=of_decide_eq_true (by first|(with_reducible assumption)|assumption)
                  have q168 : x5_3 < ((rd_L1 l0_0 x4_1).length : Int):=of_decide_eq_true (by first|(with_reducible assumption)|assumption)
                  obtain ⟨ad168,e168,hx168_0⟩:=Kd.at_int HR167_0.out x5_3 p168 q168
                  cases e168
                  replace hx168_0:=(HB.out.cell (World.block_lt_of_cell? w _ hx168_0)).trans hx168_0
                  replace p168:=eq_true p168
                  replace q168:=eq_true q168
                  obtain ⟨Ao30,co30,eo30⟩:=Kd.R_slice HO_3.out
                  subst eo30
                  have p169 : 0 ≤ ((rd (rd_L1 l0_0 x4_1) x5_3) : Int):=of_decide_eq_true (by first|(with_reducible assumption)|assumption)
                  have q169 : (rd (rd_L1 l0_0 x4_1) x5_3) < (x3_3.length : Int):=of_decide_eq_true (by first|(with_reducible assumption)|assumption)
                  obtain ⟨ad169,e169,hx169_0⟩:=Kd.at_bool (Kd.R_reads' HO_3.out).2.2 (rd (rd_L1 l0_0 x4_1) x5_3) p169 q169
                  (try rw [← Nbq24.out] at hx169_0)
                  cases e169
                  replace p169:=eq_true p169
                  replace q169:=eq_true q169
                  have p28 : 0 ≤ ((rd (rd_L1 l0_0 x4_1) x5_3) : Int):=of_decide_eq_true (by first|(with_reducible assumption)|assumption)
                  have q28 : ((rd (rd_L1 l0_0 x4_1) x5_3) : Int) < ((x3_3.length : Int) : Int):=of_decide_eq_true (by first|(with_reducible assumption)|assumption)
                  obtain ⟨go28,co28,eo28,gb28,gl28,cl28,HG28⟩:=Kd.R_form HO_3.out (by omega)
                  (first|cases eo28|(injection eo28 with ea_ en_ ec_;(first|subst ea_|(injection ea_ with ea_;subst ea_));subst ec_;clear en_))
                  have GB28:=aK gb28
                  have GG28:=aK HG28
                  clear gb28 gl28 HG28
                  (first|simp only [add_plain] at hx169_0|skip)
                  obtain ⟨hx28_0,hf28_0⟩:=Kd.R_celln false HO_3.out ((rd (rd_L1 l0_0 x4_1) x5_3) : Int) p28 q28
                  replace p28:=eq_true p28
                  replace q28:=eq_true q28
                  have HP31:=Kd.R_putg HO_3.out ((rd (rd_L1 l0_0 x4_1) x5_3) : Int) true
                  go_wp2_with (first|((with_reducible refine gate_store (t:=4) (p:=61) rfl ?_);(try (rw [drewN_self wr];generalize hq_ : World.drewN wr _ = wr;have n0_:=aK (Kd.R_at hq_ HO_3.out);have n1_:=aK (blk_at hq_ BK158.out);have n2_:=aK (below_at hq_ HB.out);clear hq_ HO_3 BK158 HB;have HO_3:=n0_;have BK158:=n1_;have HB:=n2_;clear n0_ n1_ n2_;(try (have HP31:=Kd.R_putg HO_3.out ((rd (rd_L1 l0_0 x4_1) x5_3) : Int) true))));refine store_event (t:=4) (p:=61) (v:=?vo_w32) (w1:=(wr.setCell ⟨go28,((rd (rd_L1 l0_0 x4_1) x5_3) : Int).toNat,none⟩ (.bool true))) ?hg ?ho ?hn ?hr ?_;(case ho=>rfl);(case hg=>rfl);(case hn=>rfl);(case hr=>first|(go_simp;done)|(go_simp;rfl));intro w32 hw;have hg : wr.grownBy w32 (some go28):=(by rw [hw];exact HP31.2);have hp_ : Kd.R Kd.bool 4 w32 w.heap.size (fun _=>True) (.slice (some ⟨go28,0,none⟩) x3_3.length co30) y170:=(by rw [hw,Ny170.out];exact HP31.1);clear HP31;have n0_:=aK (hp_);have n1_:=aK (blk_grown (g:=gb158) (o:=.cells #[.slice (some ad166) l0_0.length c0_0] 44 (0,0)) (bX BK158.out) hg (Kd.R_ne HO_3.out BK158.out (by decide)));have n2_:=aK ((by rw [hw];exact bS (HB.out) GB28.out : Below w.heap.size w w32));clear HO_3;clear BK158;clear HB;have HO_3:=n0_;have BK158:=n1_;have HB:=n2_;clear n0_ n1_ n2_;clear hg hw hp_))
                  repeat (go_quiet (first|((with_reducible refine gate_store (t:=4) (p:=61) rfl ?_);(try (rw [drewN_self wr];generalize hq_ : World.drewN wr _ = wr;have n0_:=aK (Kd.R_at hq_ HO_3.out);have n1_:=aK (blk_at hq_ BK158.out);have n2_:=aK (below_at hq_ HB.out);clear hq_ HO_3 BK158 HB;have HO_3:=n0_;have BK158:=n1_;have HB:=n2_;clear n0_ n1_ n2_;(try (have HP31:=Kd.R_putg HO_3.out ((rd (rd_L1 l0_0 x4_1) x5_3) : Int) true))));refine store_event (t:=4) (p:=61) (v:=?vo_w32) (w1:=(wr.setCell ⟨go28,((rd (rd_L1 l0_0 x4_1) x5_3) : Int).toNat,none⟩ (.bool true))) ?hg ?ho ?hn ?hr ?_;(case ho=>rfl);(case hg=>rfl);(case hn=>rfl);(case hr=>first|(go_simp;done)|(go_simp;rfl));intro w32 hw;have hg : wr.grownBy w32 (some go28):=(by rw [hw];exact HP31.2);have hp_ : Kd.R Kd.bool 4 w32 w.heap.size (fun _=>True) (.slice (some ⟨go28,0,none⟩) x3_3.length co30) y170:=(by rw [hw,Ny170.out];exact HP31.1);clear HP31;have n0_:=aK (hp_);have n1_:=aK (blk_grown (g:=gb158) (o:=.cells #[.slice (some ad166) l0_0.length c0_0] 44 (0,0)) (bX BK158.out) hg (Kd.R_ne HO_3.out BK158.out (by decide)));have n2_:=aK ((by rw [hw];exact bS (HB.out) GB28.out : Below w.heap.size w w32));clear HO_3;clear BK158;clear HB;have HO_3:=n0_;have BK158:=n1_;have HB:=n2_;clear n0_ n1_ n2_;clear hg hw hp_));try go_wp2_with (first|((with_reducible refine gate_store (t:=4) (p:=61) rfl ?_);(try (rw [drewN_self wr];generalize hq_ : World.drewN wr _ = wr;have n0_:=aK (Kd.R_at hq_ HO_3.out);have n1_:=aK (blk_at hq_ BK158.out);have n2_:=aK (below_at hq_ HB.out);clear hq_ HO_3 BK158 HB;have HO_3:=n0_;have BK158:=n1_;have HB:=n2_;clear n0_ n1_ n2_;(try (have HP31:=Kd.R_putg HO_3.out ((rd (rd_L1 l0_0 x4_1) x5_3) : Int) true))));refine store_event (t:=4) (p:=61) (v:=?vo_w32) (w1:=(wr.setCell ⟨go28,((rd (rd_L1 l0_0 x4_1) x5_3) : Int).toNat,none⟩ (.bool true))) ?hg ?ho ?hn ?hr ?_;(case ho=>rfl);(case hg=>rfl);(case hn=>rfl);(case hr=>first|(go_simp;done)|(go_simp;rfl));intro w32 hw;have hg : wr.grownBy w32 (some go28):=(by rw [hw];exact HP31.2);have hp_ : Kd.R Kd.bool 4 w32 w.heap.size (fun _=>True) (.slice (some ⟨go28,0,none⟩) x3_3.length co30) y170:=(by rw [hw,Ny170.out];exact HP31.1);clear HP31;have n0_:=aK (hp_);have n1_:=aK (blk_grown (g:=gb158) (o:=.cells #[.slice (some ad166) l0_0.length c0_0] 44 (0,0)) (bX BK158.out) hg (Kd.R_ne HO_3.out BK158.out (by decide)));have n2_:=aK ((by rw [hw];exact bS (HB.out) GB28.out : Below w.heap.size w w32));clear HO_3;clear BK158;clear HB;have HO_3:=n0_;have BK158:=n1_;have HB:=n2_;clear n0_ n1_ n2_;clear hg hw hp_)))
                  go_roundg k3
                  case measure=>have:=HK1.out;have:=HJ8.out;have:=HK3.out;omega
                  case rel=>exact ⟨(y170),(wrap64 (x5_3 + 1)),(by first|rfl|(simp;done)|(simp [*];done)),H',⟨by have:=HK1.out;have:=HJ8.out;have:=HK3.out;omega⟩,⟨by (with_reducible repeat first|apply Kd.R_alloc|apply Kd.R_drewN|apply Kd.R_drew);exact HO_3.out⟩,⟨by (with_reducible repeat first|apply bN|apply bD|apply bA);exact BK158.out⟩,⟨bW HB.out⟩⟩
                ·rw [if_neg c23] at H
                 exact absurd H (by simp)
               ·rw [if_neg c22] at H
                exact absurd H (by simp)
              ·rw [if_neg c21] at H
               exact absurd H (by simp)
             ·rw [if_neg c20] at H
              have c20b0 : decide (x5_3 < ((rd_L1 l0_0 x4_1).length : Int)) = false:=decide_eq_false c20
              clear c20
              have H':=aK H
              clear H
              have hcz33_0 : wr.cell? ⟨gb158,0,none⟩ = some (.slice A0_0 l0_0.length c0_0):=(bC BK158.out 0).trans rfl
              have hfz33_0:=blk_frozen BK158.out 0
              have p166 : 0 ≤ (x4_1 : Int):=of_decide_eq_true (by first|(with_reducible assumption)|assumption)
              have q166 : x4_1 < (l0_0.length : Int):=of_decide_eq_true (by first|(with_reducible assumption)|assumption)
              obtain ⟨ad166,A166_0,c166_0,e166,hx166_0,hl166_0,hi166_0⟩:=at_L1 HR0_0.out x4_1 p166 q166
              cases e166
              replace hx166_0:=(HB.out.cell (World.block_lt_of_cell? w _ hx166_0)).trans hx166_0
              have HR166_0:=aK hi166_0
              have HC166_0:=aK hl166_0
              clear hi166_0 hl166_0
              replace p166:=eq_true p166
              replace q166:=eq_true q166
              go_wp2
              repeat (go_quiet (fail);try go_wp2)
              go_roundg k3
              case measure=>have:=HK1.out;have:=HJ8.out;have:=HK3.out;omega
              case rel=>exact ⟨(x3_3),(wrap64 (x4_1 + 1)),(by first|rfl|(simp;done)|(simp [*];done)),H',⟨by have:=HK1.out;have:=HJ8.out;have:=HK3.out;omega⟩,⟨by (with_reducible repeat first|apply Kd.R_alloc|apply Kd.R_drewN|apply Kd.R_drew);exact HO_3.out⟩,⟨by (with_reducible repeat first|apply bN|apply bD|apply bA);exact BK158.out⟩,⟨bW HB.out⟩⟩
            ·rw [if_neg c19] at H
             exact absurd H (by simp)
           ·rw [if_neg c18] at H
            exact absurd H (by simp)
     ·rw [if_neg c8] at H
      have c8b0 : decide (x4_1 < 4) = false:=decide_eq_false c8
      clear c8
      obtain rfl:=Option.some.inj H
      go_wp2
      repeat (go_quiet (fail);try go_wp2)
      go_ret
      exact ⟨by first|rfl|(simp [errW_none,errW_some] <;> rfl)|(simp [*,errW_none,errW_some] <;> rfl),bW HB.out⟩
  ·rw [if_neg c3] at H
   exact absurd H (by simp)
 ·rw [if_neg c2] at H
  have c2b0 : ((l0_0.length : Int) == 4) = false:=beq_eq_false_iff_ne.mpr c2
  have c2b1 : ((l0_0.length : Int) != 4) = true:=bne_iff_ne.mpr c2
  obtain rfl:=Option.some.inj H
  go_enter Try.func142,Try.ntmps142
  go_wp2_with (first|((with_reducible refine gate_dst (N:=1) rfl ?_);(try (refine gate_guard (by rfl) ?_;dsimp only));refine box_event ?hg (N:=1) ?hd (cs:=#[.slice A0_0 l0_0.length c0_0]) (t:=44) ?hr ?_;(case hd=>rfl);(case hg=>rfl);(case hr=>first|(go_simp;done)|(go_simp;rfl));intro gb158 hg w34 hbox hb;have n0_:=aK (below_step (bW HB.out) hb);have n1_:=aK (hbox);have n2_:=aK ((by rw [hg];exact (below_size (bW HB.out)) : w.heap.size ≤ gb158));have n3_:=aK ((by rw [hg];exact (below_size (bW HB.out)) : w.heap.size ≤ gb158));clear HB;have HB:=n0_;have BK158:=n1_;have GW158:=n2_;have GE158:=n3_;clear n0_ n1_ n2_ n3_;clear hb hbox hg;have hcz35_0 : w34.cell? ⟨gb158,0,none⟩ = some (.slice A0_0 l0_0.length c0_0):=(bC BK158.out 0).trans rfl;have hfz35_0:=blk_frozen BK158.out 0))
  repeat (go_quiet (first|((with_reducible refine gate_dst (N:=1) rfl ?_);(try (refine gate_guard (by rfl) ?_;dsimp only));refine box_event ?hg (N:=1) ?hd (cs:=#[.slice A0_0 l0_0.length c0_0]) (t:=44) ?hr ?_;(case hd=>rfl);(case hg=>rfl);(case hr=>first|(go_simp;done)|(go_simp;rfl));intro gb158 hg w34 hbox hb;have n0_:=aK (below_step (bW HB.out) hb);have n1_:=aK (hbox);have n2_:=aK ((by rw [hg];exact (below_size (bW HB.out)) : w.heap.size ≤ gb158));have n3_:=aK ((by rw [hg];exact (below_size (bW HB.out)) : w.heap.size ≤ gb158));clear HB;have HB:=n0_;have BK158:=n1_;have GW158:=n2_;have GE158:=n3_;clear n0_ n1_ n2_ n3_;clear hb hbox hg;have hcz35_0 : w34.cell? ⟨gb158,0,none⟩ = some (.slice A0_0 l0_0.length c0_0):=(bC BK158.out 0).trans rfl;have hfz35_0:=blk_frozen BK158.out 0));try go_wp2_with (first|((with_reducible refine gate_dst (N:=1) rfl ?_);(try (refine gate_guard (by rfl) ?_;dsimp only));refine box_event ?hg (N:=1) ?hd (cs:=#[.slice A0_0 l0_0.length c0_0]) (t:=44) ?hr ?_;(case hd=>rfl);(case hg=>rfl);(case hr=>first|(go_simp;done)|(go_simp;rfl));intro gb158 hg w34 hbox hb;have n0_:=aK (below_step (bW HB.out) hb);have n1_:=aK (hbox);have n2_:=aK ((by rw [hg];exact (below_size (bW HB.out)) : w.heap.size ≤ gb158));have n3_:=aK ((by rw [hg];exact (below_size (bW HB.out)) : w.heap.size ≤ gb158));clear HB;have HB:=n0_;have BK158:=n1_;have GW158:=n2_;have GE158:=n3_;clear n0_ n1_ n2_ n3_;clear hb hbox hg;have hcz35_0 : w34.cell? ⟨gb158,0,none⟩ = some (.slice A0_0 l0_0.length c0_0):=(bC BK158.out 0).trans rfl;have hfz35_0:=blk_frozen BK158.out 0)))
  go_ret
  exact ⟨by first|rfl|(simp [errW_none,errW_some] <;> rfl)|(simp [*,errW_none,errW_some] <;> rfl),bW HB.out⟩

/-! ### spec_IsDeal: function 102 -/
def spec_IsDeal.f (k : Nat) (l0_0 : List (List Int)) : Option (Bool) := (spec_l03Deal.f k l0_0).bind fun t172 => (some t172)
theorem spec_IsDeal.mono : ∀ a0 k, LeO (spec_IsDeal.f k a0) (spec_IsDeal.f (k + 1) a0) := by
 intro a0 k
 unfold spec_IsDeal.f
 repeat' first
   | (with_reducible exact spec_l03Deal.mono _ _)
   | (with_reducible exact LeO.refl _)
   | (with_reducible exact LeO.none _)
   | (with_reducible refine LeO.ite ?_ ?_)
   | (with_reducible refine LeO.bind ?_ (fun _=>?_))
   | exact spec_l03Deal.mono _ _
   | exact LeO.none _
   | refine LeO.ite ?_ ?_
   | refine LeO.bind ?_ (fun _=>?_)
set_option maxHeartbeats 8000000 in
set_option maxRecDepth 100000 in
theorem spec_IsDeal.calls (k : Nat) (A0_0 : Option Addr) (c0_0 : Nat) (l0_0 : List (List Int)) (r : Bool) (w : World) (hr0_0 : Kd.C (Kd.slice 2 (Kd.int .i64)) w A0_0 l0_0.length l0_0) (hc0_0 : l0_0.length ≤ c0_0) (h : spec_IsDeal.f k l0_0 = some r) :
  Calls Try.prog 102 #[.agg #[.slice A0_0 l0_0.length c0_0]] w fun e w'=>e = .returned (.bool r) ∧ Below w.heap.size w w':=by
 have hu44:=Try.underlying44
 have HR0_0:=aK hr0_0
 have HC0_0:=aK hc0_0
 clear hr0_0 hc0_0
 have HB:=aK (Below.refl w.heap.size w)
 have H : ((spec_l03Deal.f k l0_0).bind fun t172=>(some t172)) = some r:=h
 clear h
 replace H:=Option.bind_eq_some_iff.mp H
 obtain ⟨t172,A20,H⟩:=H
 replace H : (some t172) = some r:=H
 have A2:=aK A20
 clear A20
 obtain rfl:=Option.some.inj H
 go_enter Try.func102,Try.ntmps102
 go_wp2_with (first|((with_reducible refine gate_dst (N:=1) rfl ?_);refine box_event ?hg (N:=1) ?hd (cs:=#[.slice A0_0 l0_0.length c0_0]) (t:=44) ?hr ?_;(case hd=>rfl);(case hg=>rfl);(case hr=>first|(go_simp;done)|(go_simp;rfl));intro gb171 hg w3 hbox hb;have n0_:=aK (below_step (bW HB.out) hb);have n1_:=aK (hbox);have n2_:=aK ((by rw [hg];exact (below_size (bW HB.out)) : w.heap.size ≤ gb171));have n3_:=aK ((by rw [hg];exact (below_size (bW HB.out)) : w.heap.size ≤ gb171));clear HB;have HB:=n0_;have BK171:=n1_;have GW171:=n2_;have GE171:=n3_;clear n0_ n1_ n2_ n3_;clear hb hbox hg;have hcz4_0 : w3.cell? ⟨gb171,0,none⟩ = some (.slice A0_0 l0_0.length c0_0):=(bC BK171.out 0).trans rfl;have hfz4_0:=blk_frozen BK171.out 0)|((with_reducible refine gate_callee (f:=142) rfl ?_);refine goesL_ (some 4) rfl rfl Try.func142 (by kernel_rfl) rfl #[.agg #[.slice A0_0 l0_0.length c0_0]] rfl (by (try simp only [mA,mC,mN]);first|done|rfl) ?_;(with_reducible refine (spec_l03Deal.calls k _ _ l0_0 t172 _ ?side1 ?side2 A2.out).mono ?_);(case side1=>repeat (first|exact (Kd.C_below HR0_0.out HB.out)|(with_reducible refine Kd.C_alloc ?_ _)|(with_reducible refine Kd.C_drewN ?_ _)|(with_reducible refine Kd.C_drew ?_)));(case side2=>exact HC0_0.out);rintro e w5 ⟨rfl,hb⟩;refine ⟨_,rfl,?_⟩;have n0_:=aK (bB (bX BK171.out) hb);have n1_:=aK (below_step (bW HB.out) hb);clear BK171;clear HB;have BK171:=n0_;have HB:=n1_;clear n0_ n1_;(try clear hb);(try clear hb2);(try clear hk);(try clear hi)))
 go_ret
 exact ⟨by first|rfl|(simp [errW_none,errW_some] <;> rfl)|(simp [*,errW_none,errW_some] <;> rfl),bW HB.out⟩

/-! ### spec_l08Begin: function 104 -/
def spec_l08Begin.f (a0_0 : Int) (a0_1 : Int) (l0_2 : List Int) (a1 : Int) : Option (Int × Int × List Int) := (some (([] : List Int) : List Int)).bind fun y175 => (if 0 ≤ a1 then (if a1 ≤ (l0_2.length : Int) then (if y175.length + (l0_2.take (a1 : Int).toNat).length < 17592186044416 then (some (a0_0, a0_1, (y175 ++ (l0_2.take (a1 : Int).toNat)))) else (none)) else (none)) else (none))
def spec_l08Begin.T1 : Bool × List (List Nat × List Nat) := (true, [([], []), ([0], [0]), ([], []), ([2], [2]), ([], []), ([], []), ([5], [5]), ([], []), ([6, 7], [6, 7]), ([4, 8], [4, 8]), ([1, 3, 9], [1, 3, 9]), ([10, 9, 0, 1, 2, 3, 4, 5, 6, 7, 8, 9, 10], [10])])
def spec_l08Begin.B1 : List Nat := [0, 1, 0, 4, 0, 0, 32, 0, 224, 496, 1023, 2047]
theorem spec_l08Begin.tab1 : rtab .any (opsOf Try.f104 1) = spec_l08Begin.T1 := by kernel_rfl
theorem spec_l08Begin.bits1 : waitsOk spec_l08Begin.T1.2 spec_l08Begin.B1 = true := by kernel_rfl
set_option maxHeartbeats 8000000 in
set_option maxRecDepth 100000 in
theorem spec_l08Begin.calls (a0_0 : Int) (a0_1 : Int) (A0_2 : Option Addr) (c0_2 : Nat) (l0_2 : List Int) (a1 : Int) (r1 : Int) (r2 : Int) (r3 : List Int) (w : World) (hr0_2 : Kd.C (Kd.int .i64) w A0_2 l0_2.length l0_2) (hc0_2 : l0_2.length ≤ c0_2) (h : spec_l08Begin.f a0_0 a0_1 l0_2 a1 = some (r1, r2, r3)) :
  Calls Try.prog 104 #[.agg #[.int .i64 a0_0,.int .i64 a0_1,.slice A0_2 l0_2.length c0_2],.int .i64 a1] w fun e w'=>∃ v2_ : Value,e = .returned (.agg #[.int .i64 r1,.int .i64 r2,v2_]) ∧ Kd.R (Kd.int .i64) 2 w' w.heap.size (fun _=>True) v2_ r3 ∧ Below w.heap.size w w':=by
 have hu27:=Try.underlying27
 have HR0_2:=aK hr0_2
 have HC0_2:=aK hc0_2
 clear hr0_2 hc0_2
 have HB:=aK (Below.refl w.heap.size w)
 have H : ((some (([] : List Int) : List Int)).bind fun y175=>(if 0 ≤ a1 then (if a1 ≤ (l0_2.length : Int) then (if y175.length + (l0_2.take (a1 : Int).toNat).length < 17592186044416 then (some (a0_0,a0_1,(y175 ++ (l0_2.take (a1 : Int).toNat)))) else (none)) else (none)) else (none))) = some (r1,r2,r3):=h
 clear h
 obtain ⟨y175,hy175⟩ : ∃ y_ : List Int,y_ = (([] : List Int)):=⟨_,rfl⟩
 replace H : (if 0 ≤ a1 then (if a1 ≤ (l0_2.length : Int) then (if y175.length + (l0_2.take (a1 : Int).toNat).length < 17592186044416 then (some (a0_0,a0_1,(y175 ++ (l0_2.take (a1 : Int).toNat)))) else (none)) else (none)) else (none)) = some (r1,r2,r3):=by first|(rw [hy175];with_reducible exact H)|(have H2_:=(Option.bind_some _ _).symm.trans H;rw [hy175];with_reducible exact H2_)|(have H2_:=(Option.bind_some _ _).symm.trans H;with_reducible exact H2_)|with_reducible exact H|(rw [hy175];exact H)|exact H
 have Ny175:=aK hy175
 clear hy175
 by_cases c3 : 0 ≤ a1
 ·rw [if_pos c3] at H
  have c3b0:=eq_true c3
  have c3b1 : decide (0 ≤ a1) = true:=decide_eq_true c3
  clear c3
  by_cases c4 : a1 ≤ (l0_2.length : Int)
  ·rw [if_pos c4] at H
   have c4b0:=eq_true c4
   have c4b1 : decide (a1 ≤ (l0_2.length : Int)) = true:=decide_eq_true c4
   clear c4
   by_cases c5 : y175.length + (l0_2.take (a1 : Int).toNat).length < 17592186044416
   ·rw [if_pos c5] at H
    have LMc5:=aK c5
    clear c5
    obtain ⟨y179,hy179⟩ : ∃ y_ : List Int,y_ = (y175 ++ (l0_2.take (a1 : Int).toNat)):=⟨_,rfl⟩
    replace H : (some (a0_0,a0_1,y179)) = some (r1,r2,r3):=by first|(rw [hy179];with_reducible exact H)|(have H2_:=(Option.bind_some _ _).symm.trans H;rw [hy179];with_reducible exact H2_)|(have H2_:=(Option.bind_some _ _).symm.trans H;with_reducible exact H2_)|with_reducible exact H|(rw [hy179];exact H)|exact H
    have Ny179:=aK hy179
    clear hy179
    simp only [Option.some.injEq,Prod.mk.injEq] at H
    obtain ⟨rfl,rfl,rfl⟩:=H
    go_enter Try.func104,Try.ntmps104
    try go_wp2_with (first|((with_reducible refine gate_dst (N:=2) rfl ?_);refine box_event ?hg (N:=2) ?hd (cs:=#[.int .i64 a0_0,.int .i64 a0_1,.slice A0_2 l0_2.length c0_2]) (t:=27) ?hr ?_;(case hd=>rfl);(case hg=>rfl);(case hr=>first|(go_simp;done)|(go_simp;rfl));intro gb173 hg w6 hbox hb;have n0_:=aK (below_step (bW HB.out) hb);have n1_:=aK (hbox);have n2_:=aK ((by rw [hg];exact (below_size (bW HB.out)) : w.heap.size ≤ gb173));have n3_:=aK ((by rw [hg];exact (below_size (bW HB.out)) : w.heap.size ≤ gb173));clear HB;have HB:=n0_;have BK173:=n1_;have GW173:=n2_;have GE173:=n3_;clear n0_ n1_ n2_ n3_;clear hb hbox hg)|((with_reducible refine gate_dst (N:=4) rfl ?_);refine box_event ?hg (N:=4) ?hd (cs:=#[.int .i64 0,.int .i64 0,.slice none 0 0]) (t:=27) ?hr ?_;(case hd=>rfl);(case hg=>rfl);(case hr=>first|(go_simp;done)|(go_simp;rfl));intro gb174 hg w7 hbox hb;have n0_:=aK (bB (bX BK173.out) hb);have n1_:=aK (below_step (bW HB.out) hb);have n2_:=aK (hbox);have n3_:=aK ((by rw [hg];exact (below_size (bW HB.out)) : w.heap.size ≤ gb174));have n4_:=aK ((by rw [hg];exact (below_size (bW HB.out)) : w.heap.size ≤ gb174));have n5_:=aK ((by rw [hg];exact Nat.ne_of_lt (blk_lt (bX BK173.out)) : gb173 ≠ gb174));have n6_:=aK ((by rw [hg];exact Nat.ne_of_gt (blk_lt (bX BK173.out)) : gb174 ≠ gb173));clear BK173;clear HB;have BK173:=n0_;have HB:=n1_;have BK174:=n2_;have GW174:=n3_;have GE174:=n4_;have NB173_174:=n5_;have NB174_173:=n6_;clear n0_ n1_ n2_ n3_ n4_ n5_ n6_;clear hb hbox hg))
    have n0_:=aK (bD BK173.out)
    have n1_:=aK (bD BK174.out)
    have n2_:=aK (b1 HB.out)
    clear BK173
    clear BK174
    clear HB
    have BK173:=n0_
    have BK174:=n1_
    have HB:=n2_
    clear n0_ n1_ n2_
    obtain ⟨i09,hi09,_,hsz9,_⟩:=info_parts info2
    obtain ⟨hcut9,hA9,hC9⟩:=print_take_of (P:=Try.prog) (Value.int .i64) 0 22 2 .i64 Try.underlying22 hi09 hsz9 A0_2 c0_2 l0_2 a1 (of_decide_eq_true (by first|(with_reducible assumption)|assumption)) (of_decide_eq_true (by first|(with_reducible assumption)|assumption)) HC0_2.out
    have HR178:=aK (Kd.C_of_reads (h1:=fun _=>rfl) (hA9 _ (Kd.reads_of_C HR0_2.out)))
    have HC178:=aK hC9
    clear hA9 hC9 hi09 hsz9
    refine start_ (n:=12) (S:=fun w'=>w'.cell? ⟨gb173,0,none⟩ = some (.int .i64 a0_0) ∧ w'.cell? ⟨gb173,1,none⟩ = some (.int .i64 a0_1) ∧ w'.cell? ⟨gb173,2,none⟩ = some (.slice A0_2 l0_2.length c0_2)) (ds:=[]) #[false,false,false,false,false,false,false,false,false,false,false,false] (by kernel_rfl) rfl rfl ⟨(bC BK173.out 0).trans rfl,(bC BK173.out 1).trans rfl,(bC BK173.out 2).trans rfl⟩ (fun hHeld=>?_);refine with_tabW spec_l08Begin.tab1 spec_l08Begin.bits1 (fun HT_ HW_=>?_)
    generalize w7.drew = w8 at BK173 BK174 HB HR178 hHeld ⊢
    refine pure_ (i:=0) (N:=some 5) (v:=?_) (a':=?_) #[true,false,false,false,false,false,false,false,false,false,false,false] rfl rfl (any_of HT_.out (by kernel_rfl)) (fun _ _ _ h=>h) (Or.inl ⟨by rfl,?_⟩) ?_ ?_
    rotate_left
    ·intro w'
     go_simp
     with_reducible rfl
    rotate_left
    ·simp only [Act.put,lA,l0',lS,i64_w,i32_w]
     rfl
    refine pure_ (i:=2) (N:=some 7) (v:=?_) (a':=?_) #[true,false,true,false,false,false,false,false,false,false,false,false] rfl rfl (any_of HT_.out (by kernel_rfl)) (fun _ _ _ h=>h) (Or.inl ⟨by rfl,?_⟩) ?_ ?_
    rotate_left
    ·intro w'
     go_simp
     with_reducible rfl
    rotate_left
    ·simp only [Act.put,lA,l0',lS,i64_w,i32_w]
     rfl
    refine pure_ (i:=5) (N:=some 10) (v:=?_) (a':=?_) #[true,false,true,false,false,true,false,false,false,false,false,false] rfl rfl (any_of HT_.out (by kernel_rfl)) (fun _ _ _ h=>h) (Or.inl ⟨by rfl,?_⟩) ?_ ?_
    rotate_left
    ·intro w'
     go_simp
     with_reducible rfl
    rotate_left
    ·simp only [Act.put,lA,l0',lS,i64_w,i32_w]
     rfl
    refine pure_ (i:=7) (N:=some 12) (v:=?_) (a':=?_) #[true,false,true,false,false,true,false,true,false,false,false,false] rfl rfl (any_of HT_.out (by kernel_rfl)) (fun _ _ _ h=>h) (Or.inl ⟨by rfl,?_⟩) ?_ ?_
    rotate_left
    ·intro w'
     go_simp
     with_reducible rfl
    rotate_left
    ·simp only [Act.put,lA,l0',lS,i64_w,i32_w]
     rfl
    refine take_ (i:=1) (N:=some 6) (v:=?_) (a':=?_) #[true,true,true,false,false,true,false,true,false,false,false,false] rfl rfl (take_ofW HT_.out HW_.out (by kernel_rfl)) (fun _ _ _ h=>h) (Or.inl ⟨by rfl,?_⟩) hHeld ?_ ?_
    rotate_left
    ·rintro w' ⟨s0,s1,s2⟩
     go_simp
     with_reducible rfl
    rotate_left
    ·simp only [Act.put,lA,l0',lS,i64_w,i32_w]
     rfl
    refine take_ (i:=3) (N:=some 8) (v:=?_) (a':=?_) #[true,true,true,true,false,true,false,true,false,false,false,false] rfl rfl (take_ofW HT_.out HW_.out (by kernel_rfl)) (fun _ _ _ h=>h) (Or.inl ⟨by rfl,?_⟩) hHeld ?_ ?_
    rotate_left
    ·rintro w' ⟨s0,s1,s2⟩
     go_simp
     with_reducible rfl
    rotate_left
    ·simp only [Act.put,lA,l0',lS,i64_w,i32_w]
     rfl
    refine take_ (i:=6) (N:=some 11) (v:=?_) (a':=?_) #[true,true,true,true,false,true,true,true,false,false,false,false] rfl rfl (take_ofW HT_.out HW_.out (by kernel_rfl)) (fun _ _ _ h=>h) (Or.inl ⟨by rfl,?_⟩) hHeld ?_ ?_
    rotate_left
    ·rintro w' ⟨s0,s1,s2⟩
     go_simp
     with_reducible rfl
    rotate_left
    ·simp only [Act.put,lA,l0',lS,i64_w,i32_w]
     rfl
    refine pure_ (i:=8) (N:=some 13) (v:=?_) (a':=?_) #[true,true,true,true,false,true,true,true,true,false,false,false] rfl rfl (any_of HT_.out (by kernel_rfl)) (fun _ _ _ h=>h) (Or.inl ⟨by rfl,?_⟩) ?_ ?_
    rotate_left
    ·intro w'
     go_simp
     with_reducible rfl
    rotate_left
    ·simp only [Act.put,lA,l0',lS,i64_w,i32_w]
     rfl
    refine one_ (i:=4) (N:=some 9) #[true,true,true,true,true,true,true,true,true,false,false,false] rfl rfl (one_of HT_.out (by kernel_rfl)) (by decide) (fun K hK=>?_)
    refine Kd.R_lit_step (Kd.int .i64) _ 2 ?hg (N:=9) ?hd (xs:=([] : List Int)) (inner:=[]) (ok:=fun _=>True) (okp:=fun _=>True) ?hr ?hp (fun _ hk=>hk) trivial (Below.refl _ _) (Nat.le_refl _) (by simp) ?_;(case hd=>rfl);(case hg=>rfl);(case hr=>first|(go_simp;done)|(go_simp;rfl));(case hp=>exact (Reps.none _ _))
    intro v176 w10 ho11 hb hg_ hnew_
    clear hg_ hnew_
    (first|rw [← Ny175.out] at ho11|(simp only [Int.reduceToNat] at ho11;rw [← Ny175.out] at ho11))
    have n0_:=aK (Kd.R_lower ho11 (below_size (bW HB.out)))
    have n1_:=aK (bB (bX BK173.out) hb)
    have n2_:=aK (bB (bX BK174.out) hb)
    have n3_:=aK (below_step (bW HB.out) hb)
    clear BK173
    clear BK174
    clear HB
    have HO177:=n0_
    have BK173:=n1_
    have BK174:=n2_
    have HB:=n3_
    clear n0_ n1_ n2_ n3_
    clear hb ho11
    refine hK.out _ _ ⟨(bC BK173.out 0).trans rfl,(bC BK173.out 1).trans rfl,(bC BK173.out 2).trans rfl⟩ (fun hHeld=>?_)
    clear hK K
    refine norm_ (a':=?_) ?_ ?_
    rotate_left
    ·show Act.put _ (some 9) _ = _
     simp only [Act.put,lA,l0',lS,i64_w,i32_w]
     rfl
    refine one_ (i:=9) (N:=some 14) #[true,true,true,true,true,true,true,true,true,true,false,false] rfl rfl (one_of HT_.out (by kernel_rfl)) (by decide) (fun K hK=>?_)
    refine Kd.R_append_rows_step (Kd.int .i64) (w0:=w) w.heap.size (by rfl) (.tmp 9) (.tmp 13) 22 2 (.int .i64 0) 8 rfl Try.underlying22 info2 rfl (by decide) (by omega) v176 y175 (l0_2.take (a1 : Int).toNat) _ _ _ (fun _=>True) (fun _=>False) rfl rfl ?aO ?aR (fun _ _ h=>h) (fun _ h=>h.elim) ?aF ?aB ?aS ?aL ?_
    (case aR=>first|((conv=>arg 5;rw [← show (l0_2.take (a1 : Int).toNat).length = a1.toNat from (by rw [List.length_take];have h_ : (a1 : Int) ≤ (l0_2.length : Int):=of_decide_eq_true (by first|(with_reducible assumption)|assumption);omega)]);repeat (first|exact (Kd.C_below HR178.out HB.out)|(with_reducible refine Kd.C_alloc ?_ _)|(with_reducible refine Kd.C_drewN ?_ _)|(with_reducible refine Kd.C_drew ?_));done)|(rw [← show (l0_2.take (a1 : Int).toNat).length = a1.toNat from (by rw [List.length_take];have h_ : (a1 : Int) ≤ (l0_2.length : Int):=of_decide_eq_true (by first|(with_reducible assumption)|assumption);omega)];repeat (first|exact (Kd.C_below HR178.out HB.out)|(with_reducible refine Kd.C_alloc ?_ _)|(with_reducible refine Kd.C_drewN ?_ _)|(with_reducible refine Kd.C_drew ?_));done)|(repeat (first|exact (Kd.C_below HR178.out HB.out)|(with_reducible refine Kd.C_alloc ?_ _)|(with_reducible refine Kd.C_drewN ?_ _)|(with_reducible refine Kd.C_drew ?_))))
    (case aB=>exact (bW HB.out))
    (case aF=>exact (fun _ _=>trivial))
    (case aO=>exact (rX HO177.out))
    (case aS=>exact (below_size (bW HB.out)))
    (case aL=>have:=LMc5.out;have hlx_:=(show (l0_2.take (a1 : Int).toNat).length = a1.toNat from (by rw [List.length_take];have h_ : (a1 : Int) ≤ (l0_2.length : Int):=of_decide_eq_true (by first|(with_reducible assumption)|assumption);omega));omega)
    intro v180 w12 ho hb hg hat
    rw [← Ny179.out] at ho
    have n0_:=aK (blk_grown (g:=gb173) (o:=.cells #[.int .i64 a0_0,.int .i64 a0_1,.slice A0_2 l0_2.length c0_2] 27 (0,0)) (bX BK173.out) hg (Kd.R_ne HO177.out BK173.out (by decide)))
    have n1_:=aK (blk_grown (g:=gb174) (o:=.cells #[.int .i64 0,.int .i64 0,.slice none 0 0] 27 (0,0)) (bX BK174.out) hg (Kd.R_ne HO177.out BK174.out (by decide)))
    have n2_:=aK (hb)
    have n3_:=aK (ho)
    clear BK173
    clear BK174
    clear HB
    clear HO177
    have BK173:=n0_
    have BK174:=n1_
    have HB:=n2_
    have HO181:=n3_
    clear n0_ n1_ n2_ n3_
    clear ho hb hg hat
    obtain ⟨Ao13,co13,eo13⟩:=Kd.R_slice HO181.out
    (first|subst eo13|(injection eo13 with f1_ f2_ f3_;have f4_:=f1_.symm;have f5_:=f3_.symm;clear f1_ f2_ f3_;subst f4_;subst f5_))
    refine hK.out _ _ ⟨(bC BK173.out 0).trans rfl,(bC BK173.out 1).trans rfl,(bC BK173.out 2).trans rfl⟩ (fun hHeld=>?_)
    clear hK K
    refine norm_ (a':=?_) ?_ ?_
    rotate_left
    ·show Act.put _ (some 14) _ = _
     simp only [Act.put,lA,l0',lS,i64_w,i32_w]
     rfl
    refine pure_ (i:=10) (N:=some 15) (v:=?_) (a':=?_) #[true,true,true,true,true,true,true,true,true,true,true,false] rfl rfl (any_of HT_.out (by kernel_rfl)) (fun _ _ _ h=>h) (Or.inl ⟨by rfl,?_⟩) ?_ ?_
    rotate_left
    ·intro w'
     go_simp
     with_reducible rfl
    rotate_left
    ·simp only [Act.put,lA,l0',lS,i64_w,i32_w]
     rfl
    refine one_ (i:=11) (N:=none) #[true,true,true,true,true,true,true,true,true,true,true,true] rfl rfl (one_of HT_.out (by kernel_rfl)) (by decide) (fun K hK=>?_)
    have hs14 : w12.cell? ⟨gb174,0,none⟩ = some (.int .i64 0):=(bC BK174.out 0).trans rfl
    have hfs14:=blk_frozen BK174.out 0
    have hns14_0:=NB173_174.out
    have hms14_0:=NB174_173.out
    have hs15 : w12.cell? ⟨gb174,1,none⟩ = some (.int .i64 0):=(bC BK174.out 1).trans rfl
    have hfs15:=blk_frozen BK174.out 1
    have hns15_0:=NB173_174.out
    have hms15_0:=NB174_173.out
    have hs16 : w12.cell? ⟨gb174,2,none⟩ = some (.slice none 0 0):=(bC BK174.out 2).trans rfl
    have hfs16:=blk_frozen BK174.out 2
    have hns16_0:=NB173_174.out
    have hms16_0:=NB174_173.out
    refine skip_ (w1:=?_) (by rfl) rfl ?_ ?_
    rotate_left
    ·go_simp
     rfl
    refine hK.out _ _ ⟨((cell_far (p:=⟨gb174,_,none⟩) NB173_174.out _).trans (((cell_far (p:=⟨gb174,_,none⟩) NB173_174.out _).trans (((cell_far (p:=⟨gb174,_,none⟩) NB173_174.out _).trans (hHeld.1)))))),((cell_far (p:=⟨gb174,_,none⟩) NB173_174.out _).trans (((cell_far (p:=⟨gb174,_,none⟩) NB173_174.out _).trans (((cell_far (p:=⟨gb174,_,none⟩) NB173_174.out _).trans (hHeld.2.1)))))),((cell_far (p:=⟨gb174,_,none⟩) NB173_174.out _).trans (((cell_far (p:=⟨gb174,_,none⟩) NB173_174.out _).trans (((cell_far (p:=⟨gb174,_,none⟩) NB173_174.out _).trans (hHeld.2.2))))))⟩ (fun hHeld=>?_)
    clear hK K
    refine done_ (done_of HT_.out (by kernel_rfl)) ?_
    try go_wp2
    refine bodyPost_ret (results_cell_row rfl _ _ gb174 27 #[.int .i64 a0_0,.int .i64 a0_1,.slice Ao13 y179.length co13] (0,0) _ rfl (by (with_reducible repeat first|apply bN|apply bD|apply bA);refine blk_put (cs:=#[.int .i64 a0_0,.int .i64 a0_1,.slice none 0 0]) ?_ 2 _ rfl;(with_reducible repeat first|apply bN|apply bD|apply bA);refine blk_put (cs:=#[.int .i64 a0_0,.int .i64 0,.slice none 0 0]) ?_ 1 _ rfl;(with_reducible repeat first|apply bN|apply bD|apply bA);refine blk_put (cs:=#[.int .i64 0,.int .i64 0,.slice none 0 0]) ?_ 0 _ rfl;(with_reducible repeat first|apply bN|apply bD|apply bA);exact BK174.out) Try.underlying27 rfl (by kernel_rfl)) rfl ?_
    exact ⟨_,by first|rfl|(simp [errW_none,errW_some] <;> rfl)|(simp [*,errW_none,errW_some] <;> rfl),by (with_reducible repeat first|apply Kd.R_alloc|apply Kd.R_drewN|apply Kd.R_drew);exact Kd.R_mono (Kd.R_far (p:=⟨gb174,2,none⟩) (Kd.R_far (p:=⟨gb174,1,none⟩) (Kd.R_far (p:=⟨gb174,0,none⟩) (Kd.R_types HO181.out BK174.out (by decide)) (fun _ hk=>hk.2) (.int .i64 a0_0)) (fun _ hk=>hk.2) (.int .i64 a0_1)) (fun _ hk=>hk.2) (.slice Ao13 y179.length co13)) (fun _ hk=>trivial),bW HB.out⟩
   ·rw [if_neg c5] at H
    exact absurd H (by simp)
  ·rw [if_neg c4] at H
   exact absurd H (by simp)
 ·rw [if_neg c3] at H
  exact absurd H (by simp)

end Go.Proofs.Ytakepkjcmgcepaa.QFnExactIsClaim
