/- The functions that the law FnExactIsClaim reaches, as plain functions, and the walks that show that the machine's calls answer so. Written by a program of this session (wip/myprint.py) on the kit's print. -/
import Derived.Test.YtakepkjcmgcepaaQFnExactIsClaimx0
import Derived.Test.YtakepkjcmgcepaaQFnExactIsClaimx4
namespace Go.Proofs.Ytakepkjcmgcepaa.QFnExactIsClaim
open Go.RowKit Go.Proofs.YtakepkjcmgcepaaW.PrintWords Go.Proofs.YtakepkjcmgcepaaW.PrintLast Go.Proofs.YtakepkjcmgcepaaW.PrintMore
attribute [local go_sem] max2_int min2_int max_two min_two max_three min_three max_four min_four   -- for this text's walks alone
set_option linter.unusedVariables false
set_option linter.unusedSimpArgs false

/-! ### spec_l01Suit: function 146 -/
def spec_l01Suit.l0 : Nat → List Int → Int → List Int → Int → Option (List Int)
 | 0,_,_,_,_=>none
 | k + 1,x0,x1,x5,x6=>if x6 < (x0.length : Int) then (if 0 ≤ x6 then (if (wrap64 (Int.tdiv (rd x0 x6) 13)) = x1 then (if x5.length < 17592186044416 then (spec_l01Suit.l0 k x0 x1 (x5 ++ [rd x0 x6]) (wrap64 (x6 + 1))) else (none)) else (spec_l01Suit.l0 k x0 x1 x5 (wrap64 (x6 + 1)))) else (none)) else (some x5)
def spec_l01Suit.f (k : Nat) (l0 : List Int) (a1 : Int) : Option (List Int) := spec_l01Suit.l0 k l0 a1 (([] : List Int)) 0
theorem spec_l01Suit.mono_l : ∀ k, (∀ y0 y1 y2 y3, LeO (spec_l01Suit.l0 k y0 y1 y2 y3) (spec_l01Suit.l0 (k + 1) y0 y1 y2 y3))
 | 0=>fun _ _ _ _ r h=>by simp [spec_l01Suit.l0] at h
 | k + 1=>by
  have ih0:=spec_l01Suit.mono_l k
  ·intro y0 y1 y2 y3
   unfold spec_l01Suit.l0
   repeat' first
   | (with_reducible exact ih0 _ _ _ _)
   | (with_reducible exact LeO.refl _)
   | (with_reducible exact LeO.none _)
   | (with_reducible refine LeO.ite ?_ ?_)
   | (with_reducible refine LeO.bind ?_ (fun _=>?_))
   | exact ih0 _ _ _ _
   | exact LeO.none _
   | refine LeO.ite ?_ ?_
   | refine LeO.bind ?_ (fun _=>?_)
theorem spec_l01Suit.mono : ∀ a0 a1 k, LeO (spec_l01Suit.f k a0 a1) (spec_l01Suit.f (k + 1) a0 a1) := by
 intro a0 a1 k
 have ih0:=spec_l01Suit.mono_l k
 unfold spec_l01Suit.f
 repeat' first
   | (with_reducible exact ih0 _ _ _ _)
   | (with_reducible exact LeO.refl _)
   | (with_reducible exact LeO.none _)
   | (with_reducible refine LeO.ite ?_ ?_)
   | (with_reducible refine LeO.bind ?_ (fun _=>?_))
   | exact ih0 _ _ _ _
   | exact LeO.none _
   | refine LeO.ite ?_ ?_
   | refine LeO.bind ?_ (fun _=>?_)
set_option maxHeartbeats 8000000 in
set_option maxRecDepth 100000 in
theorem spec_l01Suit.calls (k : Nat) (A0 : Option Addr) (c0 : Nat) (l0 : List Int) (a1 : Int) (r : List Int) (w : World) (hr0 : Kd.C (Kd.int .i64) w A0 l0.length l0) (hc0 : l0.length ≤ c0) (h : spec_l01Suit.f k l0 a1 = some r) :
  Calls Try.prog 146 #[.slice A0 l0.length c0,.int .i64 a1] w fun e w'=>∃ v0_ : Value,e = .returned (v0_) ∧ Kd.R (Kd.int .i64) 2 w' w.heap.size (fun _=>True) v0_ r ∧ Below w.heap.size w w':=by
 have HR0:=aK hr0
 have HC0:=aK hc0
 clear hr0 hc0
 have HB:=aK (Below.refl w.heap.size w)
 have H : (spec_l01Suit.l0 k l0 a1 (([] : List Int)) 0) = some r:=h
 clear h
 obtain ⟨y213,hy213⟩ : ∃ y_ : List Int,y_ = (([] : List Int)):=⟨_,rfl⟩
 replace H : (spec_l01Suit.l0 k l0 a1 y213 0) = some r:=by first|(rw [hy213];with_reducible exact H)|(have H2_:=(Option.bind_some _ _).symm.trans H;rw [hy213];with_reducible exact H2_)|(have H2_:=(Option.bind_some _ _).symm.trans H;with_reducible exact H2_)|with_reducible exact H|(rw [hy213];exact H)|exact H
 have Ny213:=aK hy213
 clear hy213
 have H':=aK H
 clear H
 go_enter Try.func146,Try.ntmps146
 go_wp2_with (first|((with_reducible refine gate_dst (N:=7) rfl ?_);refine Kd.R_lit (Kd.int .i64) _ 2 ?hg (N:=7) ?hd (xs:=([] : List Int)) (inner:=[]) (ok:=fun _=>True) (okp:=fun _=>True) ?hr ?hp (fun _ hk=>hk) trivial (Below.refl _ _) (Nat.le_refl _) (by simp) ?_;(case hd=>rfl);(case hg=>rfl);(case hr=>first|(go_simp;done)|(go_simp;rfl));(case hp=>exact (Reps.none _ _));intro v214 w3 ho4 hb hg_ hnew_;clear hg_ hnew_;(first|rw [← Ny213.out] at ho4|(simp only [Int.reduceToNat] at ho4;rw [← Ny213.out] at ho4));have n0_:=aK (Kd.R_lower ho4 (below_size (bW HB.out)));have n1_:=aK (below_step (bW HB.out) hb);clear HB;have HO215:=n0_;have HB:=n1_;clear n0_ n1_;clear hb ho4))
 go_loopg [5,6] k (fun kq v5 v6 w'=>∃ (x5_1 : List Int) (x6_1 : Int),v6 = .int .i64 x6_1 ∧ Aside0 (spec_l01Suit.l0 kq l0 a1 x5_1 x6_1 = some r) ∧ Aside0 (kq ≤ k) ∧ Aside0 (Kd.R (Kd.int .i64) 2 w' w.heap.size (fun _=>True) v5 x5_1) ∧ Aside0 (Below w.heap.size w w'))
 case atStart=>exact ⟨(y213),(0),(by first|rfl|(simp;done)|(simp [*];done)),H',⟨Nat.le_refl _⟩,⟨by (with_reducible repeat first|apply Kd.R_alloc|apply Kd.R_drewN|apply Kd.R_drew);exact HO215.out⟩,⟨bW HB.out⟩⟩
 case round =>
  clear H'
  try clear c1
  try clear p2
  obtain ⟨x5_1,x6_1,rfl,HA,HK1,HO_5,HB⟩:=hrel
  cases gk with
  | zero=>exact absurd HA.out (by simp [spec_l01Suit.l0])
  | succ k1 =>
   have H:=HA.out
   clear HA
   simp only [spec_l01Suit.l0] at H
   by_cases c5 : x6_1 < (l0.length : Int)
   ·rw [if_pos c5] at H
    have c5b0 : decide (x6_1 < (l0.length : Int)) = true:=decide_eq_true c5
    clear c5
    by_cases c6 : 0 ≤ x6_1
    ·rw [if_pos c6] at H
     have c6b0 : decide (0 ≤ x6_1) = true:=decide_eq_true c6
     clear c6
     by_cases c7 : (wrap64 (Int.tdiv (rd l0 x6_1) 13)) = a1
     ·rw [if_pos c7] at H
      have c7b0 : ((wrap64 (Int.tdiv (rd l0 x6_1) 13)) == a1) = true:=beq_iff_eq.mpr c7
      have c7b1 : ((wrap64 (Int.tdiv (rd l0 x6_1) 13)) != a1) = false:=bne_eq_false_iff_eq.mpr c7
      clear c7
      by_cases c8 : x5_1.length < 17592186044416
      ·rw [if_pos c8] at H
       have LMc8:=aK c8
       clear c8
       obtain ⟨y218,hy218⟩ : ∃ y_ : List Int,y_ = (x5_1 ++ [rd l0 x6_1]):=⟨_,rfl⟩
       replace H : (spec_l01Suit.l0 k1 l0 a1 y218 (wrap64 (x6_1 + 1))) = some r:=by first|(rw [hy218];with_reducible exact H)|(have H2_:=(Option.bind_some _ _).symm.trans H;rw [hy218];with_reducible exact H2_)|(have H2_:=(Option.bind_some _ _).symm.trans H;with_reducible exact H2_)|with_reducible exact H|(rw [hy218];exact H)|exact H
       have Ny218:=aK hy218
       clear hy218
       have H':=aK H
       clear H
       have p216 : 0 ≤ (x6_1 : Int):=of_decide_eq_true (by first|(with_reducible assumption)|assumption)
       have q216 : x6_1 < (l0.length : Int):=of_decide_eq_true (by first|(with_reducible assumption)|assumption)
       obtain ⟨ad216,e216,hx216_0⟩:=Kd.at_int HR0.out x6_1 p216 q216
       cases e216
       replace hx216_0:=(HB.out.cell (World.block_lt_of_cell? w _ hx216_0)).trans hx216_0
       replace p216:=eq_true p216
       replace q216:=eq_true q216
       have p217 : 0 ≤ (x6_1 : Int):=of_decide_eq_true (by first|(with_reducible assumption)|assumption)
       have q217 : x6_1 < (l0.length : Int):=of_decide_eq_true (by first|(with_reducible assumption)|assumption)
       obtain ⟨ad217,e217,hx217_0⟩:=Kd.at_int HR0.out x6_1 p217 q217
       obtain rfl : ad216 = ad217:=(by injection e217)
       replace hx217_0:=(HB.out.cell (World.block_lt_of_cell? w _ hx217_0)).trans hx217_0
       replace p217:=eq_true p217
       replace q217:=eq_true q217
       go_wp2_with (first|((with_reducible refine gate_builtin (b:=.append) (xs:=#[.tmp 21,.tmp 26]) rfl ?_);at_builtin;refine Kd.R_append (Kd.int .i64) (w0:=w) w.heap.size rfl (.tmp 21) (.tmp 26) 22 2 (.int .i64 0) 8 rfl Try.underlying22 info2 rfl (by decide) (by omega) u5 x5_1 (rd l0 x6_1) [.int .i64 (rd l0 x6_1)] (fun _=>True) (fun _=>False) rfl rfl ?aP (fun _ hk=>hk.elim) ?aF ?aO ?aB ?aS ?aL ?_;(case aP=>exact rfl);(case aB=>exact (bW HB.out));(case aF=>exact (fun _ _=>trivial));(case aO=>exact (rX HO_5.out));(case aS=>exact (below_size (bW HB.out)));(case aL=>have:=LMc8.out;omega);intro v219 w9 ho hb hg hat;rw [← Ny218.out] at ho;have n0_:=aK (hb);have n1_:=aK (ho);clear HB;clear HO_5;have HB:=n0_;have HO220:=n1_;clear n0_ n1_;clear ho hb hg hat))
       go_roundg k1
       case measure=>have:=HK1.out;omega
       case rel=>exact ⟨(y218),(wrap64 (x6_1 + 1)),(by first|rfl|(simp;done)|(simp [*];done)),H',⟨by have:=HK1.out;omega⟩,⟨by (with_reducible repeat first|apply Kd.R_alloc|apply Kd.R_drewN|apply Kd.R_drew);exact HO220.out⟩,⟨bW HB.out⟩⟩
      ·rw [if_neg c8] at H
       exact absurd H (by simp)
     ·rw [if_neg c7] at H
      have c7b0 : ((wrap64 (Int.tdiv (rd l0 x6_1) 13)) == a1) = false:=beq_eq_false_iff_ne.mpr c7
      have c7b1 : ((wrap64 (Int.tdiv (rd l0 x6_1) 13)) != a1) = true:=bne_iff_ne.mpr c7
      have H':=aK H
      clear H
      have p216 : 0 ≤ (x6_1 : Int):=of_decide_eq_true (by first|(with_reducible assumption)|assumption)
      have q216 : x6_1 < (l0.length : Int):=of_decide_eq_true (by first|(with_reducible assumption)|assumption)
      obtain ⟨ad216,e216,hx216_0⟩:=Kd.at_int HR0.out x6_1 p216 q216
      cases e216
      replace hx216_0:=(HB.out.cell (World.block_lt_of_cell? w _ hx216_0)).trans hx216_0
      replace p216:=eq_true p216
      replace q216:=eq_true q216
      go_wp2
      go_roundg k1
      case measure=>have:=HK1.out;omega
      case rel=>exact ⟨(x5_1),(wrap64 (x6_1 + 1)),(by first|rfl|(simp;done)|(simp [*];done)),H',⟨by have:=HK1.out;omega⟩,⟨by (with_reducible repeat first|apply Kd.R_alloc|apply Kd.R_drewN|apply Kd.R_drew);exact HO_5.out⟩,⟨bW HB.out⟩⟩
    ·rw [if_neg c6] at H
     exact absurd H (by simp)
   ·rw [if_neg c5] at H
    have c5b0 : decide (x6_1 < (l0.length : Int)) = false:=decide_eq_false c5
    clear c5
    obtain rfl:=Option.some.inj H
    go_wp2
    go_ret
    exact ⟨_,by first|rfl|(simp [errW_none,errW_some] <;> rfl)|(simp [*,errW_none,errW_some] <;> rfl),by (with_reducible repeat first|apply Kd.R_alloc|apply Kd.R_drewN|apply Kd.R_drew);exact HO_5.out,bW HB.out⟩

/-! ### spec_l08Legal: function 107 -/
def spec_l08Legal.f (k : Nat) (l0_0 : List (List Int)) (a1_0 : Int) (a1_1 : Int) (l1_2 : List Int) : Option (List Int) := (spec_l08Turn.f k a1_0 a1_1 l1_2).bind fun t223 => ((spec_l08Left.f k l0_0 a1_0 a1_1 l1_2 t223).bind fun t224 => (if ((l1_2.length : Int) % 4) = 0 then (some t224) else (if 0 ≤ (wrap64 ((l1_2.length : Int) - ((l1_2.length : Int) % 4))) then (if (wrap64 ((l1_2.length : Int) - ((l1_2.length : Int) % 4))) < (l1_2.length : Int) then ((spec_l01Suit.f k t224 (wrap64 (Int.tdiv (rd l1_2 (wrap64 ((l1_2.length : Int) - ((l1_2.length : Int) % 4)))) 13))).bind fun t228 => (if (t228.length : Int) > 0 then (some t228) else (some t224))) else (none)) else (none))))
theorem spec_l08Legal.mono : ∀ a0 a1 a2 a3 k, LeO (spec_l08Legal.f k a0 a1 a2 a3) (spec_l08Legal.f (k + 1) a0 a1 a2 a3) := by
 intro a0 a1 a2 a3 k
 unfold spec_l08Legal.f
 repeat' first
   | (with_reducible exact spec_l01Suit.mono _ _ _)
   | (with_reducible exact spec_l08Left.mono _ _ _ _ _ _)
   | (with_reducible exact spec_l08Turn.mono _ _ _ _)
   | (with_reducible exact LeO.refl _)
   | (with_reducible exact LeO.none _)
   | (with_reducible refine LeO.ite ?_ ?_)
   | (with_reducible refine LeO.bind ?_ (fun _=>?_))
   | exact spec_l01Suit.mono _ _ _
   | exact spec_l08Left.mono _ _ _ _ _ _
   | exact spec_l08Turn.mono _ _ _ _
   | exact LeO.none _
   | refine LeO.ite ?_ ?_
   | refine LeO.bind ?_ (fun _=>?_)
set_option maxHeartbeats 8000000 in
set_option maxRecDepth 100000 in
theorem spec_l08Legal.calls (k : Nat) (A0_0 : Option Addr) (c0_0 : Nat) (l0_0 : List (List Int)) (a1_0 : Int) (a1_1 : Int) (A1_2 : Option Addr) (c1_2 : Nat) (l1_2 : List Int) (r : List Int) (w : World) (hr0_0 : Kd.C (Kd.slice 2 (Kd.int .i64)) w A0_0 l0_0.length l0_0) (hc0_0 : l0_0.length ≤ c0_0) (hr1_2 : Kd.C (Kd.int .i64) w A1_2 l1_2.length l1_2) (hc1_2 : l1_2.length ≤ c1_2) (h : spec_l08Legal.f k l0_0 a1_0 a1_1 l1_2 = some r) :
  Calls Try.prog 107 #[.agg #[.slice A0_0 l0_0.length c0_0],.agg #[.int .i64 a1_0,.int .i64 a1_1,.slice A1_2 l1_2.length c1_2]] w fun e w'=>∃ v0_ : Value,e = .returned (v0_) ∧ Kd.R (Kd.int .i64) 2 w' w.heap.size (fun _=>True) v0_ r ∧ Below w.heap.size w w':=by
 have hu44:=Try.underlying44
 have hu27:=Try.underlying27
 have HR0_0:=aK hr0_0
 have HC0_0:=aK hc0_0
 clear hr0_0 hc0_0
 have HR1_2:=aK hr1_2
 have HC1_2:=aK hc1_2
 clear hr1_2 hc1_2
 have HB:=aK (Below.refl w.heap.size w)
 have H : ((spec_l08Turn.f k a1_0 a1_1 l1_2).bind fun t223=>((spec_l08Left.f k l0_0 a1_0 a1_1 l1_2 t223).bind fun t224=>(if ((l1_2.length : Int) % 4) = 0 then (some t224) else (if 0 ≤ (wrap64 ((l1_2.length : Int) - ((l1_2.length : Int) % 4))) then (if (wrap64 ((l1_2.length : Int) - ((l1_2.length : Int) % 4))) < (l1_2.length : Int) then ((spec_l01Suit.f k t224 (wrap64 (Int.tdiv (rd l1_2 (wrap64 ((l1_2.length : Int) - ((l1_2.length : Int) % 4)))) 13))).bind fun t228=>(if (t228.length : Int) > 0 then (some t228) else (some t224))) else (none)) else (none))))) = some r:=h
 clear h
 replace H:=Option.bind_eq_some_iff.mp H
 obtain ⟨t223,A30,H⟩:=H
 replace H : ((spec_l08Left.f k l0_0 a1_0 a1_1 l1_2 t223).bind fun t224=>(if ((l1_2.length : Int) % 4) = 0 then (some t224) else (if 0 ≤ (wrap64 ((l1_2.length : Int) - ((l1_2.length : Int) % 4))) then (if (wrap64 ((l1_2.length : Int) - ((l1_2.length : Int) % 4))) < (l1_2.length : Int) then ((spec_l01Suit.f k t224 (wrap64 (Int.tdiv (rd l1_2 (wrap64 ((l1_2.length : Int) - ((l1_2.length : Int) % 4)))) 13))).bind fun t228=>(if (t228.length : Int) > 0 then (some t228) else (some t224))) else (none)) else (none)))) = some r:=H
 have A3:=aK A30
 clear A30
 replace H:=Option.bind_eq_some_iff.mp H
 obtain ⟨t224,A40,H⟩:=H
 replace H : (if ((l1_2.length : Int) % 4) = 0 then (some t224) else (if 0 ≤ (wrap64 ((l1_2.length : Int) - ((l1_2.length : Int) % 4))) then (if (wrap64 ((l1_2.length : Int) - ((l1_2.length : Int) % 4))) < (l1_2.length : Int) then ((spec_l01Suit.f k t224 (wrap64 (Int.tdiv (rd l1_2 (wrap64 ((l1_2.length : Int) - ((l1_2.length : Int) % 4)))) 13))).bind fun t228=>(if (t228.length : Int) > 0 then (some t228) else (some t224))) else (none)) else (none))) = some r:=H
 have A4:=aK A40
 clear A40
 by_cases c5 : ((l1_2.length : Int) % 4) = 0
 ·rw [if_pos c5] at H
  have c5b0 : (((l1_2.length : Int) % 4) == 0) = true:=beq_iff_eq.mpr c5
  have c5b1 : (((l1_2.length : Int) % 4) != 0) = false:=bne_eq_false_iff_eq.mpr c5
  clear c5
  obtain rfl:=Option.some.inj H
  go_enter Try.func107,Try.ntmps107
  try go_wp2_with (first|((with_reducible refine gate_dst (N:=2) rfl ?_);refine box_event ?hg (N:=2) ?hd (cs:=#[.slice A0_0 l0_0.length c0_0]) (t:=44) ?hr ?_;(case hd=>rfl);(case hg=>rfl);(case hr=>first|(go_simp;done)|(go_simp;rfl));intro gb221 hg w6 hbox hb;have n0_:=aK (below_step (bW HB.out) hb);have n1_:=aK (hbox);have n2_:=aK ((by rw [hg];exact (below_size (bW HB.out)) : w.heap.size ≤ gb221));have n3_:=aK ((by rw [hg];exact (below_size (bW HB.out)) : w.heap.size ≤ gb221));clear HB;have HB:=n0_;have BK221:=n1_;have GW221:=n2_;have GE221:=n3_;clear n0_ n1_ n2_ n3_;clear hb hbox hg)|((with_reducible refine gate_dst (N:=3) rfl ?_);refine box_event ?hg (N:=3) ?hd (cs:=#[.int .i64 a1_0,.int .i64 a1_1,.slice A1_2 l1_2.length c1_2]) (t:=27) ?hr ?_;(case hd=>rfl);(case hg=>rfl);(case hr=>first|(go_simp;done)|(go_simp;rfl));intro gb222 hg w7 hbox hb;have n0_:=aK (bB (bX BK221.out) hb);have n1_:=aK (below_step (bW HB.out) hb);have n2_:=aK (hbox);have n3_:=aK ((by rw [hg];exact (below_size (bW HB.out)) : w.heap.size ≤ gb222));have n4_:=aK ((by rw [hg];exact (below_size (bW HB.out)) : w.heap.size ≤ gb222));have n5_:=aK ((by rw [hg];exact Nat.ne_of_lt (blk_lt (bX BK221.out)) : gb221 ≠ gb222));have n6_:=aK ((by rw [hg];exact Nat.ne_of_gt (blk_lt (bX BK221.out)) : gb222 ≠ gb221));clear BK221;clear HB;have BK221:=n0_;have HB:=n1_;have BK222:=n2_;have GW222:=n3_;have GE222:=n4_;have NB221_222:=n5_;have NB222_221:=n6_;clear n0_ n1_ n2_ n3_ n4_ n5_ n6_;clear hb hbox hg))
  have n0_:=aK (bD BK221.out)
  have n1_:=aK (bD BK222.out)
  have n2_:=aK (b1 HB.out)
  clear BK221
  clear BK222
  clear HB
  have BK221:=n0_
  have BK222:=n1_
  have HB:=n2_
  clear n0_ n1_ n2_
  refine start_ (n:=6) (S:=fun w'=>w'.cell? ⟨gb221,0,none⟩ = some (.slice A0_0 l0_0.length c0_0) ∧ w'.cell? ⟨gb222,0,none⟩ = some (.int .i64 a1_0) ∧ w'.cell? ⟨gb222,1,none⟩ = some (.int .i64 a1_1) ∧ w'.cell? ⟨gb222,2,none⟩ = some (.slice A1_2 l1_2.length c1_2)) (ds:=[]) #[false,false,false,false,false,false] (by kernel_rfl) rfl rfl ⟨(bC BK221.out 0).trans rfl,(bC BK222.out 0).trans rfl,(bC BK222.out 1).trans rfl,(bC BK222.out 2).trans rfl⟩ (fun hHeld=>?_)
  generalize w7.drew = w8 at BK221 BK222 HB hHeld ⊢
  refine take_ (i:=0) (N:=some 8) (v:=?_) (a':=?_) #[true,false,false,false,false,false] rfl rfl (by kernel_rfl) (fun _ _ _ h=>h) (Or.inl ⟨by rfl,?_⟩) hHeld ?_ ?_
  rotate_left
  ·rintro w' ⟨s0,s1,s2,s3⟩
   go_simp
   with_reducible rfl
  rotate_left
  ·simp only [Act.put,lA,l0',lS,i64_w,i32_w]
   rfl
  refine take_ (i:=1) (N:=some 9) (v:=?_) (a':=?_) #[true,true,false,false,false,false] rfl rfl (by kernel_rfl) (fun _ _ _ h=>h) (Or.inl ⟨by rfl,?_⟩) hHeld ?_ ?_
  rotate_left
  ·rintro w' ⟨s0,s1,s2,s3⟩
   go_simp
   with_reducible rfl
  rotate_left
  ·simp only [Act.put,lA,l0',lS,i64_w,i32_w]
   rfl
  refine take_ (i:=2) (N:=some 10) (v:=?_) (a':=?_) #[true,true,true,false,false,false] rfl rfl (by kernel_rfl) (fun _ _ _ h=>h) (Or.inl ⟨by rfl,?_⟩) hHeld ?_ ?_
  rotate_left
  ·rintro w' ⟨s0,s1,s2,s3⟩
   go_simp
   with_reducible rfl
  rotate_left
  ·simp only [Act.put,lA,l0',lS,i64_w,i32_w]
   rfl
  refine one_ (i:=3) (N:=some 11) #[true,true,true,true,false,false] rfl rfl (by kernel_rfl) (by decide) (fun K hK=>?_)
  refine goes_ Try.func103 (by kernel_rfl) rfl #[.agg #[.int .i64 a1_0,.int .i64 a1_1,.slice A1_2 l1_2.length c1_2]] (by rfl) rfl rfl (by (try simp only [mA,mC,mN]);first|done|rfl) ?_
  with_reducible refine (spec_l08Turn.calls k a1_0 a1_1 _ _ l1_2 t223 _ ?side1 ?side2 A3.out).mono ?_
  (case side1=>repeat (first|exact (Kd.C_below HR1_2.out HB.out)|(with_reducible refine Kd.C_alloc ?_ _)|(with_reducible refine Kd.C_drewN ?_ _)|(with_reducible refine Kd.C_drew ?_)))
  (case side2=>exact HC1_2.out)
  rintro e w9 ⟨rfl,hb⟩
  refine ⟨_,rfl,?_⟩
  have n0_:=aK (bB (bX BK221.out) hb)
  have n1_:=aK (bB (bX BK222.out) hb)
  have n2_:=aK (below_step (bW HB.out) hb)
  clear BK221
  clear BK222
  clear HB
  have BK221:=n0_
  have BK222:=n1_
  have HB:=n2_
  clear n0_ n1_ n2_
  (try clear hb)
  (try clear hb2)
  (try clear hk)
  (try clear hi)
  refine hK.out _ _ ⟨(bC BK221.out 0).trans rfl,(bC BK222.out 0).trans rfl,(bC BK222.out 1).trans rfl,(bC BK222.out 2).trans rfl⟩ (fun hHeld=>?_)
  clear hK K
  refine norm_ (a':=?_) ?_ ?_
  rotate_left
  ·show Act.put _ (some 11) _ = _
   simp only [Act.put,lA,l0',lS,i64_w,i32_w]
   rfl
  refine one_ (i:=4) (N:=some 12) #[true,true,true,true,true,false] rfl rfl (by kernel_rfl) (by decide) (fun K hK=>?_)
  refine goes_ Try.func120 (by kernel_rfl) rfl #[.agg #[.slice A0_0 l0_0.length c0_0],.agg #[.int .i64 a1_0,.int .i64 a1_1,.slice A1_2 l1_2.length c1_2],.int .i64 t223] (by rfl) rfl rfl (by (try simp only [mA,mC,mN]);first|done|rfl) ?_
  with_reducible refine (spec_l08Left.calls k _ _ l0_0 a1_0 a1_1 _ _ l1_2 t223 t224 _ ?side1 ?side2 ?side3 ?side4 A4.out).mono ?_
  (case side1=>repeat (first|exact (Kd.C_below HR0_0.out HB.out)|(with_reducible refine Kd.C_alloc ?_ _)|(with_reducible refine Kd.C_drewN ?_ _)|(with_reducible refine Kd.C_drew ?_)))
  (case side2=>exact HC0_0.out)
  (case side3=>repeat (first|exact (Kd.C_below HR1_2.out HB.out)|(with_reducible refine Kd.C_alloc ?_ _)|(with_reducible refine Kd.C_drewN ?_ _)|(with_reducible refine Kd.C_drew ?_)))
  (case side4=>exact HC1_2.out)
  rintro e w10 ⟨v225,rfl,ho0,hb⟩
  refine ⟨_,rfl,?_⟩
  have n0_:=aK (Kd.R_lower ho0 (below_size (bW HB.out)))
  have n1_:=aK (bB (bX BK221.out) hb)
  have n2_:=aK (bB (bX BK222.out) hb)
  have n3_:=aK (below_step (bW HB.out) hb)
  clear BK221
  clear BK222
  clear HB
  have HO226:=n0_
  have BK221:=n1_
  have BK222:=n2_
  have HB:=n3_
  clear n0_ n1_ n2_ n3_
  (try clear hb)
  (try clear hb2)
  (try clear hk)
  (try clear hi)
  (try clear ho0)
  refine hK.out _ _ ⟨(bC BK221.out 0).trans rfl,(bC BK222.out 0).trans rfl,(bC BK222.out 1).trans rfl,(bC BK222.out 2).trans rfl⟩ (fun hHeld=>?_)
  clear hK K
  refine norm_ (a':=?_) ?_ ?_
  rotate_left
  ·show Act.put _ (some 12) _ = _
   simp only [Act.put,lA,l0',lS,i64_w,i32_w]
   rfl
  refine pure_ (i:=5) (N:=some 5) (v:=?_) (a':=?_) #[true,true,true,true,true,true] rfl rfl (by kernel_rfl) (fun _ _ _ h=>h) (Or.inl ⟨by rfl,?_⟩) ?_ ?_
  rotate_left
  ·intro w'
   go_simp
   with_reducible rfl
  rotate_left
  ·simp only [Act.put,lA,l0',lS,i64_w,i32_w]
   rfl
  refine done_ (by kernel_rfl) ?_
  have hnb11:=NB222_221.out
  have hnc11:=NB221_222.out
  have hcz12_0 : w10.cell? ⟨gb222,0,none⟩ = some (.int .i64 a1_0):=(bC BK222.out 0).trans rfl
  have hcz12_1 : w10.cell? ⟨gb222,1,none⟩ = some (.int .i64 a1_1):=(bC BK222.out 1).trans rfl
  have hcz12_2 : w10.cell? ⟨gb222,2,none⟩ = some (.slice A1_2 l1_2.length c1_2):=(bC BK222.out 2).trans rfl
  have hfz12_0:=blk_frozen BK222.out 0
  have hfz12_1:=blk_frozen BK222.out 1
  have hfz12_2:=blk_frozen BK222.out 2
  try go_wp2
  go_ret
  exact ⟨_,by first|rfl|(simp [errW_none,errW_some] <;> rfl)|(simp [*,errW_none,errW_some] <;> rfl),by (with_reducible repeat first|apply Kd.R_alloc|apply Kd.R_drewN|apply Kd.R_drew);exact HO226.out,bW HB.out⟩
 ·rw [if_neg c5] at H
  have c5b0 : (((l1_2.length : Int) % 4) == 0) = false:=beq_eq_false_iff_ne.mpr c5
  have c5b1 : (((l1_2.length : Int) % 4) != 0) = true:=bne_iff_ne.mpr c5
  obtain ⟨ji13,hji13⟩ : ∃ j_ : Int,(wrap64 ((l1_2.length : Int) - ((l1_2.length : Int) % 4))) = j_:=⟨_,rfl⟩
  replace H : (if 0 ≤ (ji13) then (if (ji13) < (l1_2.length : Int) then ((spec_l01Suit.f k t224 (wrap64 (Int.tdiv (rd l1_2 (ji13)) 13))).bind fun t228=>(if (t228.length : Int) > 0 then (some t228) else (some t224))) else (none)) else (none)) = some r:=by first|(rw [hji13] at H;exact H)|(simp only [hji13] at H ⊢;exact H)
  (try rw [hji13] at A3)
  (try rw [hji13] at A4)
  have hji13w : (IntKind.i64.wrap ((l1_2.length : Int) - ((l1_2.length : Int) % 4))) = ji13:=(i64_w _).trans hji13
  by_cases c14 : 0 ≤ (ji13)
  ·rw [if_pos c14] at H
   have c14b0 : decide (0 ≤ (ji13)) = true:=decide_eq_true c14
   clear c14
   by_cases c15 : (ji13) < (l1_2.length : Int)
   ·rw [if_pos c15] at H
    have c15b0 : decide ((ji13) < (l1_2.length : Int)) = true:=decide_eq_true c15
    clear c15
    replace H:=Option.bind_eq_some_iff.mp H
    obtain ⟨t228,A160,H⟩:=H
    replace H : (if (t228.length : Int) > 0 then (some t228) else (some t224)) = some r:=H
    have A16:=aK A160
    clear A160
    by_cases c17 : (t228.length : Int) > 0
    ·rw [if_pos c17] at H
     have c17b0 : decide (0 < (t228.length : Int)) = true:=decide_eq_true c17
     have c17b1 : decide (0 < t228.length) = true:=decide_eq_true (by omega)
     clear c17
     obtain rfl:=Option.some.inj H
     go_enter Try.func107,Try.ntmps107
     try go_wp2_with (first|((with_reducible refine gate_dst (N:=2) rfl ?_);refine box_event ?hg (N:=2) ?hd (cs:=#[.slice A0_0 l0_0.length c0_0]) (t:=44) ?hr ?_;(case hd=>rfl);(case hg=>rfl);(case hr=>first|(go_simp;done)|(go_simp;rfl));intro gb221 hg w18 hbox hb;have n0_:=aK (below_step (bW HB.out) hb);have n1_:=aK (hbox);have n2_:=aK ((by rw [hg];exact (below_size (bW HB.out)) : w.heap.size ≤ gb221));have n3_:=aK ((by rw [hg];exact (below_size (bW HB.out)) : w.heap.size ≤ gb221));clear HB;have HB:=n0_;have BK221:=n1_;have GW221:=n2_;have GE221:=n3_;clear n0_ n1_ n2_ n3_;clear hb hbox hg)|((with_reducible refine gate_dst (N:=3) rfl ?_);refine box_event ?hg (N:=3) ?hd (cs:=#[.int .i64 a1_0,.int .i64 a1_1,.slice A1_2 l1_2.length c1_2]) (t:=27) ?hr ?_;(case hd=>rfl);(case hg=>rfl);(case hr=>first|(go_simp;done)|(go_simp;rfl));intro gb222 hg w19 hbox hb;have n0_:=aK (bB (bX BK221.out) hb);have n1_:=aK (below_step (bW HB.out) hb);have n2_:=aK (hbox);have n3_:=aK ((by rw [hg];exact (below_size (bW HB.out)) : w.heap.size ≤ gb222));have n4_:=aK ((by rw [hg];exact (below_size (bW HB.out)) : w.heap.size ≤ gb222));have n5_:=aK ((by rw [hg];exact Nat.ne_of_lt (blk_lt (bX BK221.out)) : gb221 ≠ gb222));have n6_:=aK ((by rw [hg];exact Nat.ne_of_gt (blk_lt (bX BK221.out)) : gb222 ≠ gb221));clear BK221;clear HB;have BK221:=n0_;have HB:=n1_;have BK222:=n2_;have GW222:=n3_;have GE222:=n4_;have NB221_222:=n5_;have NB222_221:=n6_;clear n0_ n1_ n2_ n3_ n4_ n5_ n6_;clear hb hbox hg))
     have n0_:=aK (bD BK221.out)
     have n1_:=aK (bD BK222.out)
     have n2_:=aK (b1 HB.out)
     clear BK221
     clear BK222
     clear HB
     have BK221:=n0_
     have BK222:=n1_
     have HB:=n2_
     clear n0_ n1_ n2_
     refine start_ (n:=6) (S:=fun w'=>w'.cell? ⟨gb221,0,none⟩ = some (.slice A0_0 l0_0.length c0_0) ∧ w'.cell? ⟨gb222,0,none⟩ = some (.int .i64 a1_0) ∧ w'.cell? ⟨gb222,1,none⟩ = some (.int .i64 a1_1) ∧ w'.cell? ⟨gb222,2,none⟩ = some (.slice A1_2 l1_2.length c1_2)) (ds:=[]) #[false,false,false,false,false,false] (by kernel_rfl) rfl rfl ⟨(bC BK221.out 0).trans rfl,(bC BK222.out 0).trans rfl,(bC BK222.out 1).trans rfl,(bC BK222.out 2).trans rfl⟩ (fun hHeld=>?_)
     generalize w19.drew = w20 at BK221 BK222 HB hHeld ⊢
     refine take_ (i:=0) (N:=some 8) (v:=?_) (a':=?_) #[true,false,false,false,false,false] rfl rfl (by kernel_rfl) (fun _ _ _ h=>h) (Or.inl ⟨by rfl,?_⟩) hHeld ?_ ?_
     rotate_left
     ·rintro w' ⟨s0,s1,s2,s3⟩
      go_simp
      with_reducible rfl
     rotate_left
     ·simp only [Act.put,lA,l0',lS,i64_w,i32_w]
      rfl
     refine take_ (i:=1) (N:=some 9) (v:=?_) (a':=?_) #[true,true,false,false,false,false] rfl rfl (by kernel_rfl) (fun _ _ _ h=>h) (Or.inl ⟨by rfl,?_⟩) hHeld ?_ ?_
     rotate_left
     ·rintro w' ⟨s0,s1,s2,s3⟩
      go_simp
      with_reducible rfl
     rotate_left
     ·simp only [Act.put,lA,l0',lS,i64_w,i32_w]
      rfl
     refine take_ (i:=2) (N:=some 10) (v:=?_) (a':=?_) #[true,true,true,false,false,false] rfl rfl (by kernel_rfl) (fun _ _ _ h=>h) (Or.inl ⟨by rfl,?_⟩) hHeld ?_ ?_
     rotate_left
     ·rintro w' ⟨s0,s1,s2,s3⟩
      go_simp
      with_reducible rfl
     rotate_left
     ·simp only [Act.put,lA,l0',lS,i64_w,i32_w]
      rfl
     refine one_ (i:=3) (N:=some 11) #[true,true,true,true,false,false] rfl rfl (by kernel_rfl) (by decide) (fun K hK=>?_)
     refine goes_ Try.func103 (by kernel_rfl) rfl #[.agg #[.int .i64 a1_0,.int .i64 a1_1,.slice A1_2 l1_2.length c1_2]] (by rfl) rfl rfl (by (try simp only [mA,mC,mN]);first|done|rfl) ?_
     with_reducible refine (spec_l08Turn.calls k a1_0 a1_1 _ _ l1_2 t223 _ ?side1 ?side2 A3.out).mono ?_
     (case side1=>repeat (first|exact (Kd.C_below HR1_2.out HB.out)|(with_reducible refine Kd.C_alloc ?_ _)|(with_reducible refine Kd.C_drewN ?_ _)|(with_reducible refine Kd.C_drew ?_)))
     (case side2=>exact HC1_2.out)
     rintro e w21 ⟨rfl,hb⟩
     refine ⟨_,rfl,?_⟩
     have n0_:=aK (bB (bX BK221.out) hb)
     have n1_:=aK (bB (bX BK222.out) hb)
     have n2_:=aK (below_step (bW HB.out) hb)
     clear BK221
     clear BK222
     clear HB
     have BK221:=n0_
     have BK222:=n1_
     have HB:=n2_
     clear n0_ n1_ n2_
     (try clear hb)
     (try clear hb2)
     (try clear hk)
     (try clear hi)
     refine hK.out _ _ ⟨(bC BK221.out 0).trans rfl,(bC BK222.out 0).trans rfl,(bC BK222.out 1).trans rfl,(bC BK222.out 2).trans rfl⟩ (fun hHeld=>?_)
     clear hK K
     refine norm_ (a':=?_) ?_ ?_
     rotate_left
     ·show Act.put _ (some 11) _ = _
      simp only [Act.put,lA,l0',lS,i64_w,i32_w]
      rfl
     refine one_ (i:=4) (N:=some 12) #[true,true,true,true,true,false] rfl rfl (by kernel_rfl) (by decide) (fun K hK=>?_)
     refine goes_ Try.func120 (by kernel_rfl) rfl #[.agg #[.slice A0_0 l0_0.length c0_0],.agg #[.int .i64 a1_0,.int .i64 a1_1,.slice A1_2 l1_2.length c1_2],.int .i64 t223] (by rfl) rfl rfl (by (try simp only [mA,mC,mN]);first|done|rfl) ?_
     with_reducible refine (spec_l08Left.calls k _ _ l0_0 a1_0 a1_1 _ _ l1_2 t223 t224 _ ?side1 ?side2 ?side3 ?side4 A4.out).mono ?_
     (case side1=>repeat (first|exact (Kd.C_below HR0_0.out HB.out)|(with_reducible refine Kd.C_alloc ?_ _)|(with_reducible refine Kd.C_drewN ?_ _)|(with_reducible refine Kd.C_drew ?_)))
     (case side2=>exact HC0_0.out)
     (case side3=>repeat (first|exact (Kd.C_below HR1_2.out HB.out)|(with_reducible refine Kd.C_alloc ?_ _)|(with_reducible refine Kd.C_drewN ?_ _)|(with_reducible refine Kd.C_drew ?_)))
     (case side4=>exact HC1_2.out)
     rintro e w22 ⟨v225,rfl,ho0,hb⟩
     refine ⟨_,rfl,?_⟩
     have n0_:=aK (Kd.R_lower ho0 (below_size (bW HB.out)))
     have n1_:=aK (bB (bX BK221.out) hb)
     have n2_:=aK (bB (bX BK222.out) hb)
     have n3_:=aK (below_step (bW HB.out) hb)
     clear BK221
     clear BK222
     clear HB
     have HO226:=n0_
     have BK221:=n1_
     have BK222:=n2_
     have HB:=n3_
     clear n0_ n1_ n2_ n3_
     (try clear hb)
     (try clear hb2)
     (try clear hk)
     (try clear hi)
     (try clear ho0)
     refine hK.out _ _ ⟨(bC BK221.out 0).trans rfl,(bC BK222.out 0).trans rfl,(bC BK222.out 1).trans rfl,(bC BK222.out 2).trans rfl⟩ (fun hHeld=>?_)
     clear hK K
     refine norm_ (a':=?_) ?_ ?_
     rotate_left
     ·show Act.put _ (some 12) _ = _
      simp only [Act.put,lA,l0',lS,i64_w,i32_w]
      rfl
     refine pure_ (i:=5) (N:=some 5) (v:=?_) (a':=?_) #[true,true,true,true,true,true] rfl rfl (by kernel_rfl) (fun _ _ _ h=>h) (Or.inl ⟨by rfl,?_⟩) ?_ ?_
     rotate_left
     ·intro w'
      go_simp
      with_reducible rfl
     rotate_left
     ·simp only [Act.put,lA,l0',lS,i64_w,i32_w]
      rfl
     refine done_ (by kernel_rfl) ?_
     have hnb23:=NB222_221.out
     have hnc23:=NB221_222.out
     have hcz24_0 : w22.cell? ⟨gb222,0,none⟩ = some (.int .i64 a1_0):=(bC BK222.out 0).trans rfl
     have hcz24_1 : w22.cell? ⟨gb222,1,none⟩ = some (.int .i64 a1_1):=(bC BK222.out 1).trans rfl
     have hcz24_2 : w22.cell? ⟨gb222,2,none⟩ = some (.slice A1_2 l1_2.length c1_2):=(bC BK222.out 2).trans rfl
     have hfz24_0:=blk_frozen BK222.out 0
     have hfz24_1:=blk_frozen BK222.out 1
     have hfz24_2:=blk_frozen BK222.out 2
     have p227 : 0 ≤ ((ji13) : Int):=of_decide_eq_true (by first|(with_reducible assumption)|assumption)
     have q227 : (ji13) < (l1_2.length : Int):=of_decide_eq_true (by first|(with_reducible assumption)|assumption)
     obtain ⟨ad227,e227,hx227_0⟩:=Kd.at_int HR1_2.out (ji13) p227 q227
     cases e227
     replace hx227_0:=(HB.out.cell (World.block_lt_of_cell? w _ hx227_0)).trans hx227_0
     replace p227:=eq_true p227
     replace q227:=eq_true q227
     obtain ⟨Ao25,co25,eo25⟩:=Kd.R_slice HO226.out
     subst eo25
     try go_wp2_with (first|((with_reducible refine gate_callee (f:=146) rfl ?_);refine goesL_ (some 31) rfl rfl Try.func146 (by kernel_rfl) rfl #[.slice Ao25 t224.length co25,.int .i64 (wrap64 (Int.tdiv (rd l1_2 (ji13)) 13))] rfl (by (try simp only [List.map_toArray,List.map_cons,List.map_nil]);first|done|(simp only [hji13];rfl)|rfl|(simp only [List.length_drop,List.length_take];rfl)) ?_;(with_reducible refine (spec_l01Suit.calls k _ _ t224 (wrap64 (Int.tdiv (rd l1_2 (ji13)) 13)) t228 _ ?side1 ?side2 A16.out).mono ?_);(case side1=>repeat (first|exact (Kd.R_reads' HO226.out).2.2|(with_reducible refine Kd.C_alloc ?_ _)|(with_reducible refine Kd.C_drewN ?_ _)|(with_reducible refine Kd.C_drew ?_)));(case side2=>exact (Kd.R_reads' HO226.out).2.1);rintro e w26 ⟨v229,rfl,ho0,hb⟩;refine ⟨_,rfl,?_⟩;have n0_:=aK (Kd.R_elder' (rX HO226.out) (Kd.R_base ho0) hb);have n1_:=aK (Kd.R_lower (Kd.R_new' ho0 (Kd.R_lt (rX HO226.out))) (below_size (bW HB.out)));have n2_:=aK (bB (bX BK221.out) hb);have n3_:=aK (bB (bX BK222.out) hb);have n4_:=aK (below_step (bW HB.out) hb);clear HO226;clear BK221;clear BK222;clear HB;have HO226:=n0_;have HO230:=n1_;have BK221:=n2_;have BK222:=n3_;have HB:=n4_;clear n0_ n1_ n2_ n3_ n4_;(try clear hb);(try clear hb2);(try clear hk);(try clear hi);(try clear ho0);obtain ⟨Ao27,co27,eo27⟩:=Kd.R_slice HO230.out;subst eo27))
     go_ret
     exact ⟨_,by first|rfl|(simp [errW_none,errW_some] <;> rfl)|(simp only [← hji13];first|rfl|(simp [errW_none,errW_some] <;> rfl))|(simp [*,errW_none,errW_some] <;> rfl),by (with_reducible repeat first|apply Kd.R_alloc|apply Kd.R_drewN|apply Kd.R_drew);exact Kd.R_mono HO230.out (fun _ hk=>trivial),bW HB.out⟩
    ·rw [if_neg c17] at H
     have c17b0 : decide (0 < (t228.length : Int)) = false:=decide_eq_false c17
     have c17b1 : decide (0 < t228.length) = false:=decide_eq_false (by omega)
     clear c17
     obtain rfl:=Option.some.inj H
     go_enter Try.func107,Try.ntmps107
     try go_wp2_with (first|((with_reducible refine gate_dst (N:=2) rfl ?_);refine box_event ?hg (N:=2) ?hd (cs:=#[.slice A0_0 l0_0.length c0_0]) (t:=44) ?hr ?_;(case hd=>rfl);(case hg=>rfl);(case hr=>first|(go_simp;done)|(go_simp;rfl));intro gb221 hg w28 hbox hb;have n0_:=aK (below_step (bW HB.out) hb);have n1_:=aK (hbox);have n2_:=aK ((by rw [hg];exact (below_size (bW HB.out)) : w.heap.size ≤ gb221));have n3_:=aK ((by rw [hg];exact (below_size (bW HB.out)) : w.heap.size ≤ gb221));clear HB;have HB:=n0_;have BK221:=n1_;have GW221:=n2_;have GE221:=n3_;clear n0_ n1_ n2_ n3_;clear hb hbox hg)|((with_reducible refine gate_dst (N:=3) rfl ?_);refine box_event ?hg (N:=3) ?hd (cs:=#[.int .i64 a1_0,.int .i64 a1_1,.slice A1_2 l1_2.length c1_2]) (t:=27) ?hr ?_;(case hd=>rfl);(case hg=>rfl);(case hr=>first|(go_simp;done)|(go_simp;rfl));intro gb222 hg w29 hbox hb;have n0_:=aK (bB (bX BK221.out) hb);have n1_:=aK (below_step (bW HB.out) hb);have n2_:=aK (hbox);have n3_:=aK ((by rw [hg];exact (below_size (bW HB.out)) : w.heap.size ≤ gb222));have n4_:=aK ((by rw [hg];exact (below_size (bW HB.out)) : w.heap.size ≤ gb222));have n5_:=aK ((by rw [hg];exact Nat.ne_of_lt (blk_lt (bX BK221.out)) : gb221 ≠ gb222));have n6_:=aK ((by rw [hg];exact Nat.ne_of_gt (blk_lt (bX BK221.out)) : gb222 ≠ gb221));clear BK221;clear HB;have BK221:=n0_;have HB:=n1_;have BK222:=n2_;have GW222:=n3_;have GE222:=n4_;have NB221_222:=n5_;have NB222_221:=n6_;clear n0_ n1_ n2_ n3_ n4_ n5_ n6_;clear hb hbox hg))
     have n0_:=aK (bD BK221.out)
     have n1_:=aK (bD BK222.out)
     have n2_:=aK (b1 HB.out)
     clear BK221
     clear BK222
     clear HB
     have BK221:=n0_
     have BK222:=n1_
     have HB:=n2_
     clear n0_ n1_ n2_
     refine start_ (n:=6) (S:=fun w'=>w'.cell? ⟨gb221,0,none⟩ = some (.slice A0_0 l0_0.length c0_0) ∧ w'.cell? ⟨gb222,0,none⟩ = some (.int .i64 a1_0) ∧ w'.cell? ⟨gb222,1,none⟩ = some (.int .i64 a1_1) ∧ w'.cell? ⟨gb222,2,none⟩ = some (.slice A1_2 l1_2.length c1_2)) (ds:=[]) #[false,false,false,false,false,false] (by kernel_rfl) rfl rfl ⟨(bC BK221.out 0).trans rfl,(bC BK222.out 0).trans rfl,(bC BK222.out 1).trans rfl,(bC BK222.out 2).trans rfl⟩ (fun hHeld=>?_)
     generalize w29.drew = w30 at BK221 BK222 HB hHeld ⊢
     refine take_ (i:=0) (N:=some 8) (v:=?_) (a':=?_) #[true,false,false,false,false,false] rfl rfl (by kernel_rfl) (fun _ _ _ h=>h) (Or.inl ⟨by rfl,?_⟩) hHeld ?_ ?_
     rotate_left
     ·rintro w' ⟨s0,s1,s2,s3⟩
      go_simp
      with_reducible rfl
     rotate_left
     ·simp only [Act.put,lA,l0',lS,i64_w,i32_w]
      rfl
     refine take_ (i:=1) (N:=some 9) (v:=?_) (a':=?_) #[true,true,false,false,false,false] rfl rfl (by kernel_rfl) (fun _ _ _ h=>h) (Or.inl ⟨by rfl,?_⟩) hHeld ?_ ?_
     rotate_left
     ·rintro w' ⟨s0,s1,s2,s3⟩
      go_simp
      with_reducible rfl
     rotate_left
     ·simp only [Act.put,lA,l0',lS,i64_w,i32_w]
      rfl
     refine take_ (i:=2) (N:=some 10) (v:=?_) (a':=?_) #[true,true,true,false,false,false] rfl rfl (by kernel_rfl) (fun _ _ _ h=>h) (Or.inl ⟨by rfl,?_⟩) hHeld ?_ ?_
     rotate_left
     ·rintro w' ⟨s0,s1,s2,s3⟩
      go_simp
      with_reducible rfl
     rotate_left
     ·simp only [Act.put,lA,l0',lS,i64_w,i32_w]
      rfl
     refine one_ (i:=3) (N:=some 11) #[true,true,true,true,false,false] rfl rfl (by kernel_rfl) (by decide) (fun K hK=>?_)
     refine goes_ Try.func103 (by kernel_rfl) rfl #[.agg #[.int .i64 a1_0,.int .i64 a1_1,.slice A1_2 l1_2.length c1_2]] (by rfl) rfl rfl (by (try simp only [mA,mC,mN]);first|done|rfl) ?_
     with_reducible refine (spec_l08Turn.calls k a1_0 a1_1 _ _ l1_2 t223 _ ?side1 ?side2 A3.out).mono ?_
     (case side1=>repeat (first|exact (Kd.C_below HR1_2.out HB.out)|(with_reducible refine Kd.C_alloc ?_ _)|(with_reducible refine Kd.C_drewN ?_ _)|(with_reducible refine Kd.C_drew ?_)))
     (case side2=>exact HC1_2.out)
     rintro e w31 ⟨rfl,hb⟩
     refine ⟨_,rfl,?_⟩
     have n0_:=aK (bB (bX BK221.out) hb)
     have n1_:=aK (bB (bX BK222.out) hb)
     have n2_:=aK (below_step (bW HB.out) hb)
     clear BK221
     clear BK222
     clear HB
     have BK221:=n0_
     have BK222:=n1_
     have HB:=n2_
     clear n0_ n1_ n2_
     (try clear hb)
     (try clear hb2)
     (try clear hk)
     (try clear hi)
     refine hK.out _ _ ⟨(bC BK221.out 0).trans rfl,(bC BK222.out 0).trans rfl,(bC BK222.out 1).trans rfl,(bC BK222.out 2).trans rfl⟩ (fun hHeld=>?_)
     clear hK K
     refine norm_ (a':=?_) ?_ ?_
     rotate_left
     ·show Act.put _ (some 11) _ = _
      simp only [Act.put,lA,l0',lS,i64_w,i32_w]
      rfl
     refine one_ (i:=4) (N:=some 12) #[true,true,true,true,true,false] rfl rfl (by kernel_rfl) (by decide) (fun K hK=>?_)
     refine goes_ Try.func120 (by kernel_rfl) rfl #[.agg #[.slice A0_0 l0_0.length c0_0],.agg #[.int .i64 a1_0,.int .i64 a1_1,.slice A1_2 l1_2.length c1_2],.int .i64 t223] (by rfl) rfl rfl (by (try simp only [mA,mC,mN]);first|done|rfl) ?_
     with_reducible refine (spec_l08Left.calls k _ _ l0_0 a1_0 a1_1 _ _ l1_2 t223 t224 _ ?side1 ?side2 ?side3 ?side4 A4.out).mono ?_
     (case side1=>repeat (first|exact (Kd.C_below HR0_0.out HB.out)|(with_reducible refine Kd.C_alloc ?_ _)|(with_reducible refine Kd.C_drewN ?_ _)|(with_reducible refine Kd.C_drew ?_)))
     (case side2=>exact HC0_0.out)
     (case side3=>repeat (first|exact (Kd.C_below HR1_2.out HB.out)|(with_reducible refine Kd.C_alloc ?_ _)|(with_reducible refine Kd.C_drewN ?_ _)|(with_reducible refine Kd.C_drew ?_)))
     (case side4=>exact HC1_2.out)
     rintro e w32 ⟨v225,rfl,ho0,hb⟩
     refine ⟨_,rfl,?_⟩
     have n0_:=aK (Kd.R_lower ho0 (below_size (bW HB.out)))
     have n1_:=aK (bB (bX BK221.out) hb)
     have n2_:=aK (bB (bX BK222.out) hb)
     have n3_:=aK (below_step (bW HB.out) hb)
     clear BK221
     clear BK222
     clear HB
     have HO226:=n0_
     have BK221:=n1_
     have BK222:=n2_
     have HB:=n3_
     clear n0_ n1_ n2_ n3_
     (try clear hb)
     (try clear hb2)
     (try clear hk)
     (try clear hi)
     (try clear ho0)
     refine hK.out _ _ ⟨(bC BK221.out 0).trans rfl,(bC BK222.out 0).trans rfl,(bC BK222.out 1).trans rfl,(bC BK222.out 2).trans rfl⟩ (fun hHeld=>?_)
     clear hK K
     refine norm_ (a':=?_) ?_ ?_
     rotate_left
     ·show Act.put _ (some 12) _ = _
      simp only [Act.put,lA,l0',lS,i64_w,i32_w]
      rfl
     refine pure_ (i:=5) (N:=some 5) (v:=?_) (a':=?_) #[true,true,true,true,true,true] rfl rfl (by kernel_rfl) (fun _ _ _ h=>h) (Or.inl ⟨by rfl,?_⟩) ?_ ?_
     rotate_left
     ·intro w'
      go_simp
      with_reducible rfl
     rotate_left
     ·simp only [Act.put,lA,l0',lS,i64_w,i32_w]
      rfl
     refine done_ (by kernel_rfl) ?_
     have hnb33:=NB222_221.out
     have hnc33:=NB221_222.out
     have hcz34_0 : w32.cell? ⟨gb222,0,none⟩ = some (.int .i64 a1_0):=(bC BK222.out 0).trans rfl
     have hcz34_1 : w32.cell? ⟨gb222,1,none⟩ = some (.int .i64 a1_1):=(bC BK222.out 1).trans rfl
     have hcz34_2 : w32.cell? ⟨gb222,2,none⟩ = some (.slice A1_2 l1_2.length c1_2):=(bC BK222.out 2).trans rfl
     have hfz34_0:=blk_frozen BK222.out 0
     have hfz34_1:=blk_frozen BK222.out 1
     have hfz34_2:=blk_frozen BK222.out 2
     have p227 : 0 ≤ ((ji13) : Int):=of_decide_eq_true (by first|(with_reducible assumption)|assumption)
     have q227 : (ji13) < (l1_2.length : Int):=of_decide_eq_true (by first|(with_reducible assumption)|assumption)
     obtain ⟨ad227,e227,hx227_0⟩:=Kd.at_int HR1_2.out (ji13) p227 q227
     cases e227
     replace hx227_0:=(HB.out.cell (World.block_lt_of_cell? w _ hx227_0)).trans hx227_0
     replace p227:=eq_true p227
     replace q227:=eq_true q227
     obtain ⟨Ao35,co35,eo35⟩:=Kd.R_slice HO226.out
     subst eo35
     try go_wp2_with (first|((with_reducible refine gate_callee (f:=146) rfl ?_);refine goesL_ (some 31) rfl rfl Try.func146 (by kernel_rfl) rfl #[.slice Ao35 t224.length co35,.int .i64 (wrap64 (Int.tdiv (rd l1_2 (ji13)) 13))] rfl (by (try simp only [List.map_toArray,List.map_cons,List.map_nil]);first|done|(simp only [hji13];rfl)|rfl|(simp only [List.length_drop,List.length_take];rfl)) ?_;(with_reducible refine (spec_l01Suit.calls k _ _ t224 (wrap64 (Int.tdiv (rd l1_2 (ji13)) 13)) t228 _ ?side1 ?side2 A16.out).mono ?_);(case side1=>repeat (first|exact (Kd.R_reads' HO226.out).2.2|(with_reducible refine Kd.C_alloc ?_ _)|(with_reducible refine Kd.C_drewN ?_ _)|(with_reducible refine Kd.C_drew ?_)));(case side2=>exact (Kd.R_reads' HO226.out).2.1);rintro e w36 ⟨v229,rfl,ho0,hb⟩;refine ⟨_,rfl,?_⟩;have n0_:=aK (Kd.R_elder' (rX HO226.out) (Kd.R_base ho0) hb);have n1_:=aK (Kd.R_lower (Kd.R_new' ho0 (Kd.R_lt (rX HO226.out))) (below_size (bW HB.out)));have n2_:=aK (bB (bX BK221.out) hb);have n3_:=aK (bB (bX BK222.out) hb);have n4_:=aK (below_step (bW HB.out) hb);clear HO226;clear BK221;clear BK222;clear HB;have HO226:=n0_;have HO230:=n1_;have BK221:=n2_;have BK222:=n3_;have HB:=n4_;clear n0_ n1_ n2_ n3_ n4_;(try clear hb);(try clear hb2);(try clear hk);(try clear hi);(try clear ho0);obtain ⟨Ao37,co37,eo37⟩:=Kd.R_slice HO230.out;subst eo37))
     go_ret
     exact ⟨_,by first|rfl|(simp [errW_none,errW_some] <;> rfl)|(simp only [← hji13];first|rfl|(simp [errW_none,errW_some] <;> rfl))|(simp [*,errW_none,errW_some] <;> rfl),by (with_reducible repeat first|apply Kd.R_alloc|apply Kd.R_drewN|apply Kd.R_drew);exact Kd.R_mono HO226.out (fun _ hk=>trivial),bW HB.out⟩
   ·rw [if_neg c15] at H
    exact absurd H (by simp)
  ·rw [if_neg c14] at H
   exact absurd H (by simp)

end Go.Proofs.Ytakepkjcmgcepaa.QFnExactIsClaim
