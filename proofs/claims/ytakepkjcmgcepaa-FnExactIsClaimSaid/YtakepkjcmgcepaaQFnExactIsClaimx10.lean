/- The functions that the law FnExactIsClaim reaches, as plain functions, and the walks that show that the machine's calls answer so. Written by a program of this session (wip/myprint.py) on the kit's print. -/
import Derived.Test.YtakepkjcmgcepaaQFnExactIsClaimx0
import Derived.Test.YtakepkjcmgcepaaQFnExactIsClaimx7
import Derived.Test.YtakepkjcmgcepaaQFnExactIsClaimx8
import Derived.Test.YtakepkjcmgcepaaQFnExactIsClaimx9
namespace Go.Proofs.Ytakepkjcmgcepaa.QFnExactIsClaim
open Go.RowKit Go.Proofs.YtakepkjcmgcepaaW.PrintWords Go.Proofs.YtakepkjcmgcepaaW.PrintLast Go.Proofs.YtakepkjcmgcepaaW.PrintMore
attribute [local go_sem] max2_int min2_int max_two min_two max_three min_three max_four min_four   -- for this text's walks alone
set_option linter.unusedVariables false
set_option linter.unusedSimpArgs false

/-! ### impl_recordOf: function 106 -/
mutual
def impl_recordOf.j0 : Nat → Bool → List (List Int) → Int → Int → List Int → Bool → Bool → Option ((List (List Int)) × List Int × Bool × Bool)
 | 0,_,_,_,_,_,_,_=>none
 | k + 1,x18,x306000,x307000,x307001,x307002,x309002,x309003=>if x18 = true then (some (([] : List (List Int)),([] : List Int),x309002,x309003)) else ((impl_leaders.f k x307000 x307001 x307002).bind fun t311=>((slices_Clone_int64_int64_144.f x306000).bind fun t314=>(impl_recordOf.l0 k x307002 (x307002.length : Int) 0 x307000 x307001 x307002 t314 t311 true true)))
def impl_recordOf.l0 : Nat → List Int → Int → Int → Int → Int → List Int → List (List Int) → List Int → Bool → Bool → Option ((List (List Int)) × List Int × Bool × Bool)
 | 0,_,_,_,_,_,_,_,_,_,_=>none
 | k + 1,x30,x31,x32,x307000,x307001,x307002,x309000,x309001,x309002,x309003=>if x32 < x31 then (if 0 ≤ x32 then (if x32 < (x30.length : Int) then ((impl_seatOf.f x309001 x32).bind fun t318=>(if 0 ≤ t318 then (if t318 < (x309000.length : Int) then ((slices_Contains_int64_int64.f k (rd_L1 x309000 t318) (rd x30 x32)).bind fun t320=>(if t320 = true then (if x309003 = true then (if x32 ≤ (x307002.length : Int) then ((impl_trickAt.f (x307002.take (x32 : Int).toNat)).bind fun t326=>((impl_follow.f k (rd_L1 x309000 t318) t326).bind fun t329=>((slices_Contains_int64_int64.f k t329 (rd x30 x32)).bind fun t332=>((impl_without.f (rd_L1 x309000 t318) (rd x30 x32)).bind fun t333=>(impl_recordOf.l0 k x30 x31 (wrap64 (x32 + 1)) x307000 x307001 x307002 (x309000.set (t318 : Int).toNat t333) x309001 x309002 t332))))) else (none)) else ((impl_without.f (rd_L1 x309000 t318) (rd x30 x32)).bind fun t337=>(impl_recordOf.l0 k x30 x31 (wrap64 (x32 + 1)) x307000 x307001 x307002 (x309000.set (t318 : Int).toNat t337) x309001 x309002 false))) else (some (([] : List (List Int)),([] : List Int),false,false)))) else (none)) else (none))) else (none)) else (none)) else (some (x309000,x309001,x309002,x309003))
end
def impl_recordOf.f (k : Nat) (l0_0 : List (List Int)) (a1_0 : Int) (a1_1 : Int) (l1_2 : List Int) : Option ((List (List Int)) × List Int × Bool × Bool) := (impl_IsDeal.f l0_0).bind fun t309 => (if t309 = true then ((impl_IsPlainPlay.f a1_0 a1_1 l1_2).bind fun t310 => (impl_recordOf.j0 k (!t310) l0_0 a1_0 a1_1 l1_2 false false)) else (impl_recordOf.j0 k true l0_0 a1_0 a1_1 l1_2 false false))
theorem impl_recordOf.mono_l : ∀ k, (∀ y0 y1 y2 y3 y4 y5 y6, LeO (impl_recordOf.j0 k y0 y1 y2 y3 y4 y5 y6) (impl_recordOf.j0 (k + 1) y0 y1 y2 y3 y4 y5 y6)) ∧ (∀ y0 y1 y2 y3 y4 y5 y6 y7 y8 y9, LeO (impl_recordOf.l0 k y0 y1 y2 y3 y4 y5 y6 y7 y8 y9) (impl_recordOf.l0 (k + 1) y0 y1 y2 y3 y4 y5 y6 y7 y8 y9))
 | 0=>⟨fun _ _ _ _ _ _ _ r h=>by simp [impl_recordOf.j0] at h,fun _ _ _ _ _ _ _ _ _ _ r h=>by simp [impl_recordOf.l0] at h⟩
 | k + 1=>by
  obtain ⟨ih0,ih1⟩:=impl_recordOf.mono_l k
  refine ⟨?_,?_⟩
  ·intro y0 y1 y2 y3 y4 y5 y6
   unfold impl_recordOf.j0
   repeat' first
   | (with_reducible exact ih0 _ _ _ _ _ _ _)
   | (with_reducible exact ih1 _ _ _ _ _ _ _ _ _ _)
   | (with_reducible exact impl_follow.mono _ _ _)
   | (with_reducible exact impl_leaders.mono _ _ _ _)
   | (with_reducible exact slices_Contains_int64_int64.mono _ _ _)
   | (with_reducible exact LeO.refl _)
   | (with_reducible exact LeO.none _)
   | (with_reducible refine LeO.ite ?_ ?_)
   | (with_reducible refine LeO.bind ?_ (fun _=>?_))
   | exact ih0 _ _ _ _ _ _ _
   | exact ih1 _ _ _ _ _ _ _ _ _ _
   | exact impl_follow.mono _ _ _
   | exact impl_leaders.mono _ _ _ _
   | exact slices_Contains_int64_int64.mono _ _ _
   | exact LeO.none _
   | refine LeO.ite ?_ ?_
   | refine LeO.bind ?_ (fun _=>?_)
  ·intro y0 y1 y2 y3 y4 y5 y6 y7 y8 y9
   unfold impl_recordOf.l0
   repeat' first
   | (with_reducible exact ih0 _ _ _ _ _ _ _)
   | (with_reducible exact ih1 _ _ _ _ _ _ _ _ _ _)
   | (with_reducible exact impl_follow.mono _ _ _)
   | (with_reducible exact impl_leaders.mono _ _ _ _)
   | (with_reducible exact slices_Contains_int64_int64.mono _ _ _)
   | (with_reducible exact LeO.refl _)
   | (with_reducible exact LeO.none _)
   | (with_reducible refine LeO.ite ?_ ?_)
   | (with_reducible refine LeO.bind ?_ (fun _=>?_))
   | exact ih0 _ _ _ _ _ _ _
   | exact ih1 _ _ _ _ _ _ _ _ _ _
   | exact impl_follow.mono _ _ _
   | exact impl_leaders.mono _ _ _ _
   | exact slices_Contains_int64_int64.mono _ _ _
   | exact LeO.none _
   | refine LeO.ite ?_ ?_
   | refine LeO.bind ?_ (fun _=>?_)
theorem impl_recordOf.mono : ∀ a0 a1 a2 a3 k, LeO (impl_recordOf.f k a0 a1 a2 a3) (impl_recordOf.f (k + 1) a0 a1 a2 a3) := by
 intro a0 a1 a2 a3 k
 obtain ⟨ih0,ih1⟩:=impl_recordOf.mono_l k
 unfold impl_recordOf.f
 repeat' first
   | (with_reducible exact ih0 _ _ _ _ _ _ _)
   | (with_reducible exact ih1 _ _ _ _ _ _ _ _ _ _)
   | (with_reducible exact impl_follow.mono _ _ _)
   | (with_reducible exact impl_leaders.mono _ _ _ _)
   | (with_reducible exact slices_Contains_int64_int64.mono _ _ _)
   | (with_reducible exact LeO.refl _)
   | (with_reducible exact LeO.none _)
   | (with_reducible refine LeO.ite ?_ ?_)
   | (with_reducible refine LeO.bind ?_ (fun _=>?_))
   | exact ih0 _ _ _ _ _ _ _
   | exact ih1 _ _ _ _ _ _ _ _ _ _
   | exact impl_follow.mono _ _ _
   | exact impl_leaders.mono _ _ _ _
   | exact slices_Contains_int64_int64.mono _ _ _
   | exact LeO.none _
   | refine LeO.ite ?_ ?_
   | refine LeO.bind ?_ (fun _=>?_)
def impl_recordOf.T4 : Bool × List (List Nat × List Nat) := (true, [([], []), ([0], [0]), ([], []), ([2], [2]), ([3, 1], [3]), ([0, 1], []), ([5, 1, 4, 0, 1], [1, 5]), ([0, 1, 2, 3, 4, 5, 6], []), ([7, 4, 6, 0, 1, 2, 3, 4, 5, 6], [4, 7]), ([0, 1, 2, 3, 4, 5, 6, 7, 8], []), ([9, 8, 0, 1, 2, 3, 4, 5, 6, 7, 8], [9]), ([0, 1, 2, 3, 4, 5, 6, 7, 8, 9, 10], []), ([11, 10, 0, 1, 2, 3, 4, 5, 6, 7, 8, 9, 10], [11])])
def impl_recordOf.B4 : List Nat := [0, 1, 0, 4, 15, 3, 63, 127, 255, 511, 1023, 2047, 4095]
theorem impl_recordOf.tab4 : rtab .any (opsOf Try.f106 4) = impl_recordOf.T4 := by kernel_rfl
theorem impl_recordOf.bits4 : waitsOk impl_recordOf.T4.2 impl_recordOf.B4 = true := by kernel_rfl
def impl_recordOf.T13 : Bool × List (List Nat × List Nat) := (true, [([], []), ([0], [0]), ([], []), ([], []), ([], []), ([3, 4], [3, 4]), ([1, 2, 0, 1, 2, 3, 4, 5], [1, 2]), ([6, 5, 5, 0, 1, 2, 3, 4, 5], [5, 6])])
def impl_recordOf.B13 : List Nat := [0, 1, 0, 0, 0, 24, 63, 127]
theorem impl_recordOf.tab13 : rtab .any (opsOf Try.f106 13) = impl_recordOf.T13 := by kernel_rfl
theorem impl_recordOf.bits13 : waitsOk impl_recordOf.T13.2 impl_recordOf.B13 = true := by kernel_rfl
set_option maxHeartbeats 8000000 in
set_option maxRecDepth 100000 in
theorem impl_recordOf.calls (k : Nat) (P0_0_ : Nat → Prop) (A0_0 : Option Addr) (c0_0 : Nat) (l0_0 : List (List Int)) (a1_0 : Int) (a1_1 : Int) (P1_2_ : Nat → Prop) (A1_2 : Option Addr) (c1_2 : Nat) (l1_2 : List Int) (r1 : List (List Int)) (r2 : List Int) (r3 : Bool) (r4 : Bool) (w : World) (hs0_0 : Kd.V (Kd.slice 2 (Kd.int .i64)) 22 w w.heap.size (fun k_ => P0_0_ k_) (.slice A0_0 l0_0.length c0_0) l0_0) (hs1_2 : Kd.V (Kd.int .i64) 2 w w.heap.size (fun k_ => P1_2_ k_) (.slice A1_2 l1_2.length c1_2) l1_2) (h : impl_recordOf.f k l0_0 a1_0 a1_1 l1_2 = some (r1, r2, r3, r4)) :
  Calls Try.prog 106 #[.agg #[.slice A0_0 l0_0.length c0_0],.agg #[.int .i64 a1_0,.int .i64 a1_1,.slice A1_2 l1_2.length c1_2]] w fun e w'=>∃ v0_ v1_ : Value,e = .returned (.agg #[v0_,v1_,.bool r3,.bool r4]) ∧ Kd.N (Kd.slice 2 (Kd.int .i64)) 22 w' w.heap.size (fun k_=>((P0_0_ k_ ∨ P1_2_ k_) ∨ w.heap.size ≤ k_) ∧ some k_ ≠ (v1_ : Value).ownBlock) v0_ r1 ∧ Kd.R (Kd.int .i64) 2 w' w.heap.size (fun k_=>(w.heap.size ≤ k_)) v1_ r2 ∧ Below w.heap.size w w':=by
 have hu44:=Try.underlying44
 have hu27:=Try.underlying27
 have hu92:=Try.underlying92
 have HO0_0:=aK (show Kd.V (Kd.slice 2 (Kd.int .i64)) 22 w w.heap.size (fun k_=>((P0_0_ k_ ∨ P1_2_ k_) ∨ w.heap.size ≤ k_)) (.slice A0_0 l0_0.length c0_0) l0_0 from Kd.V_mono hs0_0 (fun k_ hk=>.inl (.inl hk)))
 have HO1_2:=aK (show Kd.V (Kd.int .i64) 2 w w.heap.size (fun k_=>((P0_0_ k_ ∨ P1_2_ k_) ∨ w.heap.size ≤ k_)) (.slice A1_2 l1_2.length c1_2) l1_2 from Kd.V_mono hs1_2 (fun k_ hk=>.inl (.inr hk)))
 have HB:=aK (Below.refl w.heap.size w)
 have H : ((impl_IsDeal.f l0_0).bind fun t309=>(if t309 = true then ((impl_IsPlainPlay.f a1_0 a1_1 l1_2).bind fun t310=>(impl_recordOf.j0 k (!t310) l0_0 a1_0 a1_1 l1_2 false false)) else (impl_recordOf.j0 k true l0_0 a1_0 a1_1 l1_2 false false))) = some (r1,r2,r3,r4):=h
 clear h
 have HC3:=aK H
 clear H
 go_enter Try.func106,Try.ntmps106
 go_upto_region 2 with (first|((with_reducible refine gate_dst (N:=2) rfl ?_);refine box_event ?hg (N:=2) ?hd (cs:=#[.slice A0_0 l0_0.length c0_0]) (t:=44) ?hr ?_;(case hd=>rfl);(case hg=>rfl);(case hr=>first|(go_simp;done)|(go_simp;rfl));intro gb305 hg w4 hbox hb;have n0_:=aK (Kd.V_below (Kd.V_elderB (vX HO0_0.out) gb305 (Nat.le_of_eq hg.symm)) hb);have n1_:=aK (Kd.V_below (Kd.V_elderB (vX HO1_2.out) gb305 (Nat.le_of_eq hg.symm)) hb);have n2_:=aK (below_step (bW HB.out) hb);have n3_:=aK (hbox);have n4_:=aK ((by rw [hg];exact (below_size (bW HB.out)) : w.heap.size ≤ gb305));have n5_:=aK ((by rw [hg];exact (below_size (bW HB.out)) : w.heap.size ≤ gb305));clear HO0_0;clear HO1_2;clear HB;have HO0_0:=n0_;have HO1_2:=n1_;have HB:=n2_;have BK305:=n3_;have GW305:=n4_;have GE305:=n5_;clear n0_ n1_ n2_ n3_ n4_ n5_;clear hb hbox hg)|((with_reducible refine gate_dst (N:=3) rfl ?_);refine box_event ?hg (N:=3) ?hd (cs:=#[.int .i64 a1_0,.int .i64 a1_1,.slice A1_2 l1_2.length c1_2]) (t:=27) ?hr ?_;(case hd=>rfl);(case hg=>rfl);(case hr=>first|(go_simp;done)|(go_simp;rfl));intro gb306 hg w5 hbox hb;have n0_:=aK (Kd.V_below (Kd.V_elderB (vX HO0_0.out) gb306 (Nat.le_of_eq hg.symm)) hb);have n1_:=aK (Kd.V_below (Kd.V_elderB (vX HO1_2.out) gb306 (Nat.le_of_eq hg.symm)) hb);have n2_:=aK (bB (bX BK305.out) hb);have n3_:=aK (below_step (bW HB.out) hb);have n4_:=aK (hbox);have n5_:=aK ((by rw [hg];exact (below_size (bW HB.out)) : w.heap.size ≤ gb306));have n6_:=aK ((by rw [hg];exact (below_size (bW HB.out)) : w.heap.size ≤ gb306));have n7_:=aK ((by rw [hg];exact Nat.ne_of_lt (blk_lt (bX BK305.out)) : gb305 ≠ gb306));have n8_:=aK ((by rw [hg];exact Nat.ne_of_gt (blk_lt (bX BK305.out)) : gb306 ≠ gb305));clear HO0_0;clear HO1_2;clear BK305;clear HB;have HO0_0:=n0_;have HO1_2:=n1_;have BK305:=n2_;have HB:=n3_;have BK306:=n4_;have GW306:=n5_;have GE306:=n6_;have NB305_306:=n7_;have NB306_305:=n8_;clear n0_ n1_ n2_ n3_ n4_ n5_ n6_ n7_ n8_;clear hb hbox hg)|((with_reducible refine gate_dst (N:=4) rfl ?_);refine box_event ?hg (N:=4) ?hd (cs:=#[.slice none 0 0,.slice none 0 0,.bool false,.bool false]) (t:=92) ?hr ?_;(case hd=>rfl);(case hg=>rfl);(case hr=>first|(go_simp;done)|(go_simp;rfl));intro gb307 hg w6 hbox hb;have n0_:=aK (Kd.V_below (Kd.V_elderB (vX HO0_0.out) gb307 (Nat.le_of_eq hg.symm)) hb);have n1_:=aK (Kd.V_below (Kd.V_elderB (vX HO1_2.out) gb307 (Nat.le_of_eq hg.symm)) hb);have n2_:=aK (bB (bX BK305.out) hb);have n3_:=aK (bB (bX BK306.out) hb);have n4_:=aK (below_step (bW HB.out) hb);have n5_:=aK (hbox);have n6_:=aK ((by rw [hg];exact (below_size (bW HB.out)) : w.heap.size ≤ gb307));have n7_:=aK ((by rw [hg];exact (below_size (bW HB.out)) : w.heap.size ≤ gb307));have n8_:=aK ((by rw [hg];exact Nat.ne_of_lt (blk_lt (bX BK305.out)) : gb305 ≠ gb307));have n9_:=aK ((by rw [hg];exact Nat.ne_of_gt (blk_lt (bX BK305.out)) : gb307 ≠ gb305));have n10_:=aK ((by rw [hg];exact Nat.ne_of_lt (blk_lt (bX BK306.out)) : gb306 ≠ gb307));have n11_:=aK ((by rw [hg];exact Nat.ne_of_gt (blk_lt (bX BK306.out)) : gb307 ≠ gb306));clear HO0_0;clear HO1_2;clear BK305;clear BK306;clear HB;have HO0_0:=n0_;have HO1_2:=n1_;have BK305:=n2_;have BK306:=n3_;have HB:=n4_;have BK307:=n5_;have GW307:=n6_;have GE307:=n7_;have NB305_307:=n8_;have NB307_305:=n9_;have NB306_307:=n10_;have NB307_306:=n11_;clear n0_ n1_ n2_ n3_ n4_ n5_ n6_ n7_ n8_ n9_ n10_ n11_;clear hb hbox hg)|((with_reducible refine gate_dst (N:=5) rfl ?_);refine box_event ?hg (N:=5) ?hd (cs:=#[.slice none 0 0,.slice none 0 0,.bool false,.bool false]) (t:=92) ?hr ?_;(case hd=>rfl);(case hg=>rfl);(case hr=>first|(go_simp;done)|(go_simp;rfl));intro gb308 hg w7 hbox hb;have n0_:=aK (Kd.V_below (Kd.V_elderB (vX HO0_0.out) gb308 (Nat.le_of_eq hg.symm)) hb);have n1_:=aK (Kd.V_below (Kd.V_elderB (vX HO1_2.out) gb308 (Nat.le_of_eq hg.symm)) hb);have n2_:=aK (bB (bX BK305.out) hb);have n3_:=aK (bB (bX BK306.out) hb);have n4_:=aK (bB (bX BK307.out) hb);have n5_:=aK (below_step (bW HB.out) hb);have n6_:=aK (hbox);have n7_:=aK ((by rw [hg];exact (below_size (bW HB.out)) : w.heap.size ≤ gb308));have n8_:=aK ((by rw [hg];exact (below_size (bW HB.out)) : w.heap.size ≤ gb308));have n9_:=aK ((by rw [hg];exact Nat.ne_of_lt (blk_lt (bX BK305.out)) : gb305 ≠ gb308));have n10_:=aK ((by rw [hg];exact Nat.ne_of_gt (blk_lt (bX BK305.out)) : gb308 ≠ gb305));have n11_:=aK ((by rw [hg];exact Nat.ne_of_lt (blk_lt (bX BK306.out)) : gb306 ≠ gb308));have n12_:=aK ((by rw [hg];exact Nat.ne_of_gt (blk_lt (bX BK306.out)) : gb308 ≠ gb306));have n13_:=aK ((by rw [hg];exact Nat.ne_of_lt (blk_lt (bX BK307.out)) : gb307 ≠ gb308));have n14_:=aK ((by rw [hg];exact Nat.ne_of_gt (blk_lt (bX BK307.out)) : gb308 ≠ gb307));clear HO0_0;clear HO1_2;clear BK305;clear BK306;clear BK307;clear HB;have HO0_0:=n0_;have HO1_2:=n1_;have BK305:=n2_;have BK306:=n3_;have BK307:=n4_;have HB:=n5_;have BK308:=n6_;have GW308:=n7_;have GE308:=n8_;have NB305_308:=n9_;have NB308_305:=n10_;have NB306_308:=n11_;have NB308_306:=n12_;have NB307_308:=n13_;have NB308_307:=n14_;clear n0_ n1_ n2_ n3_ n4_ n5_ n6_ n7_ n8_ n9_ n10_ n11_ n12_ n13_ n14_;clear hb hbox hg;have hnb8:=NB308_305.out;have hnc8:=NB305_308.out;have hnb9:=NB308_306.out;have hnc9:=NB306_308.out;have hnb10:=NB308_307.out;have hnc10:=NB307_308.out;have hcz11_0 : w7.cell? ⟨gb308,0,none⟩ = some (.slice none 0 0):=(bC BK308.out 0).trans rfl;have hcz11_1 : w7.cell? ⟨gb308,1,none⟩ = some (.slice none 0 0):=(bC BK308.out 1).trans rfl;have hcz11_2 : w7.cell? ⟨gb308,2,none⟩ = some (.bool false):=(bC BK308.out 2).trans rfl;have hcz11_3 : w7.cell? ⟨gb308,3,none⟩ = some (.bool false):=(bC BK308.out 3).trans rfl;have hfz11_0:=blk_frozen BK308.out 0;have hfz11_1:=blk_frozen BK308.out 1;have hfz11_2:=blk_frozen BK308.out 2;have hfz11_3:=blk_frozen BK308.out 3))
 (try simp only [Act.put,lA,l0',lS])
 go_cut [18] (fun v18 wc=>∃ (kq : Nat) (x18_2 : Bool),v18 = .bool x18_2 ∧ Aside0 (impl_recordOf.j0 kq x18_2 l0_0 a1_0 a1_1 l1_2 false false = some (r1,r2,r3,r4)) ∧ Aside0 (kq ≤ k) ∧ Aside0 (Kd.V (Kd.slice 2 (Kd.int .i64)) 22 wc w.heap.size (fun k_=>((P0_0_ k_ ∨ P1_2_ k_) ∨ w.heap.size ≤ k_) ∧ k_ ≠ gb305 ∧ k_ ≠ gb306 ∧ k_ ≠ gb307 ∧ k_ ≠ gb308) (.slice A0_0 l0_0.length c0_0) l0_0) ∧ Aside0 (Kd.V (Kd.int .i64) 2 wc w.heap.size (fun k_=>((P0_0_ k_ ∨ P1_2_ k_) ∨ w.heap.size ≤ k_) ∧ k_ ≠ gb305 ∧ k_ ≠ gb306 ∧ k_ ≠ gb307 ∧ k_ ≠ gb308) (.slice A1_2 l1_2.length c1_2) l1_2) ∧ Aside0 (wc.heap[gb305]? = some (.cells #[(.slice A0_0 l0_0.length c0_0)] 44 (0,0))) ∧ Aside0 (wc.heap[gb306]? = some (.cells #[.int .i64 a1_0,.int .i64 a1_1,(.slice A1_2 l1_2.length c1_2)] 27 (0,0))) ∧ Aside0 (wc.heap[gb307]? = some (.cells #[(.slice none 0 0),(.slice none 0 0),.bool false,.bool false] 92 (0,0))) ∧ Aside0 (wc.heap[gb308]? = some (.cells #[(.slice none 0 0),(.slice none 0 0),.bool false,.bool false] 92 (0,0))) ∧ Aside0 (Below w.heap.size w wc))
 case first =>
  have H:=HC3.out
  clear HC3
  replace H:=Option.bind_eq_some_iff.mp H
  obtain ⟨t309,A120,H⟩:=H
  replace H : (if t309 = true then ((impl_IsPlainPlay.f a1_0 a1_1 l1_2).bind fun t310=>(impl_recordOf.j0 k (!t310) l0_0 a1_0 a1_1 l1_2 false false)) else (impl_recordOf.j0 k true l0_0 a1_0 a1_1 l1_2 false false)) = some (r1,r2,r3,r4):=H
  have A12:=aK A120
  clear A120
  by_cases c13 : t309 = true
  ·subst c13
   have H1 : ((impl_IsPlainPlay.f a1_0 a1_1 l1_2).bind fun t310=>(impl_recordOf.j0 k (!t310) l0_0 a1_0 a1_1 l1_2 false false)) = some (r1,r2,r3,r4):=by rw [if_pos rfl] at H;exact H
   clear H
   have H:=H1
   clear H1
   replace H:=Option.bind_eq_some_iff.mp H
   obtain ⟨t310,A140,H⟩:=H
   replace H : (impl_recordOf.j0 k (!t310) l0_0 a1_0 a1_1 l1_2 false false) = some (r1,r2,r3,r4):=H
   have A14:=aK A140
   clear A140
   have H':=aK H
   clear H
   have hnb15:=NB305_306.out
   have hnc15:=NB306_305.out
   have hnb16:=NB305_307.out
   have hnc16:=NB307_305.out
   have hnb17:=NB305_308.out
   have hnc17:=NB308_305.out
   have hcz18_0 : w7.cell? ⟨gb305,0,none⟩ = some (.slice A0_0 l0_0.length c0_0):=(bC BK305.out 0).trans rfl
   have hfz18_0:=blk_frozen BK305.out 0
   go_wp2_with (first|((with_reducible refine gate_callee (f:=143) rfl ?_);refine goesL_ (some 12) rfl rfl Try.func143 (by kernel_rfl) rfl #[.agg #[.slice A0_0 l0_0.length c0_0]] rfl (by (try simp only [mA,mC,mN]);first|done|rfl) ?_;(with_reducible refine (impl_IsDeal.calls _ _ l0_0 true _ ?side1 ?side2 A12.out).mono ?_);(case side1=>refine (Kd.V_reads' (e:=22) (base:=w.heap.size) (ok:=fun k_=>((((((P0_0_ k_ ∨ P1_2_ k_) ∨ w.heap.size ≤ k_) ∧ k_ ≠ gb305) ∧ k_ ≠ gb306) ∧ k_ ≠ gb307) ∧ k_ ≠ gb308)) (n:=l0_0.length) (c:=c0_0) ?_).2.2;exact (by (with_reducible repeat first|apply Kd.V_alloc|apply Kd.V_drewN|apply Kd.V_drew);exact (Kd.V_mono (Kd.V_far (p:=⟨gb308,3,none⟩) (Kd.V_far (p:=⟨gb308,2,none⟩) (Kd.V_far (p:=⟨gb308,1,none⟩) (Kd.V_far (p:=⟨gb308,0,none⟩) (Kd.V_mono HO0_0.out (fun k_ hk=>(⟨hk,hk.2⟩ : _ ∧ k_ ≠ gb308))) (fun _ hk=>hk.2) (.slice none 0 0)) (fun _ hk=>hk.2) (.slice none 0 0)) (fun _ hk=>hk.2) (.bool false)) (fun _ hk=>hk.2) (.bool false)) (fun _ h_=>h_.1))));(case side2=>exact (Kd.V_reads' HO0_0.out).2.1);rintro e w19 ⟨rfl,hb⟩;refine ⟨_,rfl,?_⟩;have n0_:=aK (Kd.V_below (by (with_reducible repeat first|apply Kd.V_alloc|apply Kd.V_drewN|apply Kd.V_drew);exact (Kd.V_mono (Kd.V_far (p:=⟨gb308,3,none⟩) (Kd.V_far (p:=⟨gb308,2,none⟩) (Kd.V_far (p:=⟨gb308,1,none⟩) (Kd.V_far (p:=⟨gb308,0,none⟩) (Kd.V_mono HO0_0.out (fun k_ hk=>(⟨hk,hk.2⟩ : _ ∧ k_ ≠ gb308))) (fun _ hk=>hk.2) (.slice none 0 0)) (fun _ hk=>hk.2) (.slice none 0 0)) (fun _ hk=>hk.2) (.bool false)) (fun _ hk=>hk.2) (.bool false)) (fun _ h_=>h_.1))) hb);have n1_:=aK (Kd.V_below (by (with_reducible repeat first|apply Kd.V_alloc|apply Kd.V_drewN|apply Kd.V_drew);exact (Kd.V_mono (Kd.V_far (p:=⟨gb308,3,none⟩) (Kd.V_far (p:=⟨gb308,2,none⟩) (Kd.V_far (p:=⟨gb308,1,none⟩) (Kd.V_far (p:=⟨gb308,0,none⟩) (Kd.V_mono HO1_2.out (fun k_ hk=>(⟨hk,hk.2⟩ : _ ∧ k_ ≠ gb308))) (fun _ hk=>hk.2) (.slice none 0 0)) (fun _ hk=>hk.2) (.slice none 0 0)) (fun _ hk=>hk.2) (.bool false)) (fun _ hk=>hk.2) (.bool false)) (fun _ h_=>h_.1))) hb);have n2_:=aK (bB (g:=gb305) (o:=.cells #[.slice A0_0 l0_0.length c0_0] 44 (0,0)) (by (with_reducible repeat first|apply bN|apply bD|apply bA);refine blk_far ?_ NB305_308.out _;(with_reducible repeat first|apply bN|apply bD|apply bA);refine blk_far ?_ NB305_308.out _;(with_reducible repeat first|apply bN|apply bD|apply bA);refine blk_far ?_ NB305_308.out _;(with_reducible repeat first|apply bN|apply bD|apply bA);refine blk_far ?_ NB305_308.out _;(with_reducible repeat first|apply bN|apply bD|apply bA);exact BK305.out) hb);have n3_:=aK (bB (g:=gb306) (o:=.cells #[.int .i64 a1_0,.int .i64 a1_1,.slice A1_2 l1_2.length c1_2] 27 (0,0)) (by (with_reducible repeat first|apply bN|apply bD|apply bA);refine blk_far ?_ NB306_308.out _;(with_reducible repeat first|apply bN|apply bD|apply bA);refine blk_far ?_ NB306_308.out _;(with_reducible repeat first|apply bN|apply bD|apply bA);refine blk_far ?_ NB306_308.out _;(with_reducible repeat first|apply bN|apply bD|apply bA);refine blk_far ?_ NB306_308.out _;(with_reducible repeat first|apply bN|apply bD|apply bA);exact BK306.out) hb);have n4_:=aK (bB (g:=gb307) (o:=.cells #[.slice none 0 0,.slice none 0 0,.bool false,.bool false] 92 (0,0)) (by (with_reducible repeat first|apply bN|apply bD|apply bA);refine blk_far ?_ NB307_308.out _;(with_reducible repeat first|apply bN|apply bD|apply bA);refine blk_far ?_ NB307_308.out _;(with_reducible repeat first|apply bN|apply bD|apply bA);refine blk_far ?_ NB307_308.out _;(with_reducible repeat first|apply bN|apply bD|apply bA);refine blk_far ?_ NB307_308.out _;(with_reducible repeat first|apply bN|apply bD|apply bA);exact BK307.out) hb);have n5_:=aK (bB (g:=gb308) (o:=.cells #[.slice none 0 0,.slice none 0 0,.bool false,.bool false] 92 (0,0)) (by (with_reducible repeat first|apply bN|apply bD|apply bA);refine blk_put (cs:=#[.slice none 0 0,.slice none 0 0,.bool false,.bool false]) ?_ 3 _ rfl;(with_reducible repeat first|apply bN|apply bD|apply bA);refine blk_put (cs:=#[.slice none 0 0,.slice none 0 0,.bool false,.bool false]) ?_ 2 _ rfl;(with_reducible repeat first|apply bN|apply bD|apply bA);refine blk_put (cs:=#[.slice none 0 0,.slice none 0 0,.bool false,.bool false]) ?_ 1 _ rfl;(with_reducible repeat first|apply bN|apply bD|apply bA);refine blk_put (cs:=#[.slice none 0 0,.slice none 0 0,.bool false,.bool false]) ?_ 0 _ rfl;(with_reducible repeat first|apply bN|apply bD|apply bA);exact BK308.out) hb);have n6_:=aK (below_step (bW HB.out) hb);clear HO0_0;clear HO1_2;clear BK305;clear BK306;clear BK307;clear BK308;clear HB;have HO0_0:=n0_;have HO1_2:=n1_;have BK305:=n2_;have BK306:=n3_;have BK307:=n4_;have BK308:=n5_;have HB:=n6_;clear n0_ n1_ n2_ n3_ n4_ n5_ n6_;(try clear hb);(try clear hb2);(try clear hk);(try clear hi);have hnb20:=NB306_307.out;have hnc20:=NB307_306.out;have hnb21:=NB306_308.out;have hnc21:=NB308_306.out;have hcz22_0 : w19.cell? ⟨gb306,0,none⟩ = some (.int .i64 a1_0):=(bC BK306.out 0).trans rfl;have hcz22_1 : w19.cell? ⟨gb306,1,none⟩ = some (.int .i64 a1_1):=(bC BK306.out 1).trans rfl;have hcz22_2 : w19.cell? ⟨gb306,2,none⟩ = some (.slice A1_2 l1_2.length c1_2):=(bC BK306.out 2).trans rfl;have hfz22_0:=blk_frozen BK306.out 0;have hfz22_1:=blk_frozen BK306.out 1;have hfz22_2:=blk_frozen BK306.out 2)|(go_at_call 25;(with_reducible refine (impl_IsPlainPlay.calls a1_0 a1_1 _ _ l1_2 t310 _ ?side1 ?side2 A14.out).mono ?_);(case side1=>repeat (first|exact (Kd.V_reads' HO1_2.out).2.2|(with_reducible refine Kd.C_alloc ?_ _)|(with_reducible refine Kd.C_drewN ?_ _)|(with_reducible refine Kd.C_drew ?_)));(case side2=>exact (Kd.V_reads' HO1_2.out).2.1);rintro e w23 ⟨rfl,hb⟩;have n0_:=aK (Kd.V_below (vX HO0_0.out) hb);have n1_:=aK (Kd.V_below (vX HO1_2.out) hb);have n2_:=aK (bB (bX BK305.out) hb);have n3_:=aK (bB (bX BK306.out) hb);have n4_:=aK (bB (bX BK307.out) hb);have n5_:=aK (bB (bX BK308.out) hb);have n6_:=aK (below_step (bW HB.out) hb);clear HO0_0;clear HO1_2;clear BK305;clear BK306;clear BK307;clear BK308;clear HB;have HO0_0:=n0_;have HO1_2:=n1_;have BK305:=n2_;have BK306:=n3_;have BK307:=n4_;have BK308:=n5_;have HB:=n6_;clear n0_ n1_ n2_ n3_ n4_ n5_ n6_;(try clear hb);(try clear hb2);(try clear hk);(try clear hi)))
   go_meet
   case rel=>exact ⟨_,(!t310),(by first|rfl|(simp;done)|(simp [*];done)),H',⟨by first|omega|exact Nat.le_refl _⟩,⟨by (with_reducible repeat first|apply Kd.V_alloc|apply Kd.V_drewN|apply Kd.V_drew);exact Kd.V_mono HO0_0.out (fun _ hk=>⟨hk.1.1.1.1,⟨hk.1.1.1.2,⟨hk.1.1.2,⟨hk.1.2,hk.2⟩⟩⟩⟩)⟩,⟨by (with_reducible repeat first|apply Kd.V_alloc|apply Kd.V_drewN|apply Kd.V_drew);exact Kd.V_mono HO1_2.out (fun _ hk=>⟨hk.1.1.1.1,⟨hk.1.1.1.2,⟨hk.1.1.2,⟨hk.1.2,hk.2⟩⟩⟩⟩)⟩,⟨by (with_reducible repeat first|apply bN|apply bD|apply bA);exact BK305.out⟩,⟨by (with_reducible repeat first|apply bN|apply bD|apply bA);exact BK306.out⟩,⟨by (with_reducible repeat first|apply bN|apply bD|apply bA);exact BK307.out⟩,⟨by (with_reducible repeat first|apply bN|apply bD|apply bA);exact BK308.out⟩,⟨bW HB.out⟩⟩
  ·replace c13:=Bool.eq_false_iff.mpr c13
   subst c13
   have H1 : (impl_recordOf.j0 k true l0_0 a1_0 a1_1 l1_2 false false) = some (r1,r2,r3,r4):=by rw [if_neg (show ¬ (false = true) by decide)] at H;exact H
   clear H
   have H:=H1
   clear H1
   have H':=aK H
   clear H
   have hnb24:=NB305_306.out
   have hnc24:=NB306_305.out
   have hnb25:=NB305_307.out
   have hnc25:=NB307_305.out
   have hnb26:=NB305_308.out
   have hnc26:=NB308_305.out
   have hcz27_0 : w7.cell? ⟨gb305,0,none⟩ = some (.slice A0_0 l0_0.length c0_0):=(bC BK305.out 0).trans rfl
   have hfz27_0:=blk_frozen BK305.out 0
   go_wp2_with (first|((with_reducible refine gate_callee (f:=143) rfl ?_);refine goesL_ (some 12) rfl rfl Try.func143 (by kernel_rfl) rfl #[.agg #[.slice A0_0 l0_0.length c0_0]] rfl (by (try simp only [mA,mC,mN]);first|done|rfl) ?_;(with_reducible refine (impl_IsDeal.calls _ _ l0_0 false _ ?side1 ?side2 A12.out).mono ?_);(case side1=>refine (Kd.V_reads' (e:=22) (base:=w.heap.size) (ok:=fun k_=>((((((P0_0_ k_ ∨ P1_2_ k_) ∨ w.heap.size ≤ k_) ∧ k_ ≠ gb305) ∧ k_ ≠ gb306) ∧ k_ ≠ gb307) ∧ k_ ≠ gb308)) (n:=l0_0.length) (c:=c0_0) ?_).2.2;exact (by (with_reducible repeat first|apply Kd.V_alloc|apply Kd.V_drewN|apply Kd.V_drew);exact (Kd.V_mono (Kd.V_far (p:=⟨gb308,3,none⟩) (Kd.V_far (p:=⟨gb308,2,none⟩) (Kd.V_far (p:=⟨gb308,1,none⟩) (Kd.V_far (p:=⟨gb308,0,none⟩) (Kd.V_mono HO0_0.out (fun k_ hk=>(⟨hk,hk.2⟩ : _ ∧ k_ ≠ gb308))) (fun _ hk=>hk.2) (.slice none 0 0)) (fun _ hk=>hk.2) (.slice none 0 0)) (fun _ hk=>hk.2) (.bool false)) (fun _ hk=>hk.2) (.bool false)) (fun _ h_=>h_.1))));(case side2=>exact (Kd.V_reads' HO0_0.out).2.1);rintro e w28 ⟨rfl,hb⟩;refine ⟨_,rfl,?_⟩;have n0_:=aK (Kd.V_below (by (with_reducible repeat first|apply Kd.V_alloc|apply Kd.V_drewN|apply Kd.V_drew);exact (Kd.V_mono (Kd.V_far (p:=⟨gb308,3,none⟩) (Kd.V_far (p:=⟨gb308,2,none⟩) (Kd.V_far (p:=⟨gb308,1,none⟩) (Kd.V_far (p:=⟨gb308,0,none⟩) (Kd.V_mono HO0_0.out (fun k_ hk=>(⟨hk,hk.2⟩ : _ ∧ k_ ≠ gb308))) (fun _ hk=>hk.2) (.slice none 0 0)) (fun _ hk=>hk.2) (.slice none 0 0)) (fun _ hk=>hk.2) (.bool false)) (fun _ hk=>hk.2) (.bool false)) (fun _ h_=>h_.1))) hb);have n1_:=aK (Kd.V_below (by (with_reducible repeat first|apply Kd.V_alloc|apply Kd.V_drewN|apply Kd.V_drew);exact (Kd.V_mono (Kd.V_far (p:=⟨gb308,3,none⟩) (Kd.V_far (p:=⟨gb308,2,none⟩) (Kd.V_far (p:=⟨gb308,1,none⟩) (Kd.V_far (p:=⟨gb308,0,none⟩) (Kd.V_mono HO1_2.out (fun k_ hk=>(⟨hk,hk.2⟩ : _ ∧ k_ ≠ gb308))) (fun _ hk=>hk.2) (.slice none 0 0)) (fun _ hk=>hk.2) (.slice none 0 0)) (fun _ hk=>hk.2) (.bool false)) (fun _ hk=>hk.2) (.bool false)) (fun _ h_=>h_.1))) hb);have n2_:=aK (bB (g:=gb305) (o:=.cells #[.slice A0_0 l0_0.length c0_0] 44 (0,0)) (by (with_reducible repeat first|apply bN|apply bD|apply bA);refine blk_far ?_ NB305_308.out _;(with_reducible repeat first|apply bN|apply bD|apply bA);refine blk_far ?_ NB305_308.out _;(with_reducible repeat first|apply bN|apply bD|apply bA);refine blk_far ?_ NB305_308.out _;(with_reducible repeat first|apply bN|apply bD|apply bA);refine blk_far ?_ NB305_308.out _;(with_reducible repeat first|apply bN|apply bD|apply bA);exact BK305.out) hb);have n3_:=aK (bB (g:=gb306) (o:=.cells #[.int .i64 a1_0,.int .i64 a1_1,.slice A1_2 l1_2.length c1_2] 27 (0,0)) (by (with_reducible repeat first|apply bN|apply bD|apply bA);refine blk_far ?_ NB306_308.out _;(with_reducible repeat first|apply bN|apply bD|apply bA);refine blk_far ?_ NB306_308.out _;(with_reducible repeat first|apply bN|apply bD|apply bA);refine blk_far ?_ NB306_308.out _;(with_reducible repeat first|apply bN|apply bD|apply bA);refine blk_far ?_ NB306_308.out _;(with_reducible repeat first|apply bN|apply bD|apply bA);exact BK306.out) hb);have n4_:=aK (bB (g:=gb307) (o:=.cells #[.slice none 0 0,.slice none 0 0,.bool false,.bool false] 92 (0,0)) (by (with_reducible repeat first|apply bN|apply bD|apply bA);refine blk_far ?_ NB307_308.out _;(with_reducible repeat first|apply bN|apply bD|apply bA);refine blk_far ?_ NB307_308.out _;(with_reducible repeat first|apply bN|apply bD|apply bA);refine blk_far ?_ NB307_308.out _;(with_reducible repeat first|apply bN|apply bD|apply bA);refine blk_far ?_ NB307_308.out _;(with_reducible repeat first|apply bN|apply bD|apply bA);exact BK307.out) hb);have n5_:=aK (bB (g:=gb308) (o:=.cells #[.slice none 0 0,.slice none 0 0,.bool false,.bool false] 92 (0,0)) (by (with_reducible repeat first|apply bN|apply bD|apply bA);refine blk_put (cs:=#[.slice none 0 0,.slice none 0 0,.bool false,.bool false]) ?_ 3 _ rfl;(with_reducible repeat first|apply bN|apply bD|apply bA);refine blk_put (cs:=#[.slice none 0 0,.slice none 0 0,.bool false,.bool false]) ?_ 2 _ rfl;(with_reducible repeat first|apply bN|apply bD|apply bA);refine blk_put (cs:=#[.slice none 0 0,.slice none 0 0,.bool false,.bool false]) ?_ 1 _ rfl;(with_reducible repeat first|apply bN|apply bD|apply bA);refine blk_put (cs:=#[.slice none 0 0,.slice none 0 0,.bool false,.bool false]) ?_ 0 _ rfl;(with_reducible repeat first|apply bN|apply bD|apply bA);exact BK308.out) hb);have n6_:=aK (below_step (bW HB.out) hb);clear HO0_0;clear HO1_2;clear BK305;clear BK306;clear BK307;clear BK308;clear HB;have HO0_0:=n0_;have HO1_2:=n1_;have BK305:=n2_;have BK306:=n3_;have BK307:=n4_;have BK308:=n5_;have HB:=n6_;clear n0_ n1_ n2_ n3_ n4_ n5_ n6_;(try clear hb);(try clear hb2);(try clear hk);(try clear hi)))
   go_meet
   case rel=>exact ⟨_,(true),(by first|rfl|(simp;done)|(simp [*];done)),H',⟨by first|omega|exact Nat.le_refl _⟩,⟨by (with_reducible repeat first|apply Kd.V_alloc|apply Kd.V_drewN|apply Kd.V_drew);exact Kd.V_mono HO0_0.out (fun _ hk=>⟨hk.1.1.1.1,⟨hk.1.1.1.2,⟨hk.1.1.2,⟨hk.1.2,hk.2⟩⟩⟩⟩)⟩,⟨by (with_reducible repeat first|apply Kd.V_alloc|apply Kd.V_drewN|apply Kd.V_drew);exact Kd.V_mono HO1_2.out (fun _ hk=>⟨hk.1.1.1.1,⟨hk.1.1.1.2,⟨hk.1.1.2,⟨hk.1.2,hk.2⟩⟩⟩⟩)⟩,⟨by (with_reducible repeat first|apply bN|apply bD|apply bA);exact BK305.out⟩,⟨by (with_reducible repeat first|apply bN|apply bD|apply bA);exact BK306.out⟩,⟨by (with_reducible repeat first|apply bN|apply bD|apply bA);exact BK307.out⟩,⟨by (with_reducible repeat first|apply bN|apply bD|apply bA);exact BK308.out⟩,⟨bW HB.out⟩⟩
 case rest =>
  clear HC3
  try clear c1
  try clear c2
  try clear p2
  try clear c8
  try clear c9
  try clear c10
  try clear c13
  try clear c14
  try clear c15
  try clear c16
  try clear c17
  try clear c20
  try clear c21
  try clear c24
  try clear c25
  try clear c26
  try clear hcz11_0
  try clear hcz11_1
  try clear hcz11_2
  try clear hcz11_3
  try clear hcz18_0
  try clear hcz22_0
  try clear hcz22_1
  try clear hcz22_2
  try clear hcz27_0
  try clear hfz11_0
  try clear hfz11_1
  try clear hfz11_2
  try clear hfz11_3
  try clear hfz18_0
  try clear hfz22_0
  try clear hfz22_1
  try clear hfz22_2
  try clear hfz27_0
  obtain ⟨kq,x18_2,rfl,HA,HJ2,HO_306000,HO_307002,BK305,BK306,BK307,BK308,HB⟩:=hcut
  cases kq with
  | zero=>exact absurd HA.out (by simp [impl_recordOf.j0])
  | succ kj2 =>
   have H:=HA.out
   clear HA
   simp only [impl_recordOf.j0] at H
   by_cases c29 : x18_2 = true
   ·subst c29
    have H1 : (some (([] : List (List Int)),([] : List Int),false,false)) = some (r1,r2,r3,r4):=by rw [if_pos rfl] at H;exact H
    clear H
    have H:=H1
    clear H1
    simp only [Option.some.injEq,Prod.mk.injEq] at H
    obtain ⟨rfl,rfl,rfl,rfl⟩:=H
    have hnb30:=NB308_305.out
    have hnc30:=NB305_308.out
    have hnb31:=NB308_306.out
    have hnc31:=NB306_308.out
    have hnb32:=NB308_307.out
    have hnc32:=NB307_308.out
    have hcz33_0 : wc.cell? ⟨gb308,0,none⟩ = some (.slice none 0 0):=(bC BK308.out 0).trans rfl
    have hcz33_1 : wc.cell? ⟨gb308,1,none⟩ = some (.slice none 0 0):=(bC BK308.out 1).trans rfl
    have hcz33_2 : wc.cell? ⟨gb308,2,none⟩ = some (.bool false):=(bC BK308.out 2).trans rfl
    have hcz33_3 : wc.cell? ⟨gb308,3,none⟩ = some (.bool false):=(bC BK308.out 3).trans rfl
    have hfz33_0:=blk_frozen BK308.out 0
    have hfz33_1:=blk_frozen BK308.out 1
    have hfz33_2:=blk_frozen BK308.out 2
    have hfz33_3:=blk_frozen BK308.out 3
    have hnb34:=NB307_305.out
    have hnc34:=NB305_307.out
    have hnb35:=NB307_306.out
    have hnc35:=NB306_307.out
    have hcz36_0 : wc.cell? ⟨gb307,0,none⟩ = some (.slice none 0 0):=(bC BK307.out 0).trans rfl
    have hcz36_1 : wc.cell? ⟨gb307,1,none⟩ = some (.slice none 0 0):=(bC BK307.out 1).trans rfl
    have hcz36_2 : wc.cell? ⟨gb307,2,none⟩ = some (.bool false):=(bC BK307.out 2).trans rfl
    have hcz36_3 : wc.cell? ⟨gb307,3,none⟩ = some (.bool false):=(bC BK307.out 3).trans rfl
    have hfz36_0:=blk_frozen BK307.out 0
    have hfz36_1:=blk_frozen BK307.out 1
    have hfz36_2:=blk_frozen BK307.out 2
    have hfz36_3:=blk_frozen BK307.out 3
    go_wp2
    refine bodyPost_ret (results_cell_row rfl _ _ gb307 92 #[.slice none 0 0,.slice none 0 0,.bool false,.bool false] (0,0) _ rfl (by (with_reducible repeat first|apply bN|apply bD|apply bA);refine blk_put (cs:=#[.slice none 0 0,.slice none 0 0,.bool false,.bool false]) ?_ 3 _ rfl;(with_reducible repeat first|apply bN|apply bD|apply bA);refine blk_put (cs:=#[.slice none 0 0,.slice none 0 0,.bool false,.bool false]) ?_ 2 _ rfl;(with_reducible repeat first|apply bN|apply bD|apply bA);refine blk_put (cs:=#[.slice none 0 0,.slice none 0 0,.bool false,.bool false]) ?_ 1 _ rfl;(with_reducible repeat first|apply bN|apply bD|apply bA);refine blk_put (cs:=#[.slice none 0 0,.slice none 0 0,.bool false,.bool false]) ?_ 0 _ rfl;(with_reducible repeat first|apply bN|apply bD|apply bA);exact BK307.out) Try.underlying92 rfl (by kernel_rfl)) rfl ?_
    exact ⟨_,_,by first|rfl|(simp [errW_none,errW_some] <;> rfl)|(simp [*,errW_none,errW_some] <;> rfl),by first|exact Kd.S_nil _ _ _ _ _|exact Kd.N_nil _ _ _ _ _|exact Kd.V_nil _ _ _ _ _|exact Kd.Q_nil _ _ _ _ _|exact Kd.R_nil _ _ _ _ _,by first|exact Kd.R_nil _ _ _ _ _|exact Kd.N_nil _ _ _ _ _|exact Kd.V_nil _ _ _ _ _|exact Kd.Q_nil _ _ _ _ _|exact Kd.S_nil _ _ _ _ _,bW HB.out⟩
   ·replace c29:=Bool.eq_false_iff.mpr c29
    subst c29
    have H1 : ((impl_leaders.f kj2 a1_0 a1_1 l1_2).bind fun t311=>((slices_Clone_int64_int64_144.f l0_0).bind fun t314=>(impl_recordOf.l0 kj2 l1_2 (l1_2.length : Int) 0 a1_0 a1_1 l1_2 t314 t311 true true))) = some (r1,r2,r3,r4):=by rw [if_neg (show ¬ (false = true) by decide)] at H;exact H
    clear H
    have H:=H1
    clear H1
    replace H:=Option.bind_eq_some_iff.mp H
    obtain ⟨t311,A370,H⟩:=H
    replace H : ((slices_Clone_int64_int64_144.f l0_0).bind fun t314=>(impl_recordOf.l0 kj2 l1_2 (l1_2.length : Int) 0 a1_0 a1_1 l1_2 t314 t311 true true)) = some (r1,r2,r3,r4):=H
    have A37:=aK A370
    clear A370
    replace H:=Option.bind_eq_some_iff.mp H
    obtain ⟨t314,A380,H⟩:=H
    replace H : (impl_recordOf.l0 kj2 l1_2 (l1_2.length : Int) 0 a1_0 a1_1 l1_2 t314 t311 true true) = some (r1,r2,r3,r4):=H
    have A38:=aK A380
    clear A380
    have H':=aK H
    clear H
    try go_wp2
    have n0_:=aK (Kd.V_drew HO_306000.out)
    have n1_:=aK (Kd.V_drew HO_307002.out)
    have n2_:=aK (bD BK305.out)
    have n3_:=aK (bD BK306.out)
    have n4_:=aK (bD BK307.out)
    have n5_:=aK (bD BK308.out)
    have n6_:=aK (b1 HB.out)
    clear HO_306000
    clear HO_307002
    clear BK305
    clear BK306
    clear BK307
    clear BK308
    clear HB
    have HO_306000:=n0_
    have HO_307002:=n1_
    have BK305:=n2_
    have BK306:=n3_
    have BK307:=n4_
    have BK308:=n5_
    have HB:=n6_
    clear n0_ n1_ n2_ n3_ n4_ n5_ n6_
    refine start_ (n:=13) (S:=fun w'=>w'.cell? ⟨gb306,0,none⟩ = some (.int .i64 a1_0) ∧ w'.cell? ⟨gb306,1,none⟩ = some (.int .i64 a1_1) ∧ w'.cell? ⟨gb306,2,none⟩ = some (.slice A1_2 l1_2.length c1_2) ∧ w'.cell? ⟨gb305,0,none⟩ = some (.slice A0_0 l0_0.length c0_0)) (ds:=[]) #[false,false,false,false,false,false,false,false,false,false,false,false,false] (by kernel_rfl) rfl rfl ⟨(bC BK306.out 0).trans rfl,(bC BK306.out 1).trans rfl,(bC BK306.out 2).trans rfl,(bC BK305.out 0).trans rfl⟩ (fun hHeld=>?_);refine with_tabW impl_recordOf.tab4 impl_recordOf.bits4 (fun HT_ HW_=>?_)
    generalize wc.drew = w39 at HO_306000 HO_307002 BK305 BK306 BK307 BK308 HB hHeld ⊢
    refine pure_ (i:=2) (N:=some 22) (v:=?_) (a':=?_) #[false,false,true,false,false,false,false,false,false,false,false,false,false] rfl rfl (any_of HT_.out (by kernel_rfl)) (fun _ _ _ h=>h) (Or.inl ⟨by rfl,?_⟩) ?_ ?_
    rotate_left
    ·intro w'
     go_simp
     with_reducible rfl
    rotate_left
    ·simp only [Act.put,lA,l0',lS,i64_w,i32_w]
     rfl
    refine take_ (i:=0) (N:=some 20) (v:=?_) (a':=?_) #[true,false,true,false,false,false,false,false,false,false,false,false,false] rfl rfl (take_ofW HT_.out HW_.out (by kernel_rfl)) (fun _ _ _ h=>h) (Or.inl ⟨by rfl,?_⟩) hHeld ?_ ?_
    rotate_left
    ·rintro w' ⟨s0,s1,s2,s3⟩
     go_simp
     with_reducible rfl
    rotate_left
    ·simp only [Act.put,lA,l0',lS,i64_w,i32_w]
     rfl
    refine take_ (i:=3) (N:=some 23) (v:=?_) (a':=?_) #[true,false,true,true,false,false,false,false,false,false,false,false,false] rfl rfl (take_ofW HT_.out HW_.out (by kernel_rfl)) (fun _ _ _ h=>h) (Or.inl ⟨by rfl,?_⟩) hHeld ?_ ?_
    rotate_left
    ·rintro w' ⟨s0,s1,s2,s3⟩
     go_simp
     with_reducible rfl
    rotate_left
    ·simp only [Act.put,lA,l0',lS,i64_w,i32_w]
     rfl
    refine one_ (i:=1) (N:=some 21) #[true,true,true,true,false,false,false,false,false,false,false,false,false] rfl rfl (one_of HT_.out (by kernel_rfl)) (by decide) (fun K hK=>?_)
    refine goes_ Try.func93 (by kernel_rfl) rfl #[.agg #[.int .i64 a1_0,.int .i64 a1_1,.slice A1_2 l1_2.length c1_2]] (by rfl) rfl rfl (by (try simp only [mA,mC,mN]);first|done|rfl) ?_
    with_reducible refine (impl_leaders.calls kj2 a1_0 a1_1 _ _ l1_2 t311 _ ?side1 ?side2 A37.out).mono ?_
    (case side1=>repeat (first|exact (Kd.V_reads' HO_307002.out).2.2|(with_reducible refine Kd.C_alloc ?_ _)|(with_reducible refine Kd.C_drewN ?_ _)|(with_reducible refine Kd.C_drew ?_)))
    (case side2=>exact (Kd.V_reads' HO_307002.out).2.1)
    rintro e w40 ⟨v312,rfl,ho0,hb⟩
    refine ⟨_,rfl,?_⟩
    have n0_:=aK (Kd.V_elder' (vX HO_306000.out) (Kd.R_base ho0) hb)
    have n1_:=aK (Kd.V_elder' (vX HO_307002.out) (Kd.R_base ho0) hb)
    have n2_:=aK (Kd.R_lower (Kd.R_newM (M:=fun k_=>(w.heap.size ≤ k_)) ho0 (below_size (bW HB.out)) (fun k_ h_=>h_)) (below_size (bW HB.out)))
    have n3_:=aK (bB (bX BK305.out) hb)
    have n4_:=aK (bB (bX BK306.out) hb)
    have n5_:=aK (bB (bX BK307.out) hb)
    have n6_:=aK (bB (bX BK308.out) hb)
    have n7_:=aK (below_step (bW HB.out) hb)
    clear HO_306000
    clear HO_307002
    clear BK305
    clear BK306
    clear BK307
    clear BK308
    clear HB
    have HO_306000:=n0_
    have HO_307002:=n1_
    have HO313:=n2_
    have BK305:=n3_
    have BK306:=n4_
    have BK307:=n5_
    have BK308:=n6_
    have HB:=n7_
    clear n0_ n1_ n2_ n3_ n4_ n5_ n6_ n7_
    (try clear hb)
    (try clear hb2)
    (try clear hk)
    (try clear hi)
    (try clear ho0)
    refine hK.out _ _ ⟨(bC BK306.out 0).trans rfl,(bC BK306.out 1).trans rfl,(bC BK306.out 2).trans rfl,(bC BK305.out 0).trans rfl⟩ (fun hHeld=>?_)
    clear hK K
    refine norm_ (a':=?_) ?_ ?_
    rotate_left
    ·show Act.put _ (some 21) _ = _
     simp only [Act.put,lA,l0',lS,i64_w,i32_w]
     rfl
    refine pure_ (i:=5) (N:=some 25) (v:=?_) (a':=?_) #[true,true,true,true,false,true,false,false,false,false,false,false,false] rfl rfl (any_of HT_.out (by kernel_rfl)) (fun _ _ _ h=>h) (Or.inl ⟨by rfl,?_⟩) ?_ ?_
    rotate_left
    ·intro w'
     go_simp
     with_reducible rfl
    rotate_left
    ·simp only [Act.put,lA,l0',lS,i64_w,i32_w]
     rfl
    refine one_ (i:=4) (N:=some 24) #[true,true,true,true,true,true,false,false,false,false,false,false,false] rfl rfl (one_of HT_.out (by kernel_rfl)) (by decide) (fun K hK=>?_)
    refine goes_ Try.func144 (by kernel_rfl) rfl #[.slice A0_0 l0_0.length c0_0] (by rfl) rfl rfl (by (try simp only [mA,mC,mN]);first|done|rfl) ?_
    with_reducible refine (slices_Clone_int64_int64_144.calls (fun k_=>((((P0_0_ k_ ∨ P1_2_ k_) ∨ w.heap.size ≤ k_) ∧ (k_ ≠ gb305 ∧ (k_ ≠ gb306 ∧ (k_ ≠ gb307 ∧ k_ ≠ gb308)))) ∧ some k_ ≠ (v312 : Value).ownBlock)) _ _ l0_0 t314 _ ?side1 A38.out).mono ?_
    (case side1=>exact HO_306000.out)
    rintro e w41 ⟨v315,rfl,ho0,hb⟩
    refine ⟨_,rfl,?_⟩
    have n0_:=aK (Kd.V_elder' (vX HO_306000.out) (Kd.N_base ho0) hb)
    have n1_:=aK (Kd.V_elder' (vX HO_307002.out) (Kd.N_base ho0) hb)
    have n2_:=aK (Kd.R_below (rX HO313.out) hb)
    have n3_:=aK (Kd.N_lower (Kd.N_mono (ok':=fun k_=>((P0_0_ k_ ∨ P1_2_ k_) ∨ w.heap.size ≤ k_) ∧ some k_ ≠ (v312 : Value).ownBlock ∧ k_ ≠ gb305 ∧ k_ ≠ gb306 ∧ k_ ≠ gb307 ∧ k_ ≠ gb308) ho0 (fun k_ hk_=>⟨Or.elim hk_ (fun hs_=>hs_.1.1) (fun hn_=>(.inr (Nat.le_trans (below_size (bW HB.out)) hn_))),Or.elim hk_ (fun hs_=>hs_.2) (fun hn_=>(Kd.fresh' (Kd.R_lt (rX HO313.out)) k_ hn_)),Or.elim hk_ (fun hs_=>hs_.1.2.1) (fun hn_=>(Kd.freshB (g:=gb305) (o:=.cells #[.slice A0_0 l0_0.length c0_0] 44 (0,0)) (bX BK305.out) k_ hn_)),Or.elim hk_ (fun hs_=>hs_.1.2.2.1) (fun hn_=>(Kd.freshB (g:=gb306) (o:=.cells #[.int .i64 a1_0,.int .i64 a1_1,.slice A1_2 l1_2.length c1_2] 27 (0,0)) (bX BK306.out) k_ hn_)),Or.elim hk_ (fun hs_=>hs_.1.2.2.2.1) (fun hn_=>(Kd.freshB (g:=gb307) (o:=.cells #[.slice none 0 0,.slice none 0 0,.bool false,.bool false] 92 (0,0)) (bX BK307.out) k_ hn_)),Or.elim hk_ (fun hs_=>hs_.1.2.2.2.2) (fun hn_=>(Kd.freshB (g:=gb308) (o:=.cells #[.slice none 0 0,.slice none 0 0,.bool false,.bool false] 92 (0,0)) (bX BK308.out) k_ hn_))⟩)) (below_size (bW HB.out)))
    have n4_:=aK (bB (bX BK305.out) hb)
    have n5_:=aK (bB (bX BK306.out) hb)
    have n6_:=aK (bB (bX BK307.out) hb)
    have n7_:=aK (bB (bX BK308.out) hb)
    have n8_:=aK (below_step (bW HB.out) hb)
    clear HO_306000
    clear HO_307002
    clear HO313
    clear BK305
    clear BK306
    clear BK307
    clear BK308
    clear HB
    have HO_306000:=n0_
    have HO_307002:=n1_
    have HO313:=n2_
    have HO316:=n3_
    have BK305:=n4_
    have BK306:=n5_
    have BK307:=n6_
    have BK308:=n7_
    have HB:=n8_
    clear n0_ n1_ n2_ n3_ n4_ n5_ n6_ n7_ n8_
    (try clear hb)
    (try clear hb2)
    (try clear hk)
    (try clear hi)
    (try clear ho0)
    obtain ⟨Ao42,co42,eo42⟩:=Kd.R_slice HO313.out
    (first|subst eo42|(injection eo42 with f1_ f2_ f3_;have f4_:=f1_.symm;have f5_:=f3_.symm;clear f1_ f2_ f3_;subst f4_;subst f5_))
    obtain ⟨Ao44,co44,eo44⟩:=Kd.N_slice HO316.out
    (first|subst eo44|(injection eo44 with f1_ f2_ f3_;have f4_:=f1_.symm;have f5_:=f3_.symm;clear f1_ f2_ f3_;subst f4_;subst f5_))
    refine hK.out _ _ ⟨(bC BK306.out 0).trans rfl,(bC BK306.out 1).trans rfl,(bC BK306.out 2).trans rfl,(bC BK305.out 0).trans rfl⟩ (fun hHeld=>?_)
    clear hK K
    refine norm_ (a':=?_) ?_ ?_
    rotate_left
    ·show Act.put _ (some 24) _ = _
     simp only [Act.put,lA,l0',lS,i64_w,i32_w]
     rfl
    refine one_ (i:=6) (N:=none) #[true,true,true,true,true,true,true,false,false,false,false,false,false] rfl rfl (one_of HT_.out (by kernel_rfl)) (by decide) (fun K hK=>?_)
    have hs43 : w41.cell? ⟨gb308,1,none⟩ = some (.slice none 0 0):=(bC BK308.out 1).trans rfl
    have hfs43:=blk_frozen BK308.out 1
    have hns43_0:=NB305_308.out
    have hns43_1:=NB306_308.out
    have hns43_2:=NB307_308.out
    have hms43_0:=NB308_305.out
    have hms43_1:=NB308_306.out
    have hms43_2:=NB308_307.out
    refine skip_ (w1:=?_) (by rfl) rfl ?_ ?_
    rotate_left
    ·go_simp
     rfl
    refine hK.out _ _ ⟨((cell_far (p:=⟨gb308,_,none⟩) NB306_308.out _).trans (hHeld.1)),((cell_far (p:=⟨gb308,_,none⟩) NB306_308.out _).trans (hHeld.2.1)),((cell_far (p:=⟨gb308,_,none⟩) NB306_308.out _).trans (hHeld.2.2.1)),((cell_far (p:=⟨gb308,_,none⟩) NB305_308.out _).trans (hHeld.2.2.2))⟩ (fun hHeld=>?_)
    clear hK K
    refine pure_ (i:=7) (N:=some 26) (v:=?_) (a':=?_) #[true,true,true,true,true,true,true,true,false,false,false,false,false] rfl rfl (any_of HT_.out (by kernel_rfl)) (fun _ _ _ h=>h) (Or.inl ⟨by rfl,?_⟩) ?_ ?_
    rotate_left
    ·intro w'
     go_simp
     with_reducible rfl
    rotate_left
    ·simp only [Act.put,lA,l0',lS,i64_w,i32_w]
     rfl
    refine one_ (i:=8) (N:=none) #[true,true,true,true,true,true,true,true,true,false,false,false,false] rfl rfl (one_of HT_.out (by kernel_rfl)) (by decide) (fun K hK=>?_)
    have hs45 : w41.cell? ⟨gb308,0,none⟩ = some (.slice none 0 0):=(bC BK308.out 0).trans rfl
    have hfs45:=blk_frozen BK308.out 0
    have hns45_0:=NB305_308.out
    have hns45_1:=NB306_308.out
    have hns45_2:=NB307_308.out
    have hms45_0:=NB308_305.out
    have hms45_1:=NB308_306.out
    have hms45_2:=NB308_307.out
    refine skip_ (w1:=?_) (by rfl) rfl ?_ ?_
    rotate_left
    ·go_simp
     rfl
    refine hK.out _ _ ⟨((cell_far (p:=⟨gb308,_,none⟩) NB306_308.out _).trans (hHeld.1)),((cell_far (p:=⟨gb308,_,none⟩) NB306_308.out _).trans (hHeld.2.1)),((cell_far (p:=⟨gb308,_,none⟩) NB306_308.out _).trans (hHeld.2.2.1)),((cell_far (p:=⟨gb308,_,none⟩) NB305_308.out _).trans (hHeld.2.2.2))⟩ (fun hHeld=>?_)
    clear hK K
    refine pure_ (i:=9) (N:=some 27) (v:=?_) (a':=?_) #[true,true,true,true,true,true,true,true,true,true,false,false,false] rfl rfl (any_of HT_.out (by kernel_rfl)) (fun _ _ _ h=>h) (Or.inl ⟨by rfl,?_⟩) ?_ ?_
    rotate_left
    ·intro w'
     go_simp
     with_reducible rfl
    rotate_left
    ·simp only [Act.put,lA,l0',lS,i64_w,i32_w]
     rfl
    refine one_ (i:=10) (N:=none) #[true,true,true,true,true,true,true,true,true,true,true,false,false] rfl rfl (one_of HT_.out (by kernel_rfl)) (by decide) (fun K hK=>?_)
    have hs46 : w41.cell? ⟨gb308,2,none⟩ = some (.bool false):=(bC BK308.out 2).trans rfl
    have hfs46:=blk_frozen BK308.out 2
    have hns46_0:=NB305_308.out
    have hns46_1:=NB306_308.out
    have hns46_2:=NB307_308.out
    have hms46_0:=NB308_305.out
    have hms46_1:=NB308_306.out
    have hms46_2:=NB308_307.out
    refine skip_ (w1:=?_) (by rfl) rfl ?_ ?_
    rotate_left
    ·go_simp
     rfl
    refine hK.out _ _ ⟨((cell_far (p:=⟨gb308,_,none⟩) NB306_308.out _).trans (hHeld.1)),((cell_far (p:=⟨gb308,_,none⟩) NB306_308.out _).trans (hHeld.2.1)),((cell_far (p:=⟨gb308,_,none⟩) NB306_308.out _).trans (hHeld.2.2.1)),((cell_far (p:=⟨gb308,_,none⟩) NB305_308.out _).trans (hHeld.2.2.2))⟩ (fun hHeld=>?_)
    clear hK K
    refine pure_ (i:=11) (N:=some 28) (v:=?_) (a':=?_) #[true,true,true,true,true,true,true,true,true,true,true,true,false] rfl rfl (any_of HT_.out (by kernel_rfl)) (fun _ _ _ h=>h) (Or.inl ⟨by rfl,?_⟩) ?_ ?_
    rotate_left
    ·intro w'
     go_simp
     with_reducible rfl
    rotate_left
    ·simp only [Act.put,lA,l0',lS,i64_w,i32_w]
     rfl
    refine one_ (i:=12) (N:=none) #[true,true,true,true,true,true,true,true,true,true,true,true,true] rfl rfl (one_of HT_.out (by kernel_rfl)) (by decide) (fun K hK=>?_)
    have hs47 : w41.cell? ⟨gb308,3,none⟩ = some (.bool false):=(bC BK308.out 3).trans rfl
    have hfs47:=blk_frozen BK308.out 3
    have hns47_0:=NB305_308.out
    have hns47_1:=NB306_308.out
    have hns47_2:=NB307_308.out
    have hms47_0:=NB308_305.out
    have hms47_1:=NB308_306.out
    have hms47_2:=NB308_307.out
    refine skip_ (w1:=?_) (by rfl) rfl ?_ ?_
    rotate_left
    ·go_simp
     rfl
    refine hK.out _ _ ⟨((cell_far (p:=⟨gb308,_,none⟩) NB306_308.out _).trans (hHeld.1)),((cell_far (p:=⟨gb308,_,none⟩) NB306_308.out _).trans (hHeld.2.1)),((cell_far (p:=⟨gb308,_,none⟩) NB306_308.out _).trans (hHeld.2.2.1)),((cell_far (p:=⟨gb308,_,none⟩) NB305_308.out _).trans (hHeld.2.2.2))⟩ (fun hHeld=>?_)
    clear hK K
    refine done_ (done_of HT_.out (by kernel_rfl)) ?_
    have hnb48:=NB306_305.out
    have hnc48:=NB305_306.out
    have hnb49:=NB306_307.out
    have hnc49:=NB307_306.out
    have hnb50:=NB306_308.out
    have hnc50:=NB308_306.out
    have hcz51_0 : w41.cell? ⟨gb306,0,none⟩ = some (.int .i64 a1_0):=(bC BK306.out 0).trans rfl
    have hcz51_1 : w41.cell? ⟨gb306,1,none⟩ = some (.int .i64 a1_1):=(bC BK306.out 1).trans rfl
    have hcz51_2 : w41.cell? ⟨gb306,2,none⟩ = some (.slice A1_2 l1_2.length c1_2):=(bC BK306.out 2).trans rfl
    have hfz51_0:=blk_frozen BK306.out 0
    have hfz51_1:=blk_frozen BK306.out 1
    have hfz51_2:=blk_frozen BK306.out 2
    try go_wp2
    go_loopg [32] kj2 (fun kq v32 w'=>∃ (x32_2 : Int) (x306000_2 : List (List Int)) (x308002_2 : Bool) (x308003_2 : Bool) (x309000_2 : List (List Int)) (x309003_2 : Bool) (u306000 : Value) (u309000 : Value),v32 = .int .i64 x32_2 ∧ Aside0 (impl_recordOf.l0 kq l1_2 (l1_2.length : Int) x32_2 a1_0 a1_1 l1_2 x309000_2 t311 true x309003_2 = some (r1,r2,r3,r4)) ∧ Aside0 (kq ≤ kj2) ∧ Aside0 (Kd.V (Kd.int .i64) 2 w' w.heap.size (fun k_=>((P0_0_ k_ ∨ P1_2_ k_) ∨ w.heap.size ≤ k_) ∧ some k_ ≠ (u309000 : Value).ownBlock ∧ some k_ ≠ ((.slice Ao42 t311.length co42) : Value).ownBlock ∧ k_ ≠ gb305 ∧ k_ ≠ gb306 ∧ k_ ≠ gb307 ∧ k_ ≠ gb308) (.slice A1_2 l1_2.length c1_2) l1_2) ∧ Aside0 (Kd.V (Kd.slice 2 (Kd.int .i64)) 22 w' w.heap.size (fun k_=>((P0_0_ k_ ∨ P1_2_ k_) ∨ w.heap.size ≤ k_) ∧ some k_ ≠ (u309000 : Value).ownBlock ∧ some k_ ≠ ((.slice Ao42 t311.length co42) : Value).ownBlock ∧ k_ ≠ gb305 ∧ k_ ≠ gb306 ∧ k_ ≠ gb307 ∧ k_ ≠ gb308) u306000 x306000_2) ∧ Aside0 (Kd.V (Kd.int .i64) 2 w' w.heap.size (fun k_=>((P0_0_ k_ ∨ P1_2_ k_) ∨ w.heap.size ≤ k_) ∧ some k_ ≠ (u309000 : Value).ownBlock ∧ some k_ ≠ ((.slice Ao42 t311.length co42) : Value).ownBlock ∧ k_ ≠ gb305 ∧ k_ ≠ gb306 ∧ k_ ≠ gb307 ∧ k_ ≠ gb308) (.slice A1_2 l1_2.length c1_2) l1_2) ∧ Aside0 (Kd.N (Kd.slice 2 (Kd.int .i64)) 22 w' w.heap.size (fun k_=>((P0_0_ k_ ∨ P1_2_ k_) ∨ w.heap.size ≤ k_) ∧ some k_ ≠ ((.slice Ao42 t311.length co42) : Value).ownBlock ∧ k_ ≠ gb305 ∧ k_ ≠ gb306 ∧ k_ ≠ gb307 ∧ k_ ≠ gb308) u309000 x309000_2) ∧ Aside0 (Kd.R (Kd.int .i64) 2 w' w.heap.size (fun k_=>(w.heap.size ≤ k_)) (.slice Ao42 t311.length co42) t311) ∧ Aside0 (w'.heap[gb305]? = some (.cells #[u306000] 44 (0,0))) ∧ Aside0 (w'.heap[gb306]? = some (.cells #[.int .i64 a1_0,.int .i64 a1_1,(.slice A1_2 l1_2.length c1_2)] 27 (0,0))) ∧ Aside0 (w'.heap[gb307]? = some (.cells #[(.slice none 0 0),(.slice none 0 0),.bool x308002_2,.bool x308003_2] 92 (0,0))) ∧ Aside0 (w'.heap[gb308]? = some (.cells #[u309000,(.slice Ao42 t311.length co42),.bool true,.bool x309003_2] 92 (0,0))) ∧ Aside0 (Below w.heap.size w w'))
    case atStart=>exact ⟨(0),(l0_0),(false),(false),(t314),(true),(.slice A0_0 l0_0.length c0_0),(.slice Ao44 t314.length co44),(by first|rfl|(simp;done)|(simp [*];done)),H',⟨Nat.le_refl _⟩,⟨by (with_reducible repeat first|apply Kd.V_alloc|apply Kd.V_drewN|apply Kd.V_drew);exact Kd.V_mono (Kd.V_far (p:=⟨gb308,3,none⟩) (Kd.V_far (p:=⟨gb308,2,none⟩) (Kd.V_far (p:=⟨gb308,0,none⟩) (Kd.V_far (p:=⟨gb308,1,none⟩) (Kd.V_mono HO_307002.out (fun k_ hk=>(⟨hk,hk.1.1.2.2.2.2⟩ : _ ∧ k_ ≠ gb308))) (fun _ hk=>hk.2) (.slice Ao42 t311.length co42)) (fun _ hk=>hk.2) (.slice Ao44 t314.length co44)) (fun _ hk=>hk.2) (.bool true)) (fun _ hk=>hk.2) (.bool true)) (fun _ hk=>⟨hk.1.1.1.1,⟨hk.1.2,⟨hk.1.1.2,⟨hk.1.1.1.2.1,⟨hk.1.1.1.2.2.1,⟨hk.1.1.1.2.2.2.1,hk.1.1.1.2.2.2.2⟩⟩⟩⟩⟩⟩)⟩,⟨by (with_reducible repeat first|apply Kd.V_alloc|apply Kd.V_drewN|apply Kd.V_drew);exact Kd.V_mono (Kd.V_far (p:=⟨gb308,3,none⟩) (Kd.V_far (p:=⟨gb308,2,none⟩) (Kd.V_far (p:=⟨gb308,0,none⟩) (Kd.V_far (p:=⟨gb308,1,none⟩) (Kd.V_mono HO_306000.out (fun k_ hk=>(⟨hk,hk.1.1.2.2.2.2⟩ : _ ∧ k_ ≠ gb308))) (fun _ hk=>hk.2) (.slice Ao42 t311.length co42)) (fun _ hk=>hk.2) (.slice Ao44 t314.length co44)) (fun _ hk=>hk.2) (.bool true)) (fun _ hk=>hk.2) (.bool true)) (fun _ hk=>⟨hk.1.1.1.1,⟨hk.1.2,⟨hk.1.1.2,⟨hk.1.1.1.2.1,⟨hk.1.1.1.2.2.1,⟨hk.1.1.1.2.2.2.1,hk.1.1.1.2.2.2.2⟩⟩⟩⟩⟩⟩)⟩,⟨by (with_reducible repeat first|apply Kd.V_alloc|apply Kd.V_drewN|apply Kd.V_drew);exact Kd.V_mono (Kd.V_far (p:=⟨gb308,3,none⟩) (Kd.V_far (p:=⟨gb308,2,none⟩) (Kd.V_far (p:=⟨gb308,0,none⟩) (Kd.V_far (p:=⟨gb308,1,none⟩) (Kd.V_mono HO_307002.out (fun k_ hk=>(⟨hk,hk.1.1.2.2.2.2⟩ : _ ∧ k_ ≠ gb308))) (fun _ hk=>hk.2) (.slice Ao42 t311.length co42)) (fun _ hk=>hk.2) (.slice Ao44 t314.length co44)) (fun _ hk=>hk.2) (.bool true)) (fun _ hk=>hk.2) (.bool true)) (fun _ hk=>⟨hk.1.1.1.1,⟨hk.1.2,⟨hk.1.1.2,⟨hk.1.1.1.2.1,⟨hk.1.1.1.2.2.1,⟨hk.1.1.1.2.2.2.1,hk.1.1.1.2.2.2.2⟩⟩⟩⟩⟩⟩)⟩,⟨by (with_reducible repeat first|apply Kd.N_alloc|apply Kd.N_drewN|apply Kd.N_drew);exact Kd.N_mono (Kd.N_far (p:=⟨gb308,3,none⟩) (Kd.N_far (p:=⟨gb308,2,none⟩) (Kd.N_far (p:=⟨gb308,0,none⟩) (Kd.N_far (p:=⟨gb308,1,none⟩) (Kd.N_mono HO316.out (fun k_ hk=>(⟨hk,hk.2.2.2.2.2⟩ : _ ∧ k_ ≠ gb308))) (fun _ hk=>hk.2) (.slice Ao42 t311.length co42)) (fun _ hk=>hk.2) (.slice Ao44 t314.length co44)) (fun _ hk=>hk.2) (.bool true)) (fun _ hk=>hk.2) (.bool true)) (fun _ hk=>⟨hk.1.1,⟨hk.1.2.1,⟨hk.1.2.2.1,⟨hk.1.2.2.2.1,⟨hk.1.2.2.2.2.1,hk.1.2.2.2.2.2⟩⟩⟩⟩⟩)⟩,⟨by (with_reducible repeat first|apply Kd.R_alloc|apply Kd.R_drewN|apply Kd.R_drew);exact Kd.R_mono (Kd.R_far (p:=⟨gb308,3,none⟩) (Kd.R_far (p:=⟨gb308,2,none⟩) (Kd.R_far (p:=⟨gb308,0,none⟩) (Kd.R_far (p:=⟨gb308,1,none⟩) (Kd.R_types HO313.out BK308.out (by decide)) (fun _ hk=>hk.2) (.slice Ao42 t311.length co42)) (fun _ hk=>hk.2) (.slice Ao44 t314.length co44)) (fun _ hk=>hk.2) (.bool true)) (fun _ hk=>hk.2) (.bool true)) (fun _ hk=>hk.1.1)⟩,⟨by (with_reducible repeat first|apply bN|apply bD|apply bA);refine blk_far ?_ NB305_308.out _;(with_reducible repeat first|apply bN|apply bD|apply bA);refine blk_far ?_ NB305_308.out _;(with_reducible repeat first|apply bN|apply bD|apply bA);refine blk_far ?_ NB305_308.out _;(with_reducible repeat first|apply bN|apply bD|apply bA);refine blk_far ?_ NB305_308.out _;(with_reducible repeat first|apply bN|apply bD|apply bA);exact BK305.out⟩,⟨by (with_reducible repeat first|apply bN|apply bD|apply bA);refine blk_far ?_ NB306_308.out _;(with_reducible repeat first|apply bN|apply bD|apply bA);refine blk_far ?_ NB306_308.out _;(with_reducible repeat first|apply bN|apply bD|apply bA);refine blk_far ?_ NB306_308.out _;(with_reducible repeat first|apply bN|apply bD|apply bA);refine blk_far ?_ NB306_308.out _;(with_reducible repeat first|apply bN|apply bD|apply bA);exact BK306.out⟩,⟨by (with_reducible repeat first|apply bN|apply bD|apply bA);refine blk_far ?_ NB307_308.out _;(with_reducible repeat first|apply bN|apply bD|apply bA);refine blk_far ?_ NB307_308.out _;(with_reducible repeat first|apply bN|apply bD|apply bA);refine blk_far ?_ NB307_308.out _;(with_reducible repeat first|apply bN|apply bD|apply bA);refine blk_far ?_ NB307_308.out _;(with_reducible repeat first|apply bN|apply bD|apply bA);exact BK307.out⟩,⟨by (with_reducible repeat first|apply bN|apply bD|apply bA);refine blk_put (cs:=#[.slice Ao44 t314.length co44,.slice Ao42 t311.length co42,.bool true,.bool false]) ?_ 3 _ rfl;(with_reducible repeat first|apply bN|apply bD|apply bA);refine blk_put (cs:=#[.slice Ao44 t314.length co44,.slice Ao42 t311.length co42,.bool false,.bool false]) ?_ 2 _ rfl;(with_reducible repeat first|apply bN|apply bD|apply bA);refine blk_put (cs:=#[.slice none 0 0,.slice Ao42 t311.length co42,.bool false,.bool false]) ?_ 0 _ rfl;(with_reducible repeat first|apply bN|apply bD|apply bA);refine blk_put (cs:=#[.slice none 0 0,.slice none 0 0,.bool false,.bool false]) ?_ 1 _ rfl;(with_reducible repeat first|apply bN|apply bD|apply bA);exact BK308.out⟩,⟨bW HB.out⟩⟩
    case round =>
     clear H'
     try clear c1
     try clear c2
     try clear p2
     try clear c3
     try clear c4
     try clear c5
     try clear c8
     try clear c9
     try clear c10
     try clear c13
     try clear c14
     try clear c15
     try clear c16
     try clear c17
     try clear c20
     try clear c21
     try clear c24
     try clear c25
     try clear c26
     try clear c29
     try clear c30
     try clear c31
     try clear c32
     try clear c34
     try clear c35
     try clear c48
     try clear c49
     try clear c50
     try clear hcz11_0
     try clear hcz11_1
     try clear hcz11_2
     try clear hcz11_3
     try clear hcz18_0
     try clear hcz22_0
     try clear hcz22_1
     try clear hcz22_2
     try clear hcz27_0
     try clear hcz33_0
     try clear hcz33_1
     try clear hcz33_2
     try clear hcz33_3
     try clear hcz36_0
     try clear hcz36_1
     try clear hcz36_2
     try clear hcz36_3
     try clear hcz51_0
     try clear hcz51_1
     try clear hcz51_2
     try clear hfz11_0
     try clear hfz11_1
     try clear hfz11_2
     try clear hfz11_3
     try clear hfz18_0
     try clear hfz22_0
     try clear hfz22_1
     try clear hfz22_2
     try clear hfz27_0
     try clear hfz33_0
     try clear hfz33_1
     try clear hfz33_2
     try clear hfz33_3
     try clear hfz36_0
     try clear hfz36_1
     try clear hfz36_2
     try clear hfz36_3
     try clear hfz51_0
     try clear hfz51_1
     try clear hfz51_2
     try clear p2
     obtain ⟨x32_2,x306000_2,x308002_2,x308003_2,x309000_2,x309003_2,u306000,u309000,rfl,HA,HK2,HO_30,HO_306000,HO_307002,HO_309000,HO_309001,BK305,BK306,BK307,BK308,HB⟩:=hrel
     cases gk with
     | zero=>exact absurd HA.out (by simp [impl_recordOf.l0])
     | succ k2 =>
      have H:=HA.out
      clear HA
      simp only [impl_recordOf.l0] at H
      by_cases c52 : x32_2 < (l1_2.length : Int)
      ·rw [if_pos c52] at H
       have c52b0 : decide (x32_2 < (l1_2.length : Int)) = true:=decide_eq_true c52
       clear c52
       by_cases c53 : 0 ≤ x32_2
       ·rw [if_pos c53] at H
        have c53b0 : decide (0 ≤ x32_2) = true:=decide_eq_true c53
        clear c53
        by_cases c54 : x32_2 < (l1_2.length : Int)
        ·rw [if_pos c54] at H
         have c54b0 : decide (x32_2 < (l1_2.length : Int)) = true:=decide_eq_true c54
         clear c54
         replace H:=Option.bind_eq_some_iff.mp H
         obtain ⟨t318,A550,H⟩:=H
         replace H : (if 0 ≤ t318 then (if t318 < (x309000_2.length : Int) then ((slices_Contains_int64_int64.f k2 (rd_L1 x309000_2 t318) (rd l1_2 x32_2)).bind fun t320=>(if t320 = true then (if x309003_2 = true then (if x32_2 ≤ (l1_2.length : Int) then ((impl_trickAt.f (l1_2.take (x32_2 : Int).toNat)).bind fun t326=>((impl_follow.f k2 (rd_L1 x309000_2 t318) t326).bind fun t329=>((slices_Contains_int64_int64.f k2 t329 (rd l1_2 x32_2)).bind fun t332=>((impl_without.f (rd_L1 x309000_2 t318) (rd l1_2 x32_2)).bind fun t333=>(impl_recordOf.l0 k2 l1_2 (l1_2.length : Int) (wrap64 (x32_2 + 1)) a1_0 a1_1 l1_2 (x309000_2.set (t318 : Int).toNat t333) t311 true t332))))) else (none)) else ((impl_without.f (rd_L1 x309000_2 t318) (rd l1_2 x32_2)).bind fun t337=>(impl_recordOf.l0 k2 l1_2 (l1_2.length : Int) (wrap64 (x32_2 + 1)) a1_0 a1_1 l1_2 (x309000_2.set (t318 : Int).toNat t337) t311 true false))) else (some (([] : List (List Int)),([] : List Int),false,false)))) else (none)) else (none)) = some (r1,r2,r3,r4):=H
         have A55:=aK A550
         clear A550
         by_cases c56 : 0 ≤ t318
         ·rw [if_pos c56] at H
          have c56b0 : decide (0 ≤ t318) = true:=decide_eq_true c56
          clear c56
          by_cases c57 : t318 < (x309000_2.length : Int)
          ·rw [if_pos c57] at H
           have c57b0 : decide (t318 < (x309000_2.length : Int)) = true:=decide_eq_true c57
           clear c57
           replace H:=Option.bind_eq_some_iff.mp H
           obtain ⟨t320,A580,H⟩:=H
           replace H : (if t320 = true then (if x309003_2 = true then (if x32_2 ≤ (l1_2.length : Int) then ((impl_trickAt.f (l1_2.take (x32_2 : Int).toNat)).bind fun t326=>((impl_follow.f k2 (rd_L1 x309000_2 t318) t326).bind fun t329=>((slices_Contains_int64_int64.f k2 t329 (rd l1_2 x32_2)).bind fun t332=>((impl_without.f (rd_L1 x309000_2 t318) (rd l1_2 x32_2)).bind fun t333=>(impl_recordOf.l0 k2 l1_2 (l1_2.length : Int) (wrap64 (x32_2 + 1)) a1_0 a1_1 l1_2 (x309000_2.set (t318 : Int).toNat t333) t311 true t332))))) else (none)) else ((impl_without.f (rd_L1 x309000_2 t318) (rd l1_2 x32_2)).bind fun t337=>(impl_recordOf.l0 k2 l1_2 (l1_2.length : Int) (wrap64 (x32_2 + 1)) a1_0 a1_1 l1_2 (x309000_2.set (t318 : Int).toNat t337) t311 true false))) else (some (([] : List (List Int)),([] : List Int),false,false))) = some (r1,r2,r3,r4):=H
           have A58:=aK A580
           clear A580
           by_cases c59 : t320 = true
           ·subst c59
            have H1 : (if x309003_2 = true then (if x32_2 ≤ (l1_2.length : Int) then ((impl_trickAt.f (l1_2.take (x32_2 : Int).toNat)).bind fun t326=>((impl_follow.f k2 (rd_L1 x309000_2 t318) t326).bind fun t329=>((slices_Contains_int64_int64.f k2 t329 (rd l1_2 x32_2)).bind fun t332=>((impl_without.f (rd_L1 x309000_2 t318) (rd l1_2 x32_2)).bind fun t333=>(impl_recordOf.l0 k2 l1_2 (l1_2.length : Int) (wrap64 (x32_2 + 1)) a1_0 a1_1 l1_2 (x309000_2.set (t318 : Int).toNat t333) t311 true t332))))) else (none)) else ((impl_without.f (rd_L1 x309000_2 t318) (rd l1_2 x32_2)).bind fun t337=>(impl_recordOf.l0 k2 l1_2 (l1_2.length : Int) (wrap64 (x32_2 + 1)) a1_0 a1_1 l1_2 (x309000_2.set (t318 : Int).toNat t337) t311 true false))) = some (r1,r2,r3,r4):=by rw [if_pos rfl] at H;exact H
            clear H
            have H:=H1
            clear H1
            by_cases c60 : x309003_2 = true
            ·subst c60
             have H1 : (if x32_2 ≤ (l1_2.length : Int) then ((impl_trickAt.f (l1_2.take (x32_2 : Int).toNat)).bind fun t326=>((impl_follow.f k2 (rd_L1 x309000_2 t318) t326).bind fun t329=>((slices_Contains_int64_int64.f k2 t329 (rd l1_2 x32_2)).bind fun t332=>((impl_without.f (rd_L1 x309000_2 t318) (rd l1_2 x32_2)).bind fun t333=>(impl_recordOf.l0 k2 l1_2 (l1_2.length : Int) (wrap64 (x32_2 + 1)) a1_0 a1_1 l1_2 (x309000_2.set (t318 : Int).toNat t333) t311 true t332))))) else (none)) = some (r1,r2,r3,r4):=by rw [if_pos rfl] at H;exact H
             clear H
             have H:=H1
             clear H1
             have c61b0:=eq_true (of_decide_eq_true (by first|(with_reducible assumption)|assumption) : 0 ≤ x32_2)
             by_cases c62 : x32_2 ≤ (l1_2.length : Int)
             ·rw [if_pos c62] at H
              have c62b0:=eq_true c62
              have c62b1 : decide (x32_2 ≤ (l1_2.length : Int)) = true:=decide_eq_true c62
              clear c62
              obtain ⟨y321,hy321⟩ : ∃ y_ : List Int,y_ = (l1_2.take (x32_2 : Int).toNat):=⟨_,rfl⟩
              replace H : ((impl_trickAt.f y321).bind fun t326=>((impl_follow.f k2 (rd_L1 x309000_2 t318) t326).bind fun t329=>((slices_Contains_int64_int64.f k2 t329 (rd l1_2 x32_2)).bind fun t332=>((impl_without.f (rd_L1 x309000_2 t318) (rd l1_2 x32_2)).bind fun t333=>(impl_recordOf.l0 k2 l1_2 (l1_2.length : Int) (wrap64 (x32_2 + 1)) a1_0 a1_1 l1_2 (x309000_2.set (t318 : Int).toNat t333) t311 true t332))))) = some (r1,r2,r3,r4):=by first|(rw [hy321];with_reducible exact H)|(have H2_:=(Option.bind_some _ _).symm.trans H;rw [hy321];with_reducible exact H2_)|(have H2_:=(Option.bind_some _ _).symm.trans H;with_reducible exact H2_)|with_reducible exact H|(rw [hy321];exact H)|exact H
              have Ny321:=aK hy321
              clear hy321
              replace H:=Option.bind_eq_some_iff.mp H
              obtain ⟨t326,A630,H⟩:=H
              replace H : ((impl_follow.f k2 (rd_L1 x309000_2 t318) t326).bind fun t329=>((slices_Contains_int64_int64.f k2 t329 (rd l1_2 x32_2)).bind fun t332=>((impl_without.f (rd_L1 x309000_2 t318) (rd l1_2 x32_2)).bind fun t333=>(impl_recordOf.l0 k2 l1_2 (l1_2.length : Int) (wrap64 (x32_2 + 1)) a1_0 a1_1 l1_2 (x309000_2.set (t318 : Int).toNat t333) t311 true t332)))) = some (r1,r2,r3,r4):=H
              have A63:=aK A630
              clear A630
              replace H:=Option.bind_eq_some_iff.mp H
              obtain ⟨t329,A640,H⟩:=H
              replace H : ((slices_Contains_int64_int64.f k2 t329 (rd l1_2 x32_2)).bind fun t332=>((impl_without.f (rd_L1 x309000_2 t318) (rd l1_2 x32_2)).bind fun t333=>(impl_recordOf.l0 k2 l1_2 (l1_2.length : Int) (wrap64 (x32_2 + 1)) a1_0 a1_1 l1_2 (x309000_2.set (t318 : Int).toNat t333) t311 true t332))) = some (r1,r2,r3,r4):=H
              have A64:=aK A640
              clear A640
              replace H:=Option.bind_eq_some_iff.mp H
              obtain ⟨t332,A650,H⟩:=H
              replace H : ((impl_without.f (rd_L1 x309000_2 t318) (rd l1_2 x32_2)).bind fun t333=>(impl_recordOf.l0 k2 l1_2 (l1_2.length : Int) (wrap64 (x32_2 + 1)) a1_0 a1_1 l1_2 (x309000_2.set (t318 : Int).toNat t333) t311 true t332)) = some (r1,r2,r3,r4):=H
              have A65:=aK A650
              clear A650
              replace H:=Option.bind_eq_some_iff.mp H
              obtain ⟨t333,A660,H⟩:=H
              replace H : (impl_recordOf.l0 k2 l1_2 (l1_2.length : Int) (wrap64 (x32_2 + 1)) a1_0 a1_1 l1_2 (x309000_2.set (t318 : Int).toNat t333) t311 true t332) = some (r1,r2,r3,r4):=H
              have A66:=aK A660
              clear A660
              obtain ⟨y336,hy336⟩ : ∃ y_ : List (List Int),y_ = (x309000_2.set (t318 : Int).toNat t333):=⟨_,rfl⟩
              replace H : (impl_recordOf.l0 k2 l1_2 (l1_2.length : Int) (wrap64 (x32_2 + 1)) a1_0 a1_1 l1_2 y336 t311 true t332) = some (r1,r2,r3,r4):=by first|(rw [hy336];with_reducible exact H)|(have H2_:=(Option.bind_some _ _).symm.trans H;rw [hy336];with_reducible exact H2_)|(have H2_:=(Option.bind_some _ _).symm.trans H;with_reducible exact H2_)|with_reducible exact H|(rw [hy336];exact H)|exact H
              have Ny336:=aK hy336
              clear hy336
              have H':=aK H
              clear H
              have p317 : 0 ≤ (x32_2 : Int):=of_decide_eq_true (by first|(with_reducible assumption)|assumption)
              have q317 : x32_2 < (l1_2.length : Int):=of_decide_eq_true (by first|(with_reducible assumption)|assumption)
              obtain ⟨ad317,e317,hx317_0⟩:=Kd.at_int (Kd.V_reads' HO_30.out).2.2 x32_2 p317 q317
              cases e317
              replace p317:=eq_true p317
              replace q317:=eq_true q317
              have hnb68:=NB308_305.out
              have hnc68:=NB305_308.out
              have hnb69:=NB308_306.out
              have hnc69:=NB306_308.out
              have hnb70:=NB308_307.out
              have hnc70:=NB307_308.out
              have hcz71_0 : wr.cell? ⟨gb308,0,none⟩ = some (u309000):=(bC BK308.out 0).trans rfl
              have hcz71_1 : wr.cell? ⟨gb308,1,none⟩ = some (.slice Ao42 t311.length co42):=(bC BK308.out 1).trans rfl
              have hcz71_2 : wr.cell? ⟨gb308,2,none⟩ = some (.bool true):=(bC BK308.out 2).trans rfl
              have hcz71_3 : wr.cell? ⟨gb308,3,none⟩ = some (.bool true):=(bC BK308.out 3).trans rfl
              have hfz71_0:=blk_frozen BK308.out 0
              have hfz71_1:=blk_frozen BK308.out 1
              have hfz71_2:=blk_frozen BK308.out 2
              have hfz71_3:=blk_frozen BK308.out 3
              try go_wp2_with (first|((with_reducible refine gate_callee (f:=110) rfl ?_);refine goesL_ (some 40) rfl rfl Try.func110 (by kernel_rfl) rfl #[.slice Ao42 t311.length co42,.int .i64 x32_2] rfl (by (try simp only [mA,mC,mN]);first|done|rfl) ?_;(with_reducible refine (impl_seatOf.calls _ _ t311 x32_2 t318 _ ?side1 ?side2 A55.out).mono ?_);(case side1=>repeat (first|exact (Kd.R_reads' HO_309001.out).2.2|(with_reducible refine Kd.C_alloc ?_ _)|(with_reducible refine Kd.C_drewN ?_ _)|(with_reducible refine Kd.C_drew ?_)));(case side2=>exact (Kd.R_reads' HO_309001.out).2.1);rintro e w' ⟨rfl,⟨nd,rfl⟩⟩;refine ⟨_,rfl,?_⟩;(try (rw [drewN_self wr];generalize hq_ : World.drewN wr _ = wr;have n0_ : Aside0 (Kd.V (Kd.int .i64) 2 wr w.heap.size (fun k_=>((P0_0_ k_ ∨ P1_2_ k_) ∨ w.heap.size ≤ k_) ∧ some k_ ≠ (u309000 : Value).ownBlock ∧ some k_ ≠ (.slice Ao42 t311.length co42 : Value).ownBlock ∧ k_ ≠ gb305 ∧ k_ ≠ gb306 ∧ k_ ≠ gb307 ∧ k_ ≠ gb308) (.slice (some ad317) l1_2.length c1_2) l1_2):=⟨by rw [← hq_];exact (vX HO_30.out)⟩;have n1_ : Aside0 (Kd.V (Kd.slice 2 (Kd.int .i64)) 22 wr w.heap.size (fun k_=>((P0_0_ k_ ∨ P1_2_ k_) ∨ w.heap.size ≤ k_) ∧ some k_ ≠ (u309000 : Value).ownBlock ∧ some k_ ≠ (.slice Ao42 t311.length co42 : Value).ownBlock ∧ k_ ≠ gb305 ∧ k_ ≠ gb306 ∧ k_ ≠ gb307 ∧ k_ ≠ gb308) u306000 x306000_2):=⟨by rw [← hq_];exact (vX HO_306000.out)⟩;have n2_ : Aside0 (Kd.V (Kd.int .i64) 2 wr w.heap.size (fun k_=>((P0_0_ k_ ∨ P1_2_ k_) ∨ w.heap.size ≤ k_) ∧ some k_ ≠ (u309000 : Value).ownBlock ∧ some k_ ≠ (.slice Ao42 t311.length co42 : Value).ownBlock ∧ k_ ≠ gb305 ∧ k_ ≠ gb306 ∧ k_ ≠ gb307 ∧ k_ ≠ gb308) (.slice (some ad317) l1_2.length c1_2) l1_2):=⟨by rw [← hq_];exact (vX HO_307002.out)⟩;have n3_ : Aside0 (Kd.N (Kd.slice 2 (Kd.int .i64)) 22 wr w.heap.size (fun k_=>((P0_0_ k_ ∨ P1_2_ k_) ∨ w.heap.size ≤ k_) ∧ some k_ ≠ (.slice Ao42 t311.length co42 : Value).ownBlock ∧ k_ ≠ gb305 ∧ k_ ≠ gb306 ∧ k_ ≠ gb307 ∧ k_ ≠ gb308) u309000 x309000_2):=⟨by rw [← hq_];exact (by (with_reducible repeat first|apply Kd.N_alloc|apply Kd.N_drewN|apply Kd.N_drew);exact HO_309000.out)⟩;have n4_ : Aside0 (Kd.R (Kd.int .i64) 2 wr w.heap.size (fun k_=>(w.heap.size ≤ k_)) (.slice Ao42 t311.length co42) t311):=⟨by rw [← hq_];exact (rX HO_309001.out)⟩;have n5_ : Aside0 (wr.heap[gb305]? = some (.cells #[u306000] 44 (0,0))):=⟨by rw [← hq_];exact (bX BK305.out)⟩;have n6_ : Aside0 (wr.heap[gb306]? = some (.cells #[.int .i64 a1_0,.int .i64 a1_1,.slice (some ad317) l1_2.length c1_2] 27 (0,0))):=⟨by rw [← hq_];exact (bX BK306.out)⟩;have n7_ : Aside0 (wr.heap[gb307]? = some (.cells #[.slice none 0 0,.slice none 0 0,.bool x308002_2,.bool x308003_2] 92 (0,0))):=⟨by rw [← hq_];exact (bX BK307.out)⟩;have n8_ : Aside0 (wr.heap[gb308]? = some (.cells #[u309000,.slice Ao42 t311.length co42,.bool true,.bool true] 92 (0,0))):=⟨by rw [← hq_];exact (bX BK308.out)⟩;have n9_ : Aside0 (Below w.heap.size w wr):=⟨by rw [← hq_];exact (bW HB.out)⟩;clear HO_30 HO_306000 HO_307002 HO_309000 HO_309001 BK305 BK306 BK307 BK308 HB hq_;have HO_30:=n0_;have HO_306000:=n1_;have HO_307002:=n2_;have HO_309000:=n3_;have HO_309001:=n4_;have BK305:=n5_;have BK306:=n6_;have BK307:=n7_;have BK308:=n8_;have HB:=n9_;clear n0_ n1_ n2_ n3_ n4_ n5_ n6_ n7_ n8_ n9_;(try replace hcz71_0:=(bC BK308.out 0).trans (rfl : _ = some _));(try replace hcz71_1:=(bC BK308.out 1).trans (rfl : _ = some _));(try replace hcz71_2:=(bC BK308.out 2).trans (rfl : _ = some _));(try replace hcz71_3:=(bC BK308.out 3).trans (rfl : _ = some _));(try replace hfz71_0:=blk_frozen BK308.out 0);(try replace hfz71_1:=blk_frozen BK308.out 1);(try replace hfz71_2:=blk_frozen BK308.out 2);(try replace hfz71_3:=blk_frozen BK308.out 3)));obtain ⟨Ao72,co72,eo72⟩:=Kd.N_slice HO_309000.out;subst eo72;have p319 : 0 ≤ (t318 : Int):=of_decide_eq_true (by first|(with_reducible assumption)|assumption);have q319 : t318 < (x309000_2.length : Int):=of_decide_eq_true (by first|(with_reducible assumption)|assumption);obtain ⟨ad319,A319_0,c319_0,e319,hx319_0,hl319_0,hi319_0⟩:=at_L1 (Kd.N_reads' HO_309000.out).2.2 t318 p319 q319;cases e319;obtain ⟨ce319,hce319,hMe319,hcc319⟩:=Kd.N_get HO_309000.out [] t318 p319 (by first|exact q319|exact of_decide_eq_true (by first|(with_reducible assumption)|assumption)|(have e_:=(Kd.N_reads' HO_309000.out).1;omega));obtain ⟨ua319_0,uc319_0,rfl,ul319_0,ge319_0⟩:=Kd.FK_slice_open hMe319;have hv319_0:=hcc319 0 _ rfl;rw [Nat.add_zero,show ((Kd.slice 2 (Kd.int .i64))).sz = 1 from rfl,Nat.mul_one] at hv319_0;replace hv319_0:=Option.some.inj (hv319_0.symm.trans hx319_0);injection hv319_0 with hva_ hvn_ hvc_;rw [hva_] at ge319_0;rw [hvc_] at ul319_0;have HL319_0:=aK (show Kd.V (Kd.int .i64) 2 _ w.heap.size _ _ (rd_L1 x309000_2 t318) from Kd.V_mk ul319_0 ge319_0);clear hva_ hvn_ hvc_ ge319_0 ul319_0;clear hcc319 hce319;have HR319_0:=aK hi319_0;have HC319_0:=aK hl319_0;clear hi319_0 hl319_0;replace p319:=eq_true p319;replace q319:=eq_true q319)|((with_reducible refine gate_callee (f:=122) rfl ?_);refine goesL_ (some 48) rfl rfl Try.func122 (by kernel_rfl) rfl #[.slice A319_0 (rd_L1 x309000_2 t318).length c319_0,.int .i64 (rd l1_2 x32_2)] rfl (by (try simp only [mA,mC,mN]);first|done|rfl) ?_;(with_reducible refine (slices_Contains_int64_int64.calls k2 _ _ (rd_L1 x309000_2 t318) (rd l1_2 x32_2) true _ ?side1 ?side2 A58.out).mono ?_);(case side1=>repeat (first|exact (by repeat (first|(with_reducible exact HR319_0.out)|(with_reducible refine Kd.C_alloc ?_ _)|(with_reducible refine Kd.C_drewN ?_ _)|(with_reducible refine Kd.C_drew ?_)|exact HR319_0.out))|(with_reducible refine Kd.C_alloc ?_ _)|(with_reducible refine Kd.C_drewN ?_ _)|(with_reducible refine Kd.C_drew ?_)));(case side2=>exact HC319_0.out);rintro e w' ⟨rfl,⟨nd,rfl⟩⟩;refine ⟨_,rfl,?_⟩;(try (rw [drewN_self wr];generalize hq_ : World.drewN wr _ = wr;have n0_ : Aside0 (Kd.V (Kd.int .i64) 2 wr w.heap.size (fun k_=>((P0_0_ k_ ∨ P1_2_ k_) ∨ w.heap.size ≤ k_) ∧ some k_ ≠ (.slice (some ad319) x309000_2.length co72 : Value).ownBlock ∧ some k_ ≠ (.slice Ao42 t311.length co42 : Value).ownBlock ∧ k_ ≠ gb305 ∧ k_ ≠ gb306 ∧ k_ ≠ gb307 ∧ k_ ≠ gb308) (.slice A319_0 (rd_L1 x309000_2 t318).length c319_0) (rd_L1 x309000_2 t318)):=⟨by rw [← hq_];exact (by (with_reducible repeat first|apply Kd.V_alloc|apply Kd.V_drewN|apply Kd.V_drew);exact Kd.V_mono HL319_0.out (fun _ hk=>⟨hk.1.1,⟨hk.2,⟨hk.1.2.1,⟨hk.1.2.2.1,⟨hk.1.2.2.2.1,⟨hk.1.2.2.2.2.1,hk.1.2.2.2.2.2⟩⟩⟩⟩⟩⟩))⟩;have n1_ : Aside0 (Kd.V (Kd.int .i64) 2 wr w.heap.size (fun k_=>((P0_0_ k_ ∨ P1_2_ k_) ∨ w.heap.size ≤ k_) ∧ some k_ ≠ (.slice (some ad319) x309000_2.length co72 : Value).ownBlock ∧ some k_ ≠ (.slice Ao42 t311.length co42 : Value).ownBlock ∧ k_ ≠ gb305 ∧ k_ ≠ gb306 ∧ k_ ≠ gb307 ∧ k_ ≠ gb308) (.slice (some ad317) l1_2.length c1_2) l1_2):=⟨by rw [← hq_];exact (vX HO_30.out)⟩;have n2_ : Aside0 (Kd.V (Kd.slice 2 (Kd.int .i64)) 22 wr w.heap.size (fun k_=>((P0_0_ k_ ∨ P1_2_ k_) ∨ w.heap.size ≤ k_) ∧ some k_ ≠ (.slice (some ad319) x309000_2.length co72 : Value).ownBlock ∧ some k_ ≠ (.slice Ao42 t311.length co42 : Value).ownBlock ∧ k_ ≠ gb305 ∧ k_ ≠ gb306 ∧ k_ ≠ gb307 ∧ k_ ≠ gb308) u306000 x306000_2):=⟨by rw [← hq_];exact (vX HO_306000.out)⟩;have n3_ : Aside0 (Kd.V (Kd.int .i64) 2 wr w.heap.size (fun k_=>((P0_0_ k_ ∨ P1_2_ k_) ∨ w.heap.size ≤ k_) ∧ some k_ ≠ (.slice (some ad319) x309000_2.length co72 : Value).ownBlock ∧ some k_ ≠ (.slice Ao42 t311.length co42 : Value).ownBlock ∧ k_ ≠ gb305 ∧ k_ ≠ gb306 ∧ k_ ≠ gb307 ∧ k_ ≠ gb308) (.slice (some ad317) l1_2.length c1_2) l1_2):=⟨by rw [← hq_];exact (vX HO_307002.out)⟩;have n4_ : Aside0 (Kd.N (Kd.slice 2 (Kd.int .i64)) 22 wr w.heap.size (fun k_=>((P0_0_ k_ ∨ P1_2_ k_) ∨ w.heap.size ≤ k_) ∧ some k_ ≠ (.slice Ao42 t311.length co42 : Value).ownBlock ∧ k_ ≠ gb305 ∧ k_ ≠ gb306 ∧ k_ ≠ gb307 ∧ k_ ≠ gb308) (.slice (some ad319) x309000_2.length co72) x309000_2):=⟨by rw [← hq_];exact (by (with_reducible repeat first|apply Kd.N_alloc|apply Kd.N_drewN|apply Kd.N_drew);exact HO_309000.out)⟩;have n5_ : Aside0 (Kd.R (Kd.int .i64) 2 wr w.heap.size (fun k_=>(w.heap.size ≤ k_)) (.slice Ao42 t311.length co42) t311):=⟨by rw [← hq_];exact (rX HO_309001.out)⟩;have n6_ : Aside0 (wr.heap[gb305]? = some (.cells #[u306000] 44 (0,0))):=⟨by rw [← hq_];exact (bX BK305.out)⟩;have n7_ : Aside0 (wr.heap[gb306]? = some (.cells #[.int .i64 a1_0,.int .i64 a1_1,.slice (some ad317) l1_2.length c1_2] 27 (0,0))):=⟨by rw [← hq_];exact (bX BK306.out)⟩;have n8_ : Aside0 (wr.heap[gb307]? = some (.cells #[.slice none 0 0,.slice none 0 0,.bool x308002_2,.bool x308003_2] 92 (0,0))):=⟨by rw [← hq_];exact (bX BK307.out)⟩;have n9_ : Aside0 (wr.heap[gb308]? = some (.cells #[.slice (some ad319) x309000_2.length co72,.slice Ao42 t311.length co42,.bool true,.bool true] 92 (0,0))):=⟨by rw [← hq_];exact (bX BK308.out)⟩;have n10_ : Aside0 (Below w.heap.size w wr):=⟨by rw [← hq_];exact (bW HB.out)⟩;have n11_ : Aside0 (Kd.C (Kd.int .i64) wr A319_0 (rd_L1 x309000_2 t318).length (rd_L1 x309000_2 t318)):=⟨by rw [← hq_];exact (by repeat (first|(with_reducible exact HR319_0.out)|(with_reducible refine Kd.C_alloc ?_ _)|(with_reducible refine Kd.C_drewN ?_ _)|(with_reducible refine Kd.C_drew ?_)|exact HR319_0.out))⟩;clear HL319_0 HO_30 HO_306000 HO_307002 HO_309000 HO_309001 BK305 BK306 BK307 BK308 HB HR319_0 hq_;have HL319_0:=n0_;have HO_30:=n1_;have HO_306000:=n2_;have HO_307002:=n3_;have HO_309000:=n4_;have HO_309001:=n5_;have BK305:=n6_;have BK306:=n7_;have BK307:=n8_;have BK308:=n9_;have HB:=n10_;have HR319_0:=n11_;clear n0_ n1_ n2_ n3_ n4_ n5_ n6_ n7_ n8_ n9_ n10_ n11_;(try replace hcz71_0:=(bC BK308.out 0).trans (rfl : _ = some _));(try replace hcz71_1:=(bC BK308.out 1).trans (rfl : _ = some _));(try replace hcz71_2:=(bC BK308.out 2).trans (rfl : _ = some _));(try replace hcz71_3:=(bC BK308.out 3).trans (rfl : _ = some _));(try replace hfz71_0:=blk_frozen BK308.out 0);(try replace hfz71_1:=blk_frozen BK308.out 1);(try replace hfz71_2:=blk_frozen BK308.out 2);(try replace hfz71_3:=blk_frozen BK308.out 3)));have hnb73:=NB306_305.out;have hnc73:=NB305_306.out;have hnb74:=NB306_307.out;have hnc74:=NB307_306.out;have hcz75_0 : wr.cell? ⟨gb306,0,none⟩ = some (.int .i64 a1_0):=(bC BK306.out 0).trans rfl;have hcz75_1 : wr.cell? ⟨gb306,1,none⟩ = some (.int .i64 a1_1):=(bC BK306.out 1).trans rfl;have hcz75_2 : wr.cell? ⟨gb306,2,none⟩ = some (.slice (some ad317) l1_2.length c1_2):=(bC BK306.out 2).trans rfl;have hfz75_0:=blk_frozen BK306.out 0;have hfz75_1:=blk_frozen BK306.out 1;have hfz75_2:=blk_frozen BK306.out 2;have q76 : (x32_2 : Int) ≤ ((l1_2.length : Int) : Int):=of_decide_eq_true (by first|(with_reducible assumption)|assumption);obtain ⟨i076,hi076,_,hsz76,_⟩:=info_parts info2;have hroom76 : l1_2.length ≤ c1_2:=(Kd.V_reads' HO_307002.out).2.1;have hC76 : Kd.F (Kd.int .i64) _ _ (some ad317) l1_2.length l1_2:=(Kd.V_at (base:=w.heap.size) HO_307002.out).2.2;have hcut76:=cut_to (P:=Try.prog) 22 2 .i64 Try.underlying22 hi076 (some ad317) l1_2.length c1_2 x32_2 (of_decide_eq_true (by first|(with_reducible assumption)|assumption)) q76 hroom76;have hr76:=Kd.F_take (m:=(x32_2 : Int).toNat) hC76 (by omega);have hy76 : y321.length = (x32_2 : Int).toNat:=(by rw [Ny321.out,List.length_take];omega);rw [← Ny321.out] at hr76;rw [← hy76] at hcut76;have HO325:=aK (show Kd.V (Kd.int .i64) 2 _ w.heap.size _ (.slice (some ad317) y321.length c1_2) y321 from Kd.V_mk (by omega) hr76);have HC325:=aK (show y321.length ≤ c1_2 from by omega);clear hr76 hC76 hroom76 hi076 hsz76;have KY76:=aK hy76;clear hy76;replace q76:=eq_true q76)|(go_at_call 117;(with_reducible refine (impl_trickAt.calls (fun k_=>(((P0_0_ k_ ∨ P1_2_ k_) ∨ w.heap.size ≤ k_) ∧ (some k_ ≠ (.slice (some ad319) x309000_2.length co72 : Value).ownBlock ∧ (some k_ ≠ (.slice Ao42 t311.length co42 : Value).ownBlock ∧ (k_ ≠ gb305 ∧ (k_ ≠ gb306 ∧ (k_ ≠ gb307 ∧ k_ ≠ gb308))))))) _ _ y321 t326 _ ?side1 A63.out).mono ?_);(case side1=>exact HO325.out);rintro e w77 ⟨v327,rfl,ho0,hb⟩;have n0_:=aK (Kd.V_below (vX HO_30.out) hb);have n1_:=aK (Kd.V_below (vX HO_306000.out) hb);have n2_:=aK (Kd.V_below (vX HO_307002.out) hb);have n3_:=aK (Kd.N_below (by (with_reducible repeat first|apply Kd.N_alloc|apply Kd.N_drewN|apply Kd.N_drew);exact HO_309000.out) hb);have n4_:=aK (Kd.R_below (rX HO_309001.out) hb);have n5_:=aK (Kd.V_below (vX HL319_0.out) hb);have n6_:=aK (Kd.V_below (vX HO325.out) hb);have n7_:=aK (Kd.V_lower (Kd.V_mono (ok':=fun k_=>((P0_0_ k_ ∨ P1_2_ k_) ∨ w.heap.size ≤ k_) ∧ some k_ ≠ (.slice (some ad319) x309000_2.length co72 : Value).ownBlock ∧ some k_ ≠ (.slice Ao42 t311.length co42 : Value).ownBlock ∧ k_ ≠ gb305 ∧ k_ ≠ gb306 ∧ k_ ≠ gb307 ∧ k_ ≠ gb308) ho0 (fun k_ hk_=>⟨Or.elim hk_ (fun hs_=>hs_.1) (fun hn_=>(.inr (Nat.le_trans (below_size (bW HB.out)) hn_))),Or.elim hk_ (fun hs_=>hs_.2.1) (fun hn_=>(Kd.fresh' (Kd.N_lt (by (with_reducible repeat first|apply Kd.N_alloc|apply Kd.N_drewN|apply Kd.N_drew);exact HO_309000.out)) k_ hn_)),Or.elim hk_ (fun hs_=>hs_.2.2.1) (fun hn_=>(Kd.fresh' (Kd.R_lt (rX HO_309001.out)) k_ hn_)),Or.elim hk_ (fun hs_=>hs_.2.2.2.1) (fun hn_=>(Kd.freshB (g:=gb305) (o:=.cells #[u306000] 44 (0,0)) (bX BK305.out) k_ hn_)),Or.elim hk_ (fun hs_=>hs_.2.2.2.2.1) (fun hn_=>(Kd.freshB (g:=gb306) (o:=.cells #[.int .i64 a1_0,.int .i64 a1_1,.slice (some ad317) l1_2.length c1_2] 27 (0,0)) (bX BK306.out) k_ hn_)),Or.elim hk_ (fun hs_=>hs_.2.2.2.2.2.1) (fun hn_=>(Kd.freshB (g:=gb307) (o:=.cells #[.slice none 0 0,.slice none 0 0,.bool x308002_2,.bool x308003_2] 92 (0,0)) (bX BK307.out) k_ hn_)),Or.elim hk_ (fun hs_=>hs_.2.2.2.2.2.2) (fun hn_=>(Kd.freshB (g:=gb308) (o:=.cells #[.slice (some ad319) x309000_2.length co72,.slice Ao42 t311.length co42,.bool true,.bool true] 92 (0,0)) (bX BK308.out) k_ hn_))⟩)) (below_size (bW HB.out)));have n8_:=aK (bB (bX BK305.out) hb);have n9_:=aK (bB (bX BK306.out) hb);have n10_:=aK (bB (bX BK307.out) hb);have n11_:=aK (bB (bX BK308.out) hb);have n12_:=aK (Kd.C_below (by repeat (first|(with_reducible exact HR319_0.out)|(with_reducible refine Kd.C_alloc ?_ _)|(with_reducible refine Kd.C_drewN ?_ _)|(with_reducible refine Kd.C_drew ?_)|exact HR319_0.out)) hb);have n13_:=aK (below_step (bW HB.out) hb);clear HO_30;clear HO_306000;clear HO_307002;clear HO_309000;clear HO_309001;clear HL319_0;clear HO325;clear BK305;clear BK306;clear BK307;clear BK308;clear HR319_0;clear HB;have HO_30:=n0_;have HO_306000:=n1_;have HO_307002:=n2_;have HO_309000:=n3_;have HO_309001:=n4_;have HL319_0:=n5_;have HO325:=n6_;have HO328:=n7_;have BK305:=n8_;have BK306:=n9_;have BK307:=n10_;have BK308:=n11_;have HR319_0:=n12_;have HB:=n13_;clear n0_ n1_ n2_ n3_ n4_ n5_ n6_ n7_ n8_ n9_ n10_ n11_ n12_ n13_;(try clear hb);(try clear hb2);(try clear hk);(try clear hi);(try clear ho0);obtain ⟨Ao78,co78,eo78⟩:=Kd.V_slice HO328.out;subst eo78)|(go_at_call 116;(with_reducible refine (impl_follow.calls k2 (fun k_=>(((P0_0_ k_ ∨ P1_2_ k_) ∨ w.heap.size ≤ k_) ∧ (some k_ ≠ (.slice (some ad319) x309000_2.length co72 : Value).ownBlock ∧ (some k_ ≠ (.slice Ao42 t311.length co42 : Value).ownBlock ∧ (k_ ≠ gb305 ∧ (k_ ≠ gb306 ∧ (k_ ≠ gb307 ∧ k_ ≠ gb308))))))) _ _ (rd_L1 x309000_2 t318) _ _ t326 t329 _ ?side1 ?side2 ?side3 A64.out).mono ?_);(case side1=>exact HL319_0.out);(case side2=>repeat (first|exact (Kd.V_reads' HO328.out).2.2|(with_reducible refine Kd.C_alloc ?_ _)|(with_reducible refine Kd.C_drewN ?_ _)|(with_reducible refine Kd.C_drew ?_)));(case side3=>exact (Kd.V_reads' HO328.out).2.1);rintro e w79 ⟨v330,rfl,ho0,hb⟩;have n0_:=aK (Kd.V_below (vX HO_30.out) hb);have n1_:=aK (Kd.V_below (vX HO_306000.out) hb);have n2_:=aK (Kd.V_below (vX HO_307002.out) hb);have n3_:=aK (Kd.N_below (by (with_reducible repeat first|apply Kd.N_alloc|apply Kd.N_drewN|apply Kd.N_drew);exact HO_309000.out) hb);have n4_:=aK (Kd.R_below (rX HO_309001.out) hb);have n5_:=aK (Kd.V_below (vX HL319_0.out) hb);have n6_:=aK (Kd.V_below (vX HO325.out) hb);have n7_:=aK (Kd.V_below (vX HO328.out) hb);have n8_:=aK (Kd.V_lower (Kd.V_mono (ok':=fun k_=>((P0_0_ k_ ∨ P1_2_ k_) ∨ w.heap.size ≤ k_) ∧ some k_ ≠ (.slice (some ad319) x309000_2.length co72 : Value).ownBlock ∧ some k_ ≠ (.slice Ao42 t311.length co42 : Value).ownBlock ∧ k_ ≠ gb305 ∧ k_ ≠ gb306 ∧ k_ ≠ gb307 ∧ k_ ≠ gb308) ho0 (fun k_ hk_=>⟨Or.elim hk_ (fun hs_=>hs_.1) (fun hn_=>(.inr (Nat.le_trans (below_size (bW HB.out)) hn_))),Or.elim hk_ (fun hs_=>hs_.2.1) (fun hn_=>(Kd.fresh' (Kd.N_lt (by (with_reducible repeat first|apply Kd.N_alloc|apply Kd.N_drewN|apply Kd.N_drew);exact HO_309000.out)) k_ hn_)),Or.elim hk_ (fun hs_=>hs_.2.2.1) (fun hn_=>(Kd.fresh' (Kd.R_lt (rX HO_309001.out)) k_ hn_)),Or.elim hk_ (fun hs_=>hs_.2.2.2.1) (fun hn_=>(Kd.freshB (g:=gb305) (o:=.cells #[u306000] 44 (0,0)) (bX BK305.out) k_ hn_)),Or.elim hk_ (fun hs_=>hs_.2.2.2.2.1) (fun hn_=>(Kd.freshB (g:=gb306) (o:=.cells #[.int .i64 a1_0,.int .i64 a1_1,.slice (some ad317) l1_2.length c1_2] 27 (0,0)) (bX BK306.out) k_ hn_)),Or.elim hk_ (fun hs_=>hs_.2.2.2.2.2.1) (fun hn_=>(Kd.freshB (g:=gb307) (o:=.cells #[.slice none 0 0,.slice none 0 0,.bool x308002_2,.bool x308003_2] 92 (0,0)) (bX BK307.out) k_ hn_)),Or.elim hk_ (fun hs_=>hs_.2.2.2.2.2.2) (fun hn_=>(Kd.freshB (g:=gb308) (o:=.cells #[.slice (some ad319) x309000_2.length co72,.slice Ao42 t311.length co42,.bool true,.bool true] 92 (0,0)) (bX BK308.out) k_ hn_))⟩)) (below_size (bW HB.out)));have n9_:=aK (bB (bX BK305.out) hb);have n10_:=aK (bB (bX BK306.out) hb);have n11_:=aK (bB (bX BK307.out) hb);have n12_:=aK (bB (bX BK308.out) hb);have n13_:=aK (Kd.C_below (by repeat (first|(with_reducible exact HR319_0.out)|(with_reducible refine Kd.C_alloc ?_ _)|(with_reducible refine Kd.C_drewN ?_ _)|(with_reducible refine Kd.C_drew ?_)|exact HR319_0.out)) hb);have n14_:=aK (below_step (bW HB.out) hb);clear HO_30;clear HO_306000;clear HO_307002;clear HO_309000;clear HO_309001;clear HL319_0;clear HO325;clear HO328;clear BK305;clear BK306;clear BK307;clear BK308;clear HR319_0;clear HB;have HO_30:=n0_;have HO_306000:=n1_;have HO_307002:=n2_;have HO_309000:=n3_;have HO_309001:=n4_;have HL319_0:=n5_;have HO325:=n6_;have HO328:=n7_;have HO331:=n8_;have BK305:=n9_;have BK306:=n10_;have BK307:=n11_;have BK308:=n12_;have HR319_0:=n13_;have HB:=n14_;clear n0_ n1_ n2_ n3_ n4_ n5_ n6_ n7_ n8_ n9_ n10_ n11_ n12_ n13_ n14_;(try clear hb);(try clear hb2);(try clear hk);(try clear hi);(try clear ho0);obtain ⟨Ao80,co80,eo80⟩:=Kd.V_slice HO331.out;subst eo80)|(go_at_call 122;(with_reducible refine (slices_Contains_int64_int64.calls k2 _ _ t329 (rd l1_2 x32_2) t332 _ ?side1 ?side2 A65.out).mono ?_);(case side1=>repeat (first|exact (Kd.V_reads' HO331.out).2.2|(with_reducible refine Kd.C_alloc ?_ _)|(with_reducible refine Kd.C_drewN ?_ _)|(with_reducible refine Kd.C_drew ?_)));(case side2=>exact (Kd.V_reads' HO331.out).2.1);rintro e w' ⟨rfl,⟨nd,rfl⟩⟩;(try (rw [drewN_self w79];generalize hq_ : World.drewN w79 _ = w79;have n0_ : Aside0 (Kd.V (Kd.int .i64) 2 w79 w.heap.size (fun k_=>((P0_0_ k_ ∨ P1_2_ k_) ∨ w.heap.size ≤ k_) ∧ some k_ ≠ (.slice (some ad319) x309000_2.length co72 : Value).ownBlock ∧ some k_ ≠ (.slice Ao42 t311.length co42 : Value).ownBlock ∧ k_ ≠ gb305 ∧ k_ ≠ gb306 ∧ k_ ≠ gb307 ∧ k_ ≠ gb308) (.slice A319_0 (rd_L1 x309000_2 t318).length c319_0) (rd_L1 x309000_2 t318)):=⟨by rw [← hq_];exact (vX HL319_0.out)⟩;have n1_ : Aside0 (Kd.V (Kd.int .i64) 2 w79 w.heap.size (fun k_=>((P0_0_ k_ ∨ P1_2_ k_) ∨ w.heap.size ≤ k_) ∧ some k_ ≠ (.slice (some ad319) x309000_2.length co72 : Value).ownBlock ∧ some k_ ≠ (.slice Ao42 t311.length co42 : Value).ownBlock ∧ k_ ≠ gb305 ∧ k_ ≠ gb306 ∧ k_ ≠ gb307 ∧ k_ ≠ gb308) (.slice (some ad317) y321.length c1_2) y321):=⟨by rw [← hq_];exact (vX HO325.out)⟩;have n2_ : Aside0 (Kd.V (Kd.int .i64) 2 w79 w.heap.size (fun k_=>((P0_0_ k_ ∨ P1_2_ k_) ∨ w.heap.size ≤ k_) ∧ some k_ ≠ (.slice (some ad319) x309000_2.length co72 : Value).ownBlock ∧ some k_ ≠ (.slice Ao42 t311.length co42 : Value).ownBlock ∧ k_ ≠ gb305 ∧ k_ ≠ gb306 ∧ k_ ≠ gb307 ∧ k_ ≠ gb308) (.slice Ao78 t326.length co78) t326):=⟨by rw [← hq_];exact (vX HO328.out)⟩;have n3_ : Aside0 (Kd.V (Kd.int .i64) 2 w79 w.heap.size (fun k_=>((P0_0_ k_ ∨ P1_2_ k_) ∨ w.heap.size ≤ k_) ∧ some k_ ≠ (.slice (some ad319) x309000_2.length co72 : Value).ownBlock ∧ some k_ ≠ (.slice Ao42 t311.length co42 : Value).ownBlock ∧ k_ ≠ gb305 ∧ k_ ≠ gb306 ∧ k_ ≠ gb307 ∧ k_ ≠ gb308) (.slice Ao80 t329.length co80) t329):=⟨by rw [← hq_];exact (vX HO331.out)⟩;have n4_ : Aside0 (Kd.V (Kd.int .i64) 2 w79 w.heap.size (fun k_=>((P0_0_ k_ ∨ P1_2_ k_) ∨ w.heap.size ≤ k_) ∧ some k_ ≠ (.slice (some ad319) x309000_2.length co72 : Value).ownBlock ∧ some k_ ≠ (.slice Ao42 t311.length co42 : Value).ownBlock ∧ k_ ≠ gb305 ∧ k_ ≠ gb306 ∧ k_ ≠ gb307 ∧ k_ ≠ gb308) (.slice (some ad317) l1_2.length c1_2) l1_2):=⟨by rw [← hq_];exact (vX HO_30.out)⟩;have n5_ : Aside0 (Kd.V (Kd.slice 2 (Kd.int .i64)) 22 w79 w.heap.size (fun k_=>((P0_0_ k_ ∨ P1_2_ k_) ∨ w.heap.size ≤ k_) ∧ some k_ ≠ (.slice (some ad319) x309000_2.length co72 : Value).ownBlock ∧ some k_ ≠ (.slice Ao42 t311.length co42 : Value).ownBlock ∧ k_ ≠ gb305 ∧ k_ ≠ gb306 ∧ k_ ≠ gb307 ∧ k_ ≠ gb308) u306000 x306000_2):=⟨by rw [← hq_];exact (vX HO_306000.out)⟩;have n6_ : Aside0 (Kd.V (Kd.int .i64) 2 w79 w.heap.size (fun k_=>((P0_0_ k_ ∨ P1_2_ k_) ∨ w.heap.size ≤ k_) ∧ some k_ ≠ (.slice (some ad319) x309000_2.length co72 : Value).ownBlock ∧ some k_ ≠ (.slice Ao42 t311.length co42 : Value).ownBlock ∧ k_ ≠ gb305 ∧ k_ ≠ gb306 ∧ k_ ≠ gb307 ∧ k_ ≠ gb308) (.slice (some ad317) l1_2.length c1_2) l1_2):=⟨by rw [← hq_];exact (vX HO_307002.out)⟩;have n7_ : Aside0 (Kd.N (Kd.slice 2 (Kd.int .i64)) 22 w79 w.heap.size (fun k_=>((P0_0_ k_ ∨ P1_2_ k_) ∨ w.heap.size ≤ k_) ∧ some k_ ≠ (.slice Ao42 t311.length co42 : Value).ownBlock ∧ k_ ≠ gb305 ∧ k_ ≠ gb306 ∧ k_ ≠ gb307 ∧ k_ ≠ gb308) (.slice (some ad319) x309000_2.length co72) x309000_2):=⟨by rw [← hq_];exact (by (with_reducible repeat first|apply Kd.N_alloc|apply Kd.N_drewN|apply Kd.N_drew);exact HO_309000.out)⟩;have n8_ : Aside0 (Kd.R (Kd.int .i64) 2 w79 w.heap.size (fun k_=>(w.heap.size ≤ k_)) (.slice Ao42 t311.length co42) t311):=⟨by rw [← hq_];exact (rX HO_309001.out)⟩;have n9_ : Aside0 (w79.heap[gb305]? = some (.cells #[u306000] 44 (0,0))):=⟨by rw [← hq_];exact (bX BK305.out)⟩;have n10_ : Aside0 (w79.heap[gb306]? = some (.cells #[.int .i64 a1_0,.int .i64 a1_1,.slice (some ad317) l1_2.length c1_2] 27 (0,0))):=⟨by rw [← hq_];exact (bX BK306.out)⟩;have n11_ : Aside0 (w79.heap[gb307]? = some (.cells #[.slice none 0 0,.slice none 0 0,.bool x308002_2,.bool x308003_2] 92 (0,0))):=⟨by rw [← hq_];exact (bX BK307.out)⟩;have n12_ : Aside0 (w79.heap[gb308]? = some (.cells #[.slice (some ad319) x309000_2.length co72,.slice Ao42 t311.length co42,.bool true,.bool true] 92 (0,0))):=⟨by rw [← hq_];exact (bX BK308.out)⟩;have n13_ : Aside0 (Below w.heap.size w w79):=⟨by rw [← hq_];exact (bW HB.out)⟩;have n14_ : Aside0 (Kd.C (Kd.int .i64) w79 A319_0 (rd_L1 x309000_2 t318).length (rd_L1 x309000_2 t318)):=⟨by rw [← hq_];exact (by repeat (first|(with_reducible exact HR319_0.out)|(with_reducible refine Kd.C_alloc ?_ _)|(with_reducible refine Kd.C_drewN ?_ _)|(with_reducible refine Kd.C_drew ?_)|exact HR319_0.out))⟩;clear HL319_0 HO325 HO328 HO331 HO_30 HO_306000 HO_307002 HO_309000 HO_309001 BK305 BK306 BK307 BK308 HB HR319_0 hq_;have HL319_0:=n0_;have HO325:=n1_;have HO328:=n2_;have HO331:=n3_;have HO_30:=n4_;have HO_306000:=n5_;have HO_307002:=n6_;have HO_309000:=n7_;have HO_309001:=n8_;have BK305:=n9_;have BK306:=n10_;have BK307:=n11_;have BK308:=n12_;have HB:=n13_;have HR319_0:=n14_;clear n0_ n1_ n2_ n3_ n4_ n5_ n6_ n7_ n8_ n9_ n10_ n11_ n12_ n13_ n14_;(try replace hcz71_0:=(bC BK308.out 0).trans (rfl : _ = some _));(try replace hcz71_1:=(bC BK308.out 1).trans (rfl : _ = some _));(try replace hcz71_2:=(bC BK308.out 2).trans (rfl : _ = some _));(try replace hcz71_3:=(bC BK308.out 3).trans (rfl : _ = some _));(try replace hfz71_0:=blk_frozen BK308.out 0);(try replace hfz71_1:=blk_frozen BK308.out 1);(try replace hfz71_2:=blk_frozen BK308.out 2);(try replace hfz71_3:=blk_frozen BK308.out 3)));have hcz81_0 : w79.cell? ⟨gb308,0,none⟩ = some (.slice (some ad319) x309000_2.length co72):=(bC BK308.out 0).trans rfl;have hcz81_1 : w79.cell? ⟨gb308,1,none⟩ = some (.slice Ao42 t311.length co42):=(bC BK308.out 1).trans rfl;have hcz81_2 : w79.cell? ⟨gb308,2,none⟩ = some (.bool true):=(bC BK308.out 2).trans rfl;have hcz81_3 : w79.cell? ⟨gb308,3,none⟩ = some (.bool true):=(bC BK308.out 3).trans rfl;have hfz81_0:=blk_frozen BK308.out 0;have hfz81_1:=blk_frozen BK308.out 1;have hfz81_2:=blk_frozen BK308.out 2;have hfz81_3:=blk_frozen BK308.out 3))
              have n0_ : Aside0 (Kd.V (Kd.int .i64) 2 (w79.setCell ⟨gb308,3,none⟩ (.bool t332)) w.heap.size (fun k_=>((P0_0_ k_ ∨ P1_2_ k_) ∨ w.heap.size ≤ k_) ∧ some k_ ≠ (.slice (some ad319) x309000_2.length co72 : Value).ownBlock ∧ some k_ ≠ (.slice Ao42 t311.length co42 : Value).ownBlock ∧ k_ ≠ gb305 ∧ k_ ≠ gb306 ∧ k_ ≠ gb307 ∧ k_ ≠ gb308) (.slice (some ad317) l1_2.length c1_2) l1_2):=⟨by (with_reducible repeat first|apply Kd.V_alloc|apply Kd.V_drewN|apply Kd.V_drew);exact Kd.V_mono (Kd.V_far (p:=⟨gb308,3,none⟩) (Kd.V_mono HO_30.out (fun k_ hk=>(⟨hk,hk.2.2.2.2.2.2⟩ : _ ∧ k_ ≠ gb308))) (fun _ hk=>hk.2) (.bool t332)) (fun _ hk=>⟨hk.1.1,⟨hk.1.2.1,⟨hk.1.2.2.1,⟨hk.1.2.2.2.1,⟨hk.1.2.2.2.2.1,⟨hk.1.2.2.2.2.2.1,hk.1.2.2.2.2.2.2⟩⟩⟩⟩⟩⟩)⟩
              have n1_ : Aside0 (Kd.V (Kd.slice 2 (Kd.int .i64)) 22 (w79.setCell ⟨gb308,3,none⟩ (.bool t332)) w.heap.size (fun k_=>((P0_0_ k_ ∨ P1_2_ k_) ∨ w.heap.size ≤ k_) ∧ some k_ ≠ (.slice (some ad319) x309000_2.length co72 : Value).ownBlock ∧ some k_ ≠ (.slice Ao42 t311.length co42 : Value).ownBlock ∧ k_ ≠ gb305 ∧ k_ ≠ gb306 ∧ k_ ≠ gb307 ∧ k_ ≠ gb308) u306000 x306000_2):=⟨by (with_reducible repeat first|apply Kd.V_alloc|apply Kd.V_drewN|apply Kd.V_drew);exact Kd.V_mono (Kd.V_far (p:=⟨gb308,3,none⟩) (Kd.V_mono HO_306000.out (fun k_ hk=>(⟨hk,hk.2.2.2.2.2.2⟩ : _ ∧ k_ ≠ gb308))) (fun _ hk=>hk.2) (.bool t332)) (fun _ hk=>⟨hk.1.1,⟨hk.1.2.1,⟨hk.1.2.2.1,⟨hk.1.2.2.2.1,⟨hk.1.2.2.2.2.1,⟨hk.1.2.2.2.2.2.1,hk.1.2.2.2.2.2.2⟩⟩⟩⟩⟩⟩)⟩
              have n2_ : Aside0 (Kd.V (Kd.int .i64) 2 (w79.setCell ⟨gb308,3,none⟩ (.bool t332)) w.heap.size (fun k_=>((P0_0_ k_ ∨ P1_2_ k_) ∨ w.heap.size ≤ k_) ∧ some k_ ≠ (.slice (some ad319) x309000_2.length co72 : Value).ownBlock ∧ some k_ ≠ (.slice Ao42 t311.length co42 : Value).ownBlock ∧ k_ ≠ gb305 ∧ k_ ≠ gb306 ∧ k_ ≠ gb307 ∧ k_ ≠ gb308) (.slice (some ad317) l1_2.length c1_2) l1_2):=⟨by (with_reducible repeat first|apply Kd.V_alloc|apply Kd.V_drewN|apply Kd.V_drew);exact Kd.V_mono (Kd.V_far (p:=⟨gb308,3,none⟩) (Kd.V_mono HO_307002.out (fun k_ hk=>(⟨hk,hk.2.2.2.2.2.2⟩ : _ ∧ k_ ≠ gb308))) (fun _ hk=>hk.2) (.bool t332)) (fun _ hk=>⟨hk.1.1,⟨hk.1.2.1,⟨hk.1.2.2.1,⟨hk.1.2.2.2.1,⟨hk.1.2.2.2.2.1,⟨hk.1.2.2.2.2.2.1,hk.1.2.2.2.2.2.2⟩⟩⟩⟩⟩⟩)⟩
              have n3_ : Aside0 (Kd.N (Kd.slice 2 (Kd.int .i64)) 22 (w79.setCell ⟨gb308,3,none⟩ (.bool t332)) w.heap.size (fun k_=>((P0_0_ k_ ∨ P1_2_ k_) ∨ w.heap.size ≤ k_) ∧ some k_ ≠ (.slice Ao42 t311.length co42 : Value).ownBlock ∧ k_ ≠ gb305 ∧ k_ ≠ gb306 ∧ k_ ≠ gb307 ∧ k_ ≠ gb308) (.slice (some ad319) x309000_2.length co72) x309000_2):=⟨by (with_reducible repeat first|apply Kd.N_alloc|apply Kd.N_drewN|apply Kd.N_drew);exact Kd.N_mono (Kd.N_far (p:=⟨gb308,3,none⟩) (Kd.N_mono HO_309000.out (fun k_ hk=>(⟨hk,hk.2.2.2.2.2⟩ : _ ∧ k_ ≠ gb308))) (fun _ hk=>hk.2) (.bool t332)) (fun _ hk=>⟨hk.1.1,⟨hk.1.2.1,⟨hk.1.2.2.1,⟨hk.1.2.2.2.1,⟨hk.1.2.2.2.2.1,hk.1.2.2.2.2.2⟩⟩⟩⟩⟩)⟩
              have n4_ : Aside0 (Kd.R (Kd.int .i64) 2 (w79.setCell ⟨gb308,3,none⟩ (.bool t332)) w.heap.size (fun k_=>(w.heap.size ≤ k_)) (.slice Ao42 t311.length co42) t311):=⟨by (with_reducible repeat first|apply Kd.R_alloc|apply Kd.R_drewN|apply Kd.R_drew);exact Kd.R_mono (Kd.R_far (p:=⟨gb308,3,none⟩) (Kd.R_types HO_309001.out BK308.out (by decide)) (fun _ hk=>hk.2) (.bool t332)) (fun _ hk=>hk.1)⟩
              have n5_ : Aside0 (Kd.V (Kd.int .i64) 2 (w79.setCell ⟨gb308,3,none⟩ (.bool t332)) w.heap.size (fun k_=>((P0_0_ k_ ∨ P1_2_ k_) ∨ w.heap.size ≤ k_) ∧ some k_ ≠ (.slice (some ad319) x309000_2.length co72 : Value).ownBlock ∧ some k_ ≠ (.slice Ao42 t311.length co42 : Value).ownBlock ∧ k_ ≠ gb305 ∧ k_ ≠ gb306 ∧ k_ ≠ gb307 ∧ k_ ≠ gb308) (.slice A319_0 (rd_L1 x309000_2 t318).length c319_0) (rd_L1 x309000_2 t318)):=⟨by (with_reducible repeat first|apply Kd.V_alloc|apply Kd.V_drewN|apply Kd.V_drew);exact Kd.V_mono (Kd.V_far (p:=⟨gb308,3,none⟩) (Kd.V_mono HL319_0.out (fun k_ hk=>(⟨hk,hk.2.2.2.2.2.2⟩ : _ ∧ k_ ≠ gb308))) (fun _ hk=>hk.2) (.bool t332)) (fun _ hk=>⟨hk.1.1,⟨hk.1.2.1,⟨hk.1.2.2.1,⟨hk.1.2.2.2.1,⟨hk.1.2.2.2.2.1,⟨hk.1.2.2.2.2.2.1,hk.1.2.2.2.2.2.2⟩⟩⟩⟩⟩⟩)⟩
              have n6_ : Aside0 (Kd.V (Kd.int .i64) 2 (w79.setCell ⟨gb308,3,none⟩ (.bool t332)) w.heap.size (fun k_=>((P0_0_ k_ ∨ P1_2_ k_) ∨ w.heap.size ≤ k_) ∧ some k_ ≠ (.slice (some ad319) x309000_2.length co72 : Value).ownBlock ∧ some k_ ≠ (.slice Ao42 t311.length co42 : Value).ownBlock ∧ k_ ≠ gb305 ∧ k_ ≠ gb306 ∧ k_ ≠ gb307 ∧ k_ ≠ gb308) (.slice (some ad317) y321.length c1_2) y321):=⟨by (with_reducible repeat first|apply Kd.V_alloc|apply Kd.V_drewN|apply Kd.V_drew);exact Kd.V_mono (Kd.V_far (p:=⟨gb308,3,none⟩) (Kd.V_mono HO325.out (fun k_ hk=>(⟨hk,hk.2.2.2.2.2.2⟩ : _ ∧ k_ ≠ gb308))) (fun _ hk=>hk.2) (.bool t332)) (fun _ hk=>⟨hk.1.1,⟨hk.1.2.1,⟨hk.1.2.2.1,⟨hk.1.2.2.2.1,⟨hk.1.2.2.2.2.1,⟨hk.1.2.2.2.2.2.1,hk.1.2.2.2.2.2.2⟩⟩⟩⟩⟩⟩)⟩
              have n7_ : Aside0 (Kd.V (Kd.int .i64) 2 (w79.setCell ⟨gb308,3,none⟩ (.bool t332)) w.heap.size (fun k_=>((P0_0_ k_ ∨ P1_2_ k_) ∨ w.heap.size ≤ k_) ∧ some k_ ≠ (.slice (some ad319) x309000_2.length co72 : Value).ownBlock ∧ some k_ ≠ (.slice Ao42 t311.length co42 : Value).ownBlock ∧ k_ ≠ gb305 ∧ k_ ≠ gb306 ∧ k_ ≠ gb307 ∧ k_ ≠ gb308) (.slice Ao78 t326.length co78) t326):=⟨by (with_reducible repeat first|apply Kd.V_alloc|apply Kd.V_drewN|apply Kd.V_drew);exact Kd.V_mono (Kd.V_far (p:=⟨gb308,3,none⟩) (Kd.V_mono HO328.out (fun k_ hk=>(⟨hk,hk.2.2.2.2.2.2⟩ : _ ∧ k_ ≠ gb308))) (fun _ hk=>hk.2) (.bool t332)) (fun _ hk=>⟨hk.1.1,⟨hk.1.2.1,⟨hk.1.2.2.1,⟨hk.1.2.2.2.1,⟨hk.1.2.2.2.2.1,⟨hk.1.2.2.2.2.2.1,hk.1.2.2.2.2.2.2⟩⟩⟩⟩⟩⟩)⟩
              have n8_ : Aside0 (Kd.V (Kd.int .i64) 2 (w79.setCell ⟨gb308,3,none⟩ (.bool t332)) w.heap.size (fun k_=>((P0_0_ k_ ∨ P1_2_ k_) ∨ w.heap.size ≤ k_) ∧ some k_ ≠ (.slice (some ad319) x309000_2.length co72 : Value).ownBlock ∧ some k_ ≠ (.slice Ao42 t311.length co42 : Value).ownBlock ∧ k_ ≠ gb305 ∧ k_ ≠ gb306 ∧ k_ ≠ gb307 ∧ k_ ≠ gb308) (.slice Ao80 t329.length co80) t329):=⟨by (with_reducible repeat first|apply Kd.V_alloc|apply Kd.V_drewN|apply Kd.V_drew);exact Kd.V_mono (Kd.V_far (p:=⟨gb308,3,none⟩) (Kd.V_mono HO331.out (fun k_ hk=>(⟨hk,hk.2.2.2.2.2.2⟩ : _ ∧ k_ ≠ gb308))) (fun _ hk=>hk.2) (.bool t332)) (fun _ hk=>⟨hk.1.1,⟨hk.1.2.1,⟨hk.1.2.2.1,⟨hk.1.2.2.2.1,⟨hk.1.2.2.2.2.1,⟨hk.1.2.2.2.2.2.1,hk.1.2.2.2.2.2.2⟩⟩⟩⟩⟩⟩)⟩
              have n9_ : Aside0 ((w79.setCell ⟨gb308,3,none⟩ (.bool t332)).heap[gb305]? = some (.cells #[u306000] 44 (0,0))):=⟨by (with_reducible repeat first|apply bN|apply bD|apply bA);refine blk_far ?_ NB305_308.out _;(with_reducible repeat first|apply bN|apply bD|apply bA);exact BK305.out⟩
              have n10_ : Aside0 ((w79.setCell ⟨gb308,3,none⟩ (.bool t332)).heap[gb306]? = some (.cells #[.int .i64 a1_0,.int .i64 a1_1,.slice (some ad317) l1_2.length c1_2] 27 (0,0))):=⟨by (with_reducible repeat first|apply bN|apply bD|apply bA);refine blk_far ?_ NB306_308.out _;(with_reducible repeat first|apply bN|apply bD|apply bA);exact BK306.out⟩
              have n11_ : Aside0 ((w79.setCell ⟨gb308,3,none⟩ (.bool t332)).heap[gb307]? = some (.cells #[.slice none 0 0,.slice none 0 0,.bool x308002_2,.bool x308003_2] 92 (0,0))):=⟨by (with_reducible repeat first|apply bN|apply bD|apply bA);refine blk_far ?_ NB307_308.out _;(with_reducible repeat first|apply bN|apply bD|apply bA);exact BK307.out⟩
              have n12_ : Aside0 ((w79.setCell ⟨gb308,3,none⟩ (.bool t332)).heap[gb308]? = some (.cells #[.slice (some ad319) x309000_2.length co72,.slice Ao42 t311.length co42,.bool true,.bool t332] 92 (0,0))):=⟨by (with_reducible repeat first|apply bN|apply bD|apply bA);refine blk_put (cs:=#[.slice (some ad319) x309000_2.length co72,.slice Ao42 t311.length co42,.bool true,.bool true]) ?_ 3 _ rfl;(with_reducible repeat first|apply bN|apply bD|apply bA);exact BK308.out⟩
              have n13_ : Aside0 (Below w.heap.size w (w79.setCell ⟨gb308,3,none⟩ (.bool t332))):=⟨bW HB.out⟩
              (try clear HO_30)
              (try clear HO_306000)
              (try clear HO_307002)
              (try clear HO_309000)
              (try clear HO_309001)
              (try clear HL319_0)
              (try clear HO325)
              (try clear HO328)
              (try clear HO331)
              (try clear BK305)
              (try clear BK306)
              (try clear BK307)
              (try clear BK308)
              (try clear HB)
              generalize (w79.setCell ⟨gb308,3,none⟩ (.bool t332)) = w82 at n0_ n1_ n2_ n3_ n4_ n5_ n6_ n7_ n8_ n9_ n10_ n11_ n12_ n13_ ⊢
              have HO_30:=n0_
              have HO_306000:=n1_
              have HO_307002:=n2_
              have HO_309000:=n3_
              have HO_309001:=n4_
              have HL319_0:=n5_
              have HO325:=n6_
              have HO328:=n7_
              have HO331:=n8_
              have BK305:=n9_
              have BK306:=n10_
              have BK307:=n11_
              have BK308:=n12_
              have HB:=n13_
              clear n0_ n1_ n2_ n3_ n4_ n5_ n6_ n7_ n8_ n9_ n10_ n11_ n12_ n13_
              have n0_:=aK (Kd.V_drew HO_30.out)
              have n1_:=aK (Kd.V_drew HO_306000.out)
              have n2_:=aK (Kd.V_drew HO_307002.out)
              have n3_:=aK (Kd.N_drew HO_309000.out)
              have n4_:=aK (Kd.R_drew HO_309001.out)
              have n5_:=aK (Kd.V_drew HL319_0.out)
              have n6_:=aK (Kd.V_drew HO325.out)
              have n7_:=aK (Kd.V_drew HO328.out)
              have n8_:=aK (Kd.V_drew HO331.out)
              have n9_:=aK (bD BK305.out)
              have n10_:=aK (bD BK306.out)
              have n11_:=aK (bD BK307.out)
              have n12_:=aK (bD BK308.out)
              have n13_:=aK (b1 HB.out)
              clear HO_30
              clear HO_306000
              clear HO_307002
              clear HO_309000
              clear HO_309001
              clear HL319_0
              clear HO325
              clear HO328
              clear HO331
              clear BK305
              clear BK306
              clear BK307
              clear BK308
              clear HB
              have HO_30:=n0_
              have HO_306000:=n1_
              have HO_307002:=n2_
              have HO_309000:=n3_
              have HO_309001:=n4_
              have HL319_0:=n5_
              have HO325:=n6_
              have HO328:=n7_
              have HO331:=n8_
              have BK305:=n9_
              have BK306:=n10_
              have BK307:=n11_
              have BK308:=n12_
              have HB:=n13_
              clear n0_ n1_ n2_ n3_ n4_ n5_ n6_ n7_ n8_ n9_ n10_ n11_ n12_ n13_
              refine start_ (n:=8) (S:=fun w'=>w'.cell? ⟨gb308,0,none⟩ = some (.slice (some ad319) x309000_2.length co72) ∧ w'.cell? ⟨gb308,1,none⟩ = some (.slice Ao42 t311.length co42) ∧ w'.cell? ⟨gb308,2,none⟩ = some (.bool true) ∧ w'.cell? ⟨gb308,3,none⟩ = some (.bool t332)) (ds:=[7]) #[false,false,false,false,false,false,false,false] (by kernel_rfl) rfl rfl ⟨(bC BK308.out 0).trans rfl,(bC BK308.out 1).trans rfl,(bC BK308.out 2).trans rfl,(bC BK308.out 3).trans rfl⟩ (fun hHeld=>?_);refine with_tabW impl_recordOf.tab13 impl_recordOf.bits13 (fun HT_ HW_=>?_)
              generalize w82.drew = w83 at HO_30 HO_306000 HO_307002 HO_309000 HO_309001 HL319_0 HO325 HO328 HO331 BK305 BK306 BK307 BK308 HB hHeld ⊢
              refine pure_ (i:=0) (N:=some 65) (v:=?_) (a':=?_) #[true,false,false,false,false,false,false,false] rfl rfl (any_of HT_.out (by kernel_rfl)) (fun _ _ _ h=>h) (Or.inl ⟨by rfl,?_⟩) ?_ ?_
              rotate_left
              ·intro w'
               go_simp
               with_reducible rfl
              rotate_left
              ·simp only [Act.put,lA,l0',lS,i64_w,i32_w]
               rfl
              refine pure_ (i:=2) (N:=some 67) (v:=?_) (a':=?_) #[true,false,true,false,false,false,false,false] rfl rfl (any_of HT_.out (by kernel_rfl)) (fun _ _ _ h=>h) (Or.inl ⟨by rfl,?_⟩) ?_ ?_
              rotate_left
              ·intro w'
               go_simp
               with_reducible rfl
              rotate_left
              ·simp only [Act.put,lA,l0',lS,i64_w,i32_w]
               rfl
              refine pure_ (i:=3) (N:=some 68) (v:=?_) (a':=?_) #[true,false,true,true,false,false,false,false] rfl rfl (any_of HT_.out (by kernel_rfl)) (fun _ _ _ h=>h) (Or.inl ⟨by rfl,?_⟩) ?_ ?_
              rotate_left
              ·intro w'
               go_simp
               with_reducible rfl
              rotate_left
              ·simp only [Act.put,lA,l0',lS,i64_w,i32_w]
               rfl
              refine pure_ (i:=4) (N:=some 69) (v:=?_) (a':=?_) #[true,false,true,true,true,false,false,false] rfl rfl (any_of HT_.out (by kernel_rfl)) (fun _ _ _ h=>h) (Or.inl ⟨by rfl,?_⟩) ?_ ?_
              rotate_left
              ·intro w'
               go_simp
               with_reducible rfl
              rotate_left
              ·simp only [Act.put,lA,l0',lS,i64_w,i32_w]
               rfl
              refine take_ (i:=1) (N:=some 66) (v:=?_) (a':=?_) #[true,true,true,true,true,false,false,false] rfl rfl (take_ofW HT_.out HW_.out (by kernel_rfl)) (fun _ _ _ h=>h) (Or.inl ⟨by rfl,?_⟩) hHeld ?_ ?_
              rotate_left
              ·rintro w' ⟨s0,s1,s2,s3⟩
               go_simp
               with_reducible rfl
              rotate_left
              ·simp only [Act.put,lA,l0',lS,i64_w,i32_w]
               rfl
              refine one_ (i:=5) (N:=some 70) #[true,true,true,true,true,true,false,false] rfl rfl (one_of HT_.out (by kernel_rfl)) (by decide) (fun K hK=>?_)
              refine goes_ Try.func145 (by kernel_rfl) rfl #[.slice A319_0 (rd_L1 x309000_2 t318).length c319_0,.int .i64 (rd l1_2 x32_2)] (by rfl) rfl rfl (by (try simp only [mA,mC,mN]);first|done|rfl) ?_
              with_reducible refine (impl_without.calls _ _ (rd_L1 x309000_2 t318) (rd l1_2 x32_2) t333 _ ?side1 ?side2 A66.out).mono ?_
              (case side1=>repeat (first|exact ((Kd.V_reads' (vX HL319_0.out)).2.2)|(with_reducible refine Kd.C_alloc ?_ _)|(with_reducible refine Kd.C_drewN ?_ _)|(with_reducible refine Kd.C_drew ?_)))
              (case side2=>exact HC319_0.out)
              rintro e w84 ⟨v334,rfl,ho0,hb⟩
              refine ⟨_,rfl,?_⟩
              have n0_:=aK (Kd.V_elder' (vX HO_30.out) (Kd.R_base ho0) hb)
              have n1_:=aK (Kd.V_elder' (vX HO_306000.out) (Kd.R_base ho0) hb)
              have n2_:=aK (Kd.V_elder' (vX HO_307002.out) (Kd.R_base ho0) hb)
              have n3_:=aK (Kd.N_elder' (by (with_reducible repeat first|apply Kd.N_alloc|apply Kd.N_drewN|apply Kd.N_drew);exact HO_309000.out) (Kd.R_base ho0) hb)
              have n4_:=aK (Kd.R_elder' (rX HO_309001.out) (Kd.R_base ho0) hb)
              have n5_:=aK (Kd.V_elder' (vX HL319_0.out) (Kd.R_base ho0) hb)
              have n6_:=aK (Kd.V_elder' (vX HO325.out) (Kd.R_base ho0) hb)
              have n7_:=aK (Kd.V_elder' (vX HO328.out) (Kd.R_base ho0) hb)
              have n8_:=aK (Kd.V_elder' (vX HO331.out) (Kd.R_base ho0) hb)
              have n9_:=aK (Kd.R_lower (Kd.R_new' (Kd.R_newM (M:=fun k_=>(w.heap.size ≤ k_)) ho0 (below_size (bW HB.out)) (fun k_ h_=>h_)) (Kd.R_lt (rX HO_309001.out))) (below_size (bW HB.out)))
              have n10_:=aK (bB (bX BK305.out) hb)
              have n11_:=aK (bB (bX BK306.out) hb)
              have n12_:=aK (bB (bX BK307.out) hb)
              have n13_:=aK (bB (bX BK308.out) hb)
              have n14_:=aK (below_step (bW HB.out) hb)
              clear HO_30
              clear HO_306000
              clear HO_307002
              clear HO_309000
              clear HO_309001
              clear HL319_0
              clear HO325
              clear HO328
              clear HO331
              clear BK305
              clear BK306
              clear BK307
              clear BK308
              clear HB
              have HO_30:=n0_
              have HO_306000:=n1_
              have HO_307002:=n2_
              have HO_309000:=n3_
              have HO_309001:=n4_
              have HL319_0:=n5_
              have HO325:=n6_
              have HO328:=n7_
              have HO331:=n8_
              have HO335:=n9_
              have BK305:=n10_
              have BK306:=n11_
              have BK307:=n12_
              have BK308:=n13_
              have HB:=n14_
              clear n0_ n1_ n2_ n3_ n4_ n5_ n6_ n7_ n8_ n9_ n10_ n11_ n12_ n13_ n14_
              (try clear hb)
              (try clear hb2)
              (try clear hk)
              (try clear hi)
              (try clear ho0)
              have p67 : 0 ≤ (t318 : Int):=of_decide_eq_true (by first|(with_reducible assumption)|assumption)
              have q67 : (t318 : Int) < ((x309000_2.length : Int) : Int):=of_decide_eq_true (by first|(with_reducible assumption)|assumption)
              obtain ⟨go67,co67,eo67,gb67,gl67,cl67,HG67⟩:=Kd.N_form HO_309000.out (by omega)
              (first|cases eo67|(injection eo67 with ea_ en_ ec_;(first|subst ea_|(injection ea_ with ea_;subst ea_));subst ec_;clear en_))
              have GB67:=aK gb67
              have GG67:=aK HG67
              clear gb67 gl67 HG67
              (first|simp only [add_plain] at hx319_0|skip)
              obtain ⟨ce67,hcl67,hM67,hcc67,hfr67⟩:=Kd.N_elem HO_309000.out [] (t318 : Int) p67 q67
              obtain ⟨ua67_0,uc67_0,rfl,ul67_0,ge67_0⟩:=Kd.FK_slice_open hM67
              have hx67_0:=hcc67 0 _ rfl
              have hf67_0:=hfr67 0
              (try simp only [show ((Kd.slice 2 (Kd.int .i64))).sz = 1 from rfl,Nat.mul_one,Nat.add_zero] at hx67_0)
              (try simp only [show ((Kd.slice 2 (Kd.int .i64))).sz = 1 from rfl,Nat.mul_one,Nat.add_zero] at hf67_0)
              (try clear hM67);clear hcl67 hcc67 hfr67
              replace p67:=eq_true p67
              replace q67:=eq_true q67
              have HX85:=aK (show Kd.N (Kd.slice 2 (Kd.int .i64)) 22 _ w.heap.size (fun k_=>((P0_0_ k_ ∨ P1_2_ k_) ∨ w.heap.size ≤ k_) ∧ some k_ ≠ (.slice Ao42 t311.length co42 : Value).ownBlock ∧ some k_ ≠ (v334 : Value).ownBlock ∧ k_ ≠ gb305 ∧ k_ ≠ gb306 ∧ k_ ≠ gb307 ∧ k_ ≠ gb308) (.slice (some ⟨go67,0,none⟩) x309000_2.length co72) x309000_2 from (Kd.N_mono (HO_309000.out) (fun k_ hk=>⟨hk.1.1,⟨hk.1.2.1,⟨hk.2,⟨hk.1.2.2.1,⟨hk.1.2.2.2.1,⟨hk.1.2.2.2.2.1,hk.1.2.2.2.2.2⟩⟩⟩⟩⟩⟩)))
              replace HX85:=aK (show Kd.N (Kd.slice 2 (Kd.int .i64)) 22 _ w.heap.size (fun k_=>((P0_0_ k_ ∨ P1_2_ k_) ∨ w.heap.size ≤ k_) ∧ some k_ ≠ (.slice Ao42 t311.length co42 : Value).ownBlock ∧ k_ ≠ gb305 ∧ k_ ≠ gb306 ∧ k_ ≠ gb307 ∧ k_ ≠ gb308) (.slice (some ⟨go67,0,none⟩) x309000_2.length co72) x309000_2 from Kd.N_mono HX85.out (fun k_ hk=>⟨hk.1,⟨hk.2.1,⟨hk.2.2.2.1,⟨hk.2.2.2.2.1,⟨hk.2.2.2.2.2.1,hk.2.2.2.2.2.2⟩⟩⟩⟩⟩))
              obtain ⟨ce85,hcl85,hM85,hcc85,hfr85⟩:=Kd.N_elem HX85.out [] (t318 : Int) (of_decide_eq_true (by first|(with_reducible assumption)|assumption)) (by have h_ : (t318 : Int) < ((x309000_2.length : Int) : Int):=of_decide_eq_true (by first|(with_reducible assumption)|assumption);first|exact h_|(have e_:=(Kd.N_reads' HO_309000.out).1;omega)|simpa using h_)
              obtain ⟨ua85_0,uc85_0,rfl,ul85_0,ge85_0⟩:=Kd.FK_slice_open hM85
              have HP85:=(Kd.N_seg HX85.out (t318 : Int) (of_decide_eq_true (by first|(with_reducible assumption)|assumption)) (by have h_ : (t318 : Int) < ((x309000_2.length : Int) : Int):=of_decide_eq_true (by first|(with_reducible assumption)|assumption);first|exact h_|(have e_:=(Kd.N_reads' HO_309000.out).1;omega)|simpa using h_) (seg:=[v334]) (j:=0) hcl85 hcc85 (show 1 ≤ 1 from by decide) (x':=t333) (Kd.FK_of_M (Kd.M_row (Kd.R_mono (ok':=(fun k_=>((fun k_=>((P0_0_ k_ ∨ P1_2_ k_) ∨ w.heap.size ≤ k_) ∧ some k_ ≠ (.slice Ao42 t311.length co42 : Value).ownBlock ∧ k_ ≠ gb305 ∧ k_ ≠ gb306 ∧ k_ ≠ gb307 ∧ k_ ≠ gb308)) k_ ∧ k_ ≠ go67)) (Kd.R_types (Kd.R_types (Kd.R_types (Kd.R_types (Kd.R_apart' (HO335.out) (Kd.N_typed HO_309000.out) (by decide)) BK305.out (by decide)) BK306.out (by decide)) BK307.out (by decide)) BK308.out (by decide)) (fun k_ hk=>⟨⟨(.inr (hk.1.1.1.1.1.1.1)),⟨hk.1.1.1.1.1.2,⟨hk.1.1.1.2,⟨hk.1.1.2,⟨hk.1.2,hk.2⟩⟩⟩⟩⟩,fun e_=>(hk.1.1.1.1.2) (by rw [e_];rfl)⟩)))) (fun _ hk=>hk)).1
              (try simp only [show ((Kd.slice 2 (Kd.int .i64))).sz = 1 from rfl,Nat.mul_one,Nat.add_zero] at HP85)
              rw [← Ny336.out] at HP85
              have HQ85:=aK HP85
              (try clear hM85);clear hcl85 hcc85 hfr85 HP85
              refine hK.out _ _ ⟨(bC BK308.out 0).trans rfl,(bC BK308.out 1).trans rfl,(bC BK308.out 2).trans rfl,(bC BK308.out 3).trans rfl⟩ (fun hHeld=>?_)
              clear hK K
              refine norm_ (a':=?_) ?_ ?_
              rotate_left
              ·show Act.put _ (some 70) _ = _
               simp only [Act.put,lA,l0',lS,i64_w,i32_w]
               rfl
              refine pure_ (i:=6) (N:=some 71) (v:=?_) (a':=?_) #[true,true,true,true,true,true,true,false] rfl rfl (any_of HT_.out (by kernel_rfl)) (fun _ _ _ h=>h) (Or.inl ⟨by rfl,?_⟩) ?_ ?_
              rotate_left
              ·intro w'
               go_simp
               with_reducible rfl
              rotate_left
              ·simp only [Act.put,lA,l0',lS,i64_w,i32_w]
               rfl
              refine last_ (i:=7) (N:=none) #[true,true,true,true,true,true,true,true] rfl rfl (one_of HT_.out (by kernel_rfl)) (by decide) (fun K hK=>?_)
              refine skip_ (w1:=(w84.setCell ⟨go67,(t318 : Int).toNat,none⟩ (v334))) (by rfl) rfl ?_ ?_
              ·obtain ⟨Av_,cv_,ev_⟩:=Kd.R_slice HO335.out
               subst ev_
               go_simp
               try rfl
              refine hK.out _ _ ?_
              clear hK K
              refine done_ (done_of HT_.out (by kernel_rfl)) ?_
              try go_wp2
              go_roundg k2
              case measure=>have:=HJ2.out;have:=HK2.out;omega
              case rel=>exact ⟨(wrap64 (x32_2 + 1)),(x306000_2),(x308002_2),(x308003_2),(y336),(t332),(u306000),(.slice (some ⟨go67,0,none⟩) x309000_2.length co72),(by first|rfl|(simp;done)|(simp [*];done)),H',⟨by have:=HJ2.out;have:=HK2.out;omega⟩,⟨by (with_reducible repeat first|apply Kd.V_alloc|apply Kd.V_drewN|apply Kd.V_drew);exact Kd.V_mono (Kd.V_far (p:=⟨go67,(t318 : Int).toNat,none⟩) (Kd.V_mono HO_30.out (fun k_ hk=>(⟨hk,fun e_=>hk.1.2.1 (by rw [e_];rfl)⟩ : _ ∧ k_ ≠ go67))) (fun _ hk=>hk.2) (v334)) (fun _ hk=>⟨hk.1.1.1,⟨hk.1.1.2.1,⟨hk.1.1.2.2.1,⟨hk.1.1.2.2.2.1,⟨hk.1.1.2.2.2.2.1,⟨hk.1.1.2.2.2.2.2.1,hk.1.1.2.2.2.2.2.2⟩⟩⟩⟩⟩⟩)⟩,⟨by (with_reducible repeat first|apply Kd.V_alloc|apply Kd.V_drewN|apply Kd.V_drew);exact Kd.V_mono (Kd.V_far (p:=⟨go67,(t318 : Int).toNat,none⟩) (Kd.V_mono HO_306000.out (fun k_ hk=>(⟨hk,fun e_=>hk.1.2.1 (by rw [e_];rfl)⟩ : _ ∧ k_ ≠ go67))) (fun _ hk=>hk.2) (v334)) (fun _ hk=>⟨hk.1.1.1,⟨hk.1.1.2.1,⟨hk.1.1.2.2.1,⟨hk.1.1.2.2.2.1,⟨hk.1.1.2.2.2.2.1,⟨hk.1.1.2.2.2.2.2.1,hk.1.1.2.2.2.2.2.2⟩⟩⟩⟩⟩⟩)⟩,⟨by (with_reducible repeat first|apply Kd.V_alloc|apply Kd.V_drewN|apply Kd.V_drew);exact Kd.V_mono (Kd.V_far (p:=⟨go67,(t318 : Int).toNat,none⟩) (Kd.V_mono HO_307002.out (fun k_ hk=>(⟨hk,fun e_=>hk.1.2.1 (by rw [e_];rfl)⟩ : _ ∧ k_ ≠ go67))) (fun _ hk=>hk.2) (v334)) (fun _ hk=>⟨hk.1.1.1,⟨hk.1.1.2.1,⟨hk.1.1.2.2.1,⟨hk.1.1.2.2.2.1,⟨hk.1.1.2.2.2.2.1,⟨hk.1.1.2.2.2.2.2.1,hk.1.1.2.2.2.2.2.2⟩⟩⟩⟩⟩⟩)⟩,⟨by (with_reducible repeat first|apply Kd.N_alloc|apply Kd.N_drewN|apply Kd.N_drew);exact HQ85.out⟩,⟨by (with_reducible repeat first|apply Kd.R_alloc|apply Kd.R_drewN|apply Kd.R_drew);exact Kd.R_mono (Kd.R_far (p:=⟨go67,(t318 : Int).toNat,none⟩) (Kd.R_types HO_309001.out GG67.out (by decide)) (fun _ hk=>hk.2) (v334)) (fun _ hk=>hk.1.1)⟩,⟨by (with_reducible repeat first|apply bN|apply bD|apply bA);refine blk_far ?_ (by have h_:=Kd.N_away (g:=gb305) HO_309000.out (fun k_ hk_=>by have h_:=hk_;(try simp only [and_assoc,true_and] at h_);with_reducible first|exact h_.1|exact h_.2.1|exact h_.2.2.1|exact h_.2.2.2.1|exact h_.2.2.2.2.1|exact h_.2.2.2.2.2.1|exact h_.2.2.2.2.2.2.1|exact h_.2.2.2.2.2.2.2.1|exact h_.2.2.2.2.2.2.2.2.1|exact h_.2|exact h_.2.2|exact h_.2.2.2|exact h_.2.2.2.2|exact h_.2.2.2.2.2|exact h_.2.2.2.2.2.2|exact h_.2.2.2.2.2.2.2|exact h_.2.2.2.2.2.2.2.2);intro e_;exact h_ (by rw [e_];rfl)) _;(with_reducible repeat first|apply bN|apply bD|apply bA);exact BK305.out⟩,⟨by (with_reducible repeat first|apply bN|apply bD|apply bA);refine blk_far ?_ (by have h_:=Kd.N_away (g:=gb306) HO_309000.out (fun k_ hk_=>by have h_:=hk_;(try simp only [and_assoc,true_and] at h_);with_reducible first|exact h_.1|exact h_.2.1|exact h_.2.2.1|exact h_.2.2.2.1|exact h_.2.2.2.2.1|exact h_.2.2.2.2.2.1|exact h_.2.2.2.2.2.2.1|exact h_.2.2.2.2.2.2.2.1|exact h_.2.2.2.2.2.2.2.2.1|exact h_.2|exact h_.2.2|exact h_.2.2.2|exact h_.2.2.2.2|exact h_.2.2.2.2.2|exact h_.2.2.2.2.2.2|exact h_.2.2.2.2.2.2.2|exact h_.2.2.2.2.2.2.2.2);intro e_;exact h_ (by rw [e_];rfl)) _;(with_reducible repeat first|apply bN|apply bD|apply bA);exact BK306.out⟩,⟨by (with_reducible repeat first|apply bN|apply bD|apply bA);refine blk_far ?_ (by have h_:=Kd.N_away (g:=gb307) HO_309000.out (fun k_ hk_=>by have h_:=hk_;(try simp only [and_assoc,true_and] at h_);with_reducible first|exact h_.1|exact h_.2.1|exact h_.2.2.1|exact h_.2.2.2.1|exact h_.2.2.2.2.1|exact h_.2.2.2.2.2.1|exact h_.2.2.2.2.2.2.1|exact h_.2.2.2.2.2.2.2.1|exact h_.2.2.2.2.2.2.2.2.1|exact h_.2|exact h_.2.2|exact h_.2.2.2|exact h_.2.2.2.2|exact h_.2.2.2.2.2|exact h_.2.2.2.2.2.2|exact h_.2.2.2.2.2.2.2|exact h_.2.2.2.2.2.2.2.2);intro e_;exact h_ (by rw [e_];rfl)) _;(with_reducible repeat first|apply bN|apply bD|apply bA);exact BK307.out⟩,⟨by (with_reducible repeat first|apply bN|apply bD|apply bA);refine blk_far ?_ (by have h_:=Kd.N_away (g:=gb308) HO_309000.out (fun k_ hk_=>by have h_:=hk_;(try simp only [and_assoc,true_and] at h_);with_reducible first|exact h_.1|exact h_.2.1|exact h_.2.2.1|exact h_.2.2.2.1|exact h_.2.2.2.2.1|exact h_.2.2.2.2.2.1|exact h_.2.2.2.2.2.2.1|exact h_.2.2.2.2.2.2.2.1|exact h_.2.2.2.2.2.2.2.2.1|exact h_.2|exact h_.2.2|exact h_.2.2.2|exact h_.2.2.2.2|exact h_.2.2.2.2.2|exact h_.2.2.2.2.2.2|exact h_.2.2.2.2.2.2.2|exact h_.2.2.2.2.2.2.2.2);intro e_;exact h_ (by rw [e_];rfl)) _;(with_reducible repeat first|apply bN|apply bD|apply bA);exact BK308.out⟩,⟨bW HB.out⟩⟩
             ·rw [if_neg c62] at H
              exact absurd H (by simp)
            ·replace c60:=Bool.eq_false_iff.mpr c60
             subst c60
             have H1 : ((impl_without.f (rd_L1 x309000_2 t318) (rd l1_2 x32_2)).bind fun t337=>(impl_recordOf.l0 k2 l1_2 (l1_2.length : Int) (wrap64 (x32_2 + 1)) a1_0 a1_1 l1_2 (x309000_2.set (t318 : Int).toNat t337) t311 true false)) = some (r1,r2,r3,r4):=by rw [if_neg (show ¬ (false = true) by decide)] at H;exact H
             clear H
             have H:=H1
             clear H1
             replace H:=Option.bind_eq_some_iff.mp H
             obtain ⟨t337,A860,H⟩:=H
             replace H : (impl_recordOf.l0 k2 l1_2 (l1_2.length : Int) (wrap64 (x32_2 + 1)) a1_0 a1_1 l1_2 (x309000_2.set (t318 : Int).toNat t337) t311 true false) = some (r1,r2,r3,r4):=H
             have A86:=aK A860
             clear A860
             obtain ⟨y340,hy340⟩ : ∃ y_ : List (List Int),y_ = (x309000_2.set (t318 : Int).toNat t337):=⟨_,rfl⟩
             replace H : (impl_recordOf.l0 k2 l1_2 (l1_2.length : Int) (wrap64 (x32_2 + 1)) a1_0 a1_1 l1_2 y340 t311 true false) = some (r1,r2,r3,r4):=by first|(rw [hy340];with_reducible exact H)|(have H2_:=(Option.bind_some _ _).symm.trans H;rw [hy340];with_reducible exact H2_)|(have H2_:=(Option.bind_some _ _).symm.trans H;with_reducible exact H2_)|with_reducible exact H|(rw [hy340];exact H)|exact H
             have Ny340:=aK hy340
             clear hy340
             have H':=aK H
             clear H
             have p317 : 0 ≤ (x32_2 : Int):=of_decide_eq_true (by first|(with_reducible assumption)|assumption)
             have q317 : x32_2 < (l1_2.length : Int):=of_decide_eq_true (by first|(with_reducible assumption)|assumption)
             obtain ⟨ad317,e317,hx317_0⟩:=Kd.at_int (Kd.V_reads' HO_30.out).2.2 x32_2 p317 q317
             cases e317
             replace p317:=eq_true p317
             replace q317:=eq_true q317
             have hnb88:=NB308_305.out
             have hnc88:=NB305_308.out
             have hnb89:=NB308_306.out
             have hnc89:=NB306_308.out
             have hnb90:=NB308_307.out
             have hnc90:=NB307_308.out
             have hcz91_0 : wr.cell? ⟨gb308,0,none⟩ = some (u309000):=(bC BK308.out 0).trans rfl
             have hcz91_1 : wr.cell? ⟨gb308,1,none⟩ = some (.slice Ao42 t311.length co42):=(bC BK308.out 1).trans rfl
             have hcz91_2 : wr.cell? ⟨gb308,2,none⟩ = some (.bool true):=(bC BK308.out 2).trans rfl
             have hcz91_3 : wr.cell? ⟨gb308,3,none⟩ = some (.bool false):=(bC BK308.out 3).trans rfl
             have hfz91_0:=blk_frozen BK308.out 0
             have hfz91_1:=blk_frozen BK308.out 1
             have hfz91_2:=blk_frozen BK308.out 2
             have hfz91_3:=blk_frozen BK308.out 3
             try go_wp2_with (first|((with_reducible refine gate_callee (f:=110) rfl ?_);refine goesL_ (some 40) rfl rfl Try.func110 (by kernel_rfl) rfl #[.slice Ao42 t311.length co42,.int .i64 x32_2] rfl (by (try simp only [mA,mC,mN]);first|done|rfl) ?_;(with_reducible refine (impl_seatOf.calls _ _ t311 x32_2 t318 _ ?side1 ?side2 A55.out).mono ?_);(case side1=>repeat (first|exact (Kd.R_reads' HO_309001.out).2.2|(with_reducible refine Kd.C_alloc ?_ _)|(with_reducible refine Kd.C_drewN ?_ _)|(with_reducible refine Kd.C_drew ?_)));(case side2=>exact (Kd.R_reads' HO_309001.out).2.1);rintro e w' ⟨rfl,⟨nd,rfl⟩⟩;refine ⟨_,rfl,?_⟩;(try (rw [drewN_self wr];generalize hq_ : World.drewN wr _ = wr;have n0_ : Aside0 (Kd.V (Kd.int .i64) 2 wr w.heap.size (fun k_=>((P0_0_ k_ ∨ P1_2_ k_) ∨ w.heap.size ≤ k_) ∧ some k_ ≠ (u309000 : Value).ownBlock ∧ some k_ ≠ (.slice Ao42 t311.length co42 : Value).ownBlock ∧ k_ ≠ gb305 ∧ k_ ≠ gb306 ∧ k_ ≠ gb307 ∧ k_ ≠ gb308) (.slice (some ad317) l1_2.length c1_2) l1_2):=⟨by rw [← hq_];exact (vX HO_30.out)⟩;have n1_ : Aside0 (Kd.V (Kd.slice 2 (Kd.int .i64)) 22 wr w.heap.size (fun k_=>((P0_0_ k_ ∨ P1_2_ k_) ∨ w.heap.size ≤ k_) ∧ some k_ ≠ (u309000 : Value).ownBlock ∧ some k_ ≠ (.slice Ao42 t311.length co42 : Value).ownBlock ∧ k_ ≠ gb305 ∧ k_ ≠ gb306 ∧ k_ ≠ gb307 ∧ k_ ≠ gb308) u306000 x306000_2):=⟨by rw [← hq_];exact (vX HO_306000.out)⟩;have n2_ : Aside0 (Kd.V (Kd.int .i64) 2 wr w.heap.size (fun k_=>((P0_0_ k_ ∨ P1_2_ k_) ∨ w.heap.size ≤ k_) ∧ some k_ ≠ (u309000 : Value).ownBlock ∧ some k_ ≠ (.slice Ao42 t311.length co42 : Value).ownBlock ∧ k_ ≠ gb305 ∧ k_ ≠ gb306 ∧ k_ ≠ gb307 ∧ k_ ≠ gb308) (.slice (some ad317) l1_2.length c1_2) l1_2):=⟨by rw [← hq_];exact (vX HO_307002.out)⟩;have n3_ : Aside0 (Kd.N (Kd.slice 2 (Kd.int .i64)) 22 wr w.heap.size (fun k_=>((P0_0_ k_ ∨ P1_2_ k_) ∨ w.heap.size ≤ k_) ∧ some k_ ≠ (.slice Ao42 t311.length co42 : Value).ownBlock ∧ k_ ≠ gb305 ∧ k_ ≠ gb306 ∧ k_ ≠ gb307 ∧ k_ ≠ gb308) u309000 x309000_2):=⟨by rw [← hq_];exact (by (with_reducible repeat first|apply Kd.N_alloc|apply Kd.N_drewN|apply Kd.N_drew);exact HO_309000.out)⟩;have n4_ : Aside0 (Kd.R (Kd.int .i64) 2 wr w.heap.size (fun k_=>(w.heap.size ≤ k_)) (.slice Ao42 t311.length co42) t311):=⟨by rw [← hq_];exact (rX HO_309001.out)⟩;have n5_ : Aside0 (wr.heap[gb305]? = some (.cells #[u306000] 44 (0,0))):=⟨by rw [← hq_];exact (bX BK305.out)⟩;have n6_ : Aside0 (wr.heap[gb306]? = some (.cells #[.int .i64 a1_0,.int .i64 a1_1,.slice (some ad317) l1_2.length c1_2] 27 (0,0))):=⟨by rw [← hq_];exact (bX BK306.out)⟩;have n7_ : Aside0 (wr.heap[gb307]? = some (.cells #[.slice none 0 0,.slice none 0 0,.bool x308002_2,.bool x308003_2] 92 (0,0))):=⟨by rw [← hq_];exact (bX BK307.out)⟩;have n8_ : Aside0 (wr.heap[gb308]? = some (.cells #[u309000,.slice Ao42 t311.length co42,.bool true,.bool false] 92 (0,0))):=⟨by rw [← hq_];exact (bX BK308.out)⟩;have n9_ : Aside0 (Below w.heap.size w wr):=⟨by rw [← hq_];exact (bW HB.out)⟩;clear HO_30 HO_306000 HO_307002 HO_309000 HO_309001 BK305 BK306 BK307 BK308 HB hq_;have HO_30:=n0_;have HO_306000:=n1_;have HO_307002:=n2_;have HO_309000:=n3_;have HO_309001:=n4_;have BK305:=n5_;have BK306:=n6_;have BK307:=n7_;have BK308:=n8_;have HB:=n9_;clear n0_ n1_ n2_ n3_ n4_ n5_ n6_ n7_ n8_ n9_;(try replace hcz91_0:=(bC BK308.out 0).trans (rfl : _ = some _));(try replace hcz91_1:=(bC BK308.out 1).trans (rfl : _ = some _));(try replace hcz91_2:=(bC BK308.out 2).trans (rfl : _ = some _));(try replace hcz91_3:=(bC BK308.out 3).trans (rfl : _ = some _));(try replace hfz91_0:=blk_frozen BK308.out 0);(try replace hfz91_1:=blk_frozen BK308.out 1);(try replace hfz91_2:=blk_frozen BK308.out 2);(try replace hfz91_3:=blk_frozen BK308.out 3)));obtain ⟨Ao92,co92,eo92⟩:=Kd.N_slice HO_309000.out;subst eo92;have p319 : 0 ≤ (t318 : Int):=of_decide_eq_true (by first|(with_reducible assumption)|assumption);have q319 : t318 < (x309000_2.length : Int):=of_decide_eq_true (by first|(with_reducible assumption)|assumption);obtain ⟨ad319,A319_0,c319_0,e319,hx319_0,hl319_0,hi319_0⟩:=at_L1 (Kd.N_reads' HO_309000.out).2.2 t318 p319 q319;cases e319;obtain ⟨ce319,hce319,hMe319,hcc319⟩:=Kd.N_get HO_309000.out [] t318 p319 (by first|exact q319|exact of_decide_eq_true (by first|(with_reducible assumption)|assumption)|(have e_:=(Kd.N_reads' HO_309000.out).1;omega));obtain ⟨ua319_0,uc319_0,rfl,ul319_0,ge319_0⟩:=Kd.FK_slice_open hMe319;have hv319_0:=hcc319 0 _ rfl;rw [Nat.add_zero,show ((Kd.slice 2 (Kd.int .i64))).sz = 1 from rfl,Nat.mul_one] at hv319_0;replace hv319_0:=Option.some.inj (hv319_0.symm.trans hx319_0);injection hv319_0 with hva_ hvn_ hvc_;rw [hva_] at ge319_0;rw [hvc_] at ul319_0;have HL319_0:=aK (show Kd.V (Kd.int .i64) 2 _ w.heap.size _ _ (rd_L1 x309000_2 t318) from Kd.V_mk ul319_0 ge319_0);clear hva_ hvn_ hvc_ ge319_0 ul319_0;clear hcc319 hce319;have HR319_0:=aK hi319_0;have HC319_0:=aK hl319_0;clear hi319_0 hl319_0;replace p319:=eq_true p319;replace q319:=eq_true q319)|((with_reducible refine gate_callee (f:=122) rfl ?_);refine goesL_ (some 48) rfl rfl Try.func122 (by kernel_rfl) rfl #[.slice A319_0 (rd_L1 x309000_2 t318).length c319_0,.int .i64 (rd l1_2 x32_2)] rfl (by (try simp only [mA,mC,mN]);first|done|rfl) ?_;(with_reducible refine (slices_Contains_int64_int64.calls k2 _ _ (rd_L1 x309000_2 t318) (rd l1_2 x32_2) true _ ?side1 ?side2 A58.out).mono ?_);(case side1=>repeat (first|exact (by repeat (first|(with_reducible exact HR319_0.out)|(with_reducible refine Kd.C_alloc ?_ _)|(with_reducible refine Kd.C_drewN ?_ _)|(with_reducible refine Kd.C_drew ?_)|exact HR319_0.out))|(with_reducible refine Kd.C_alloc ?_ _)|(with_reducible refine Kd.C_drewN ?_ _)|(with_reducible refine Kd.C_drew ?_)));(case side2=>exact HC319_0.out);rintro e w' ⟨rfl,⟨nd,rfl⟩⟩;refine ⟨_,rfl,?_⟩;(try (rw [drewN_self wr];generalize hq_ : World.drewN wr _ = wr;have n0_ : Aside0 (Kd.V (Kd.int .i64) 2 wr w.heap.size (fun k_=>((P0_0_ k_ ∨ P1_2_ k_) ∨ w.heap.size ≤ k_) ∧ some k_ ≠ (.slice (some ad319) x309000_2.length co92 : Value).ownBlock ∧ some k_ ≠ (.slice Ao42 t311.length co42 : Value).ownBlock ∧ k_ ≠ gb305 ∧ k_ ≠ gb306 ∧ k_ ≠ gb307 ∧ k_ ≠ gb308) (.slice A319_0 (rd_L1 x309000_2 t318).length c319_0) (rd_L1 x309000_2 t318)):=⟨by rw [← hq_];exact (by (with_reducible repeat first|apply Kd.V_alloc|apply Kd.V_drewN|apply Kd.V_drew);exact Kd.V_mono HL319_0.out (fun _ hk=>⟨hk.1.1,⟨hk.2,⟨hk.1.2.1,⟨hk.1.2.2.1,⟨hk.1.2.2.2.1,⟨hk.1.2.2.2.2.1,hk.1.2.2.2.2.2⟩⟩⟩⟩⟩⟩))⟩;have n1_ : Aside0 (Kd.V (Kd.int .i64) 2 wr w.heap.size (fun k_=>((P0_0_ k_ ∨ P1_2_ k_) ∨ w.heap.size ≤ k_) ∧ some k_ ≠ (.slice (some ad319) x309000_2.length co92 : Value).ownBlock ∧ some k_ ≠ (.slice Ao42 t311.length co42 : Value).ownBlock ∧ k_ ≠ gb305 ∧ k_ ≠ gb306 ∧ k_ ≠ gb307 ∧ k_ ≠ gb308) (.slice (some ad317) l1_2.length c1_2) l1_2):=⟨by rw [← hq_];exact (vX HO_30.out)⟩;have n2_ : Aside0 (Kd.V (Kd.slice 2 (Kd.int .i64)) 22 wr w.heap.size (fun k_=>((P0_0_ k_ ∨ P1_2_ k_) ∨ w.heap.size ≤ k_) ∧ some k_ ≠ (.slice (some ad319) x309000_2.length co92 : Value).ownBlock ∧ some k_ ≠ (.slice Ao42 t311.length co42 : Value).ownBlock ∧ k_ ≠ gb305 ∧ k_ ≠ gb306 ∧ k_ ≠ gb307 ∧ k_ ≠ gb308) u306000 x306000_2):=⟨by rw [← hq_];exact (vX HO_306000.out)⟩;have n3_ : Aside0 (Kd.V (Kd.int .i64) 2 wr w.heap.size (fun k_=>((P0_0_ k_ ∨ P1_2_ k_) ∨ w.heap.size ≤ k_) ∧ some k_ ≠ (.slice (some ad319) x309000_2.length co92 : Value).ownBlock ∧ some k_ ≠ (.slice Ao42 t311.length co42 : Value).ownBlock ∧ k_ ≠ gb305 ∧ k_ ≠ gb306 ∧ k_ ≠ gb307 ∧ k_ ≠ gb308) (.slice (some ad317) l1_2.length c1_2) l1_2):=⟨by rw [← hq_];exact (vX HO_307002.out)⟩;have n4_ : Aside0 (Kd.N (Kd.slice 2 (Kd.int .i64)) 22 wr w.heap.size (fun k_=>((P0_0_ k_ ∨ P1_2_ k_) ∨ w.heap.size ≤ k_) ∧ some k_ ≠ (.slice Ao42 t311.length co42 : Value).ownBlock ∧ k_ ≠ gb305 ∧ k_ ≠ gb306 ∧ k_ ≠ gb307 ∧ k_ ≠ gb308) (.slice (some ad319) x309000_2.length co92) x309000_2):=⟨by rw [← hq_];exact (by (with_reducible repeat first|apply Kd.N_alloc|apply Kd.N_drewN|apply Kd.N_drew);exact HO_309000.out)⟩;have n5_ : Aside0 (Kd.R (Kd.int .i64) 2 wr w.heap.size (fun k_=>(w.heap.size ≤ k_)) (.slice Ao42 t311.length co42) t311):=⟨by rw [← hq_];exact (rX HO_309001.out)⟩;have n6_ : Aside0 (wr.heap[gb305]? = some (.cells #[u306000] 44 (0,0))):=⟨by rw [← hq_];exact (bX BK305.out)⟩;have n7_ : Aside0 (wr.heap[gb306]? = some (.cells #[.int .i64 a1_0,.int .i64 a1_1,.slice (some ad317) l1_2.length c1_2] 27 (0,0))):=⟨by rw [← hq_];exact (bX BK306.out)⟩;have n8_ : Aside0 (wr.heap[gb307]? = some (.cells #[.slice none 0 0,.slice none 0 0,.bool x308002_2,.bool x308003_2] 92 (0,0))):=⟨by rw [← hq_];exact (bX BK307.out)⟩;have n9_ : Aside0 (wr.heap[gb308]? = some (.cells #[.slice (some ad319) x309000_2.length co92,.slice Ao42 t311.length co42,.bool true,.bool false] 92 (0,0))):=⟨by rw [← hq_];exact (bX BK308.out)⟩;have n10_ : Aside0 (Below w.heap.size w wr):=⟨by rw [← hq_];exact (bW HB.out)⟩;have n11_ : Aside0 (Kd.C (Kd.int .i64) wr A319_0 (rd_L1 x309000_2 t318).length (rd_L1 x309000_2 t318)):=⟨by rw [← hq_];exact (by repeat (first|(with_reducible exact HR319_0.out)|(with_reducible refine Kd.C_alloc ?_ _)|(with_reducible refine Kd.C_drewN ?_ _)|(with_reducible refine Kd.C_drew ?_)|exact HR319_0.out))⟩;clear HL319_0 HO_30 HO_306000 HO_307002 HO_309000 HO_309001 BK305 BK306 BK307 BK308 HB HR319_0 hq_;have HL319_0:=n0_;have HO_30:=n1_;have HO_306000:=n2_;have HO_307002:=n3_;have HO_309000:=n4_;have HO_309001:=n5_;have BK305:=n6_;have BK306:=n7_;have BK307:=n8_;have BK308:=n9_;have HB:=n10_;have HR319_0:=n11_;clear n0_ n1_ n2_ n3_ n4_ n5_ n6_ n7_ n8_ n9_ n10_ n11_;(try replace hcz91_0:=(bC BK308.out 0).trans (rfl : _ = some _));(try replace hcz91_1:=(bC BK308.out 1).trans (rfl : _ = some _));(try replace hcz91_2:=(bC BK308.out 2).trans (rfl : _ = some _));(try replace hcz91_3:=(bC BK308.out 3).trans (rfl : _ = some _));(try replace hfz91_0:=blk_frozen BK308.out 0);(try replace hfz91_1:=blk_frozen BK308.out 1);(try replace hfz91_2:=blk_frozen BK308.out 2);(try replace hfz91_3:=blk_frozen BK308.out 3)))))
             have n0_ : Aside0 (Kd.V (Kd.int .i64) 2 (wr.setCell ⟨gb308,3,none⟩ (.bool false)) w.heap.size (fun k_=>((P0_0_ k_ ∨ P1_2_ k_) ∨ w.heap.size ≤ k_) ∧ some k_ ≠ (.slice (some ad319) x309000_2.length co92 : Value).ownBlock ∧ some k_ ≠ (.slice Ao42 t311.length co42 : Value).ownBlock ∧ k_ ≠ gb305 ∧ k_ ≠ gb306 ∧ k_ ≠ gb307 ∧ k_ ≠ gb308) (.slice (some ad317) l1_2.length c1_2) l1_2):=⟨by (with_reducible repeat first|apply Kd.V_alloc|apply Kd.V_drewN|apply Kd.V_drew);exact Kd.V_mono (Kd.V_far (p:=⟨gb308,3,none⟩) (Kd.V_mono HO_30.out (fun k_ hk=>(⟨hk,hk.2.2.2.2.2.2⟩ : _ ∧ k_ ≠ gb308))) (fun _ hk=>hk.2) (.bool false)) (fun _ hk=>⟨hk.1.1,⟨hk.1.2.1,⟨hk.1.2.2.1,⟨hk.1.2.2.2.1,⟨hk.1.2.2.2.2.1,⟨hk.1.2.2.2.2.2.1,hk.1.2.2.2.2.2.2⟩⟩⟩⟩⟩⟩)⟩
             have n1_ : Aside0 (Kd.V (Kd.slice 2 (Kd.int .i64)) 22 (wr.setCell ⟨gb308,3,none⟩ (.bool false)) w.heap.size (fun k_=>((P0_0_ k_ ∨ P1_2_ k_) ∨ w.heap.size ≤ k_) ∧ some k_ ≠ (.slice (some ad319) x309000_2.length co92 : Value).ownBlock ∧ some k_ ≠ (.slice Ao42 t311.length co42 : Value).ownBlock ∧ k_ ≠ gb305 ∧ k_ ≠ gb306 ∧ k_ ≠ gb307 ∧ k_ ≠ gb308) u306000 x306000_2):=⟨by (with_reducible repeat first|apply Kd.V_alloc|apply Kd.V_drewN|apply Kd.V_drew);exact Kd.V_mono (Kd.V_far (p:=⟨gb308,3,none⟩) (Kd.V_mono HO_306000.out (fun k_ hk=>(⟨hk,hk.2.2.2.2.2.2⟩ : _ ∧ k_ ≠ gb308))) (fun _ hk=>hk.2) (.bool false)) (fun _ hk=>⟨hk.1.1,⟨hk.1.2.1,⟨hk.1.2.2.1,⟨hk.1.2.2.2.1,⟨hk.1.2.2.2.2.1,⟨hk.1.2.2.2.2.2.1,hk.1.2.2.2.2.2.2⟩⟩⟩⟩⟩⟩)⟩
             have n2_ : Aside0 (Kd.V (Kd.int .i64) 2 (wr.setCell ⟨gb308,3,none⟩ (.bool false)) w.heap.size (fun k_=>((P0_0_ k_ ∨ P1_2_ k_) ∨ w.heap.size ≤ k_) ∧ some k_ ≠ (.slice (some ad319) x309000_2.length co92 : Value).ownBlock ∧ some k_ ≠ (.slice Ao42 t311.length co42 : Value).ownBlock ∧ k_ ≠ gb305 ∧ k_ ≠ gb306 ∧ k_ ≠ gb307 ∧ k_ ≠ gb308) (.slice (some ad317) l1_2.length c1_2) l1_2):=⟨by (with_reducible repeat first|apply Kd.V_alloc|apply Kd.V_drewN|apply Kd.V_drew);exact Kd.V_mono (Kd.V_far (p:=⟨gb308,3,none⟩) (Kd.V_mono HO_307002.out (fun k_ hk=>(⟨hk,hk.2.2.2.2.2.2⟩ : _ ∧ k_ ≠ gb308))) (fun _ hk=>hk.2) (.bool false)) (fun _ hk=>⟨hk.1.1,⟨hk.1.2.1,⟨hk.1.2.2.1,⟨hk.1.2.2.2.1,⟨hk.1.2.2.2.2.1,⟨hk.1.2.2.2.2.2.1,hk.1.2.2.2.2.2.2⟩⟩⟩⟩⟩⟩)⟩
             have n3_ : Aside0 (Kd.N (Kd.slice 2 (Kd.int .i64)) 22 (wr.setCell ⟨gb308,3,none⟩ (.bool false)) w.heap.size (fun k_=>((P0_0_ k_ ∨ P1_2_ k_) ∨ w.heap.size ≤ k_) ∧ some k_ ≠ (.slice Ao42 t311.length co42 : Value).ownBlock ∧ k_ ≠ gb305 ∧ k_ ≠ gb306 ∧ k_ ≠ gb307 ∧ k_ ≠ gb308) (.slice (some ad319) x309000_2.length co92) x309000_2):=⟨by (with_reducible repeat first|apply Kd.N_alloc|apply Kd.N_drewN|apply Kd.N_drew);exact Kd.N_mono (Kd.N_far (p:=⟨gb308,3,none⟩) (Kd.N_mono HO_309000.out (fun k_ hk=>(⟨hk,hk.2.2.2.2.2⟩ : _ ∧ k_ ≠ gb308))) (fun _ hk=>hk.2) (.bool false)) (fun _ hk=>⟨hk.1.1,⟨hk.1.2.1,⟨hk.1.2.2.1,⟨hk.1.2.2.2.1,⟨hk.1.2.2.2.2.1,hk.1.2.2.2.2.2⟩⟩⟩⟩⟩)⟩
             have n4_ : Aside0 (Kd.R (Kd.int .i64) 2 (wr.setCell ⟨gb308,3,none⟩ (.bool false)) w.heap.size (fun k_=>(w.heap.size ≤ k_)) (.slice Ao42 t311.length co42) t311):=⟨by (with_reducible repeat first|apply Kd.R_alloc|apply Kd.R_drewN|apply Kd.R_drew);exact Kd.R_mono (Kd.R_far (p:=⟨gb308,3,none⟩) (Kd.R_types HO_309001.out BK308.out (by decide)) (fun _ hk=>hk.2) (.bool false)) (fun _ hk=>hk.1)⟩
             have n5_ : Aside0 (Kd.V (Kd.int .i64) 2 (wr.setCell ⟨gb308,3,none⟩ (.bool false)) w.heap.size (fun k_=>((P0_0_ k_ ∨ P1_2_ k_) ∨ w.heap.size ≤ k_) ∧ some k_ ≠ (.slice (some ad319) x309000_2.length co92 : Value).ownBlock ∧ some k_ ≠ (.slice Ao42 t311.length co42 : Value).ownBlock ∧ k_ ≠ gb305 ∧ k_ ≠ gb306 ∧ k_ ≠ gb307 ∧ k_ ≠ gb308) (.slice A319_0 (rd_L1 x309000_2 t318).length c319_0) (rd_L1 x309000_2 t318)):=⟨by (with_reducible repeat first|apply Kd.V_alloc|apply Kd.V_drewN|apply Kd.V_drew);exact Kd.V_mono (Kd.V_far (p:=⟨gb308,3,none⟩) (Kd.V_mono HL319_0.out (fun k_ hk=>(⟨hk,hk.2.2.2.2.2.2⟩ : _ ∧ k_ ≠ gb308))) (fun _ hk=>hk.2) (.bool false)) (fun _ hk=>⟨hk.1.1,⟨hk.1.2.1,⟨hk.1.2.2.1,⟨hk.1.2.2.2.1,⟨hk.1.2.2.2.2.1,⟨hk.1.2.2.2.2.2.1,hk.1.2.2.2.2.2.2⟩⟩⟩⟩⟩⟩)⟩
             have n6_ : Aside0 ((wr.setCell ⟨gb308,3,none⟩ (.bool false)).heap[gb305]? = some (.cells #[u306000] 44 (0,0))):=⟨by (with_reducible repeat first|apply bN|apply bD|apply bA);refine blk_far ?_ NB305_308.out _;(with_reducible repeat first|apply bN|apply bD|apply bA);exact BK305.out⟩
             have n7_ : Aside0 ((wr.setCell ⟨gb308,3,none⟩ (.bool false)).heap[gb306]? = some (.cells #[.int .i64 a1_0,.int .i64 a1_1,.slice (some ad317) l1_2.length c1_2] 27 (0,0))):=⟨by (with_reducible repeat first|apply bN|apply bD|apply bA);refine blk_far ?_ NB306_308.out _;(with_reducible repeat first|apply bN|apply bD|apply bA);exact BK306.out⟩
             have n8_ : Aside0 ((wr.setCell ⟨gb308,3,none⟩ (.bool false)).heap[gb307]? = some (.cells #[.slice none 0 0,.slice none 0 0,.bool x308002_2,.bool x308003_2] 92 (0,0))):=⟨by (with_reducible repeat first|apply bN|apply bD|apply bA);refine blk_far ?_ NB307_308.out _;(with_reducible repeat first|apply bN|apply bD|apply bA);exact BK307.out⟩
             have n9_ : Aside0 ((wr.setCell ⟨gb308,3,none⟩ (.bool false)).heap[gb308]? = some (.cells #[.slice (some ad319) x309000_2.length co92,.slice Ao42 t311.length co42,.bool true,.bool false] 92 (0,0))):=⟨by (with_reducible repeat first|apply bN|apply bD|apply bA);refine blk_put (cs:=#[.slice (some ad319) x309000_2.length co92,.slice Ao42 t311.length co42,.bool true,.bool false]) ?_ 3 _ rfl;(with_reducible repeat first|apply bN|apply bD|apply bA);exact BK308.out⟩
             have n10_ : Aside0 (Below w.heap.size w (wr.setCell ⟨gb308,3,none⟩ (.bool false))):=⟨bW HB.out⟩
             (try clear HO_30)
             (try clear HO_306000)
             (try clear HO_307002)
             (try clear HO_309000)
             (try clear HO_309001)
             (try clear HL319_0)
             (try clear BK305)
             (try clear BK306)
             (try clear BK307)
             (try clear BK308)
             (try clear HB)
             generalize (wr.setCell ⟨gb308,3,none⟩ (.bool false)) = w93 at n0_ n1_ n2_ n3_ n4_ n5_ n6_ n7_ n8_ n9_ n10_ ⊢
             have HO_30:=n0_
             have HO_306000:=n1_
             have HO_307002:=n2_
             have HO_309000:=n3_
             have HO_309001:=n4_
             have HL319_0:=n5_
             have BK305:=n6_
             have BK306:=n7_
             have BK307:=n8_
             have BK308:=n9_
             have HB:=n10_
             clear n0_ n1_ n2_ n3_ n4_ n5_ n6_ n7_ n8_ n9_ n10_
             have n0_:=aK (Kd.V_drew HO_30.out)
             have n1_:=aK (Kd.V_drew HO_306000.out)
             have n2_:=aK (Kd.V_drew HO_307002.out)
             have n3_:=aK (Kd.N_drew HO_309000.out)
             have n4_:=aK (Kd.R_drew HO_309001.out)
             have n5_:=aK (Kd.V_drew HL319_0.out)
             have n6_:=aK (bD BK305.out)
             have n7_:=aK (bD BK306.out)
             have n8_:=aK (bD BK307.out)
             have n9_:=aK (bD BK308.out)
             have n10_:=aK (b1 HB.out)
             clear HO_30
             clear HO_306000
             clear HO_307002
             clear HO_309000
             clear HO_309001
             clear HL319_0
             clear BK305
             clear BK306
             clear BK307
             clear BK308
             clear HB
             have HO_30:=n0_
             have HO_306000:=n1_
             have HO_307002:=n2_
             have HO_309000:=n3_
             have HO_309001:=n4_
             have HL319_0:=n5_
             have BK305:=n6_
             have BK306:=n7_
             have BK307:=n8_
             have BK308:=n9_
             have HB:=n10_
             clear n0_ n1_ n2_ n3_ n4_ n5_ n6_ n7_ n8_ n9_ n10_
             refine start_ (n:=8) (S:=fun w'=>w'.cell? ⟨gb308,0,none⟩ = some (.slice (some ad319) x309000_2.length co92) ∧ w'.cell? ⟨gb308,1,none⟩ = some (.slice Ao42 t311.length co42) ∧ w'.cell? ⟨gb308,2,none⟩ = some (.bool true) ∧ w'.cell? ⟨gb308,3,none⟩ = some (.bool false)) (ds:=[7]) #[false,false,false,false,false,false,false,false] (by kernel_rfl) rfl rfl ⟨(bC BK308.out 0).trans rfl,(bC BK308.out 1).trans rfl,(bC BK308.out 2).trans rfl,(bC BK308.out 3).trans rfl⟩ (fun hHeld=>?_);refine with_tabW impl_recordOf.tab13 impl_recordOf.bits13 (fun HT_ HW_=>?_)
             generalize w93.drew = w94 at HO_30 HO_306000 HO_307002 HO_309000 HO_309001 HL319_0 BK305 BK306 BK307 BK308 HB hHeld ⊢
             refine pure_ (i:=0) (N:=some 65) (v:=?_) (a':=?_) #[true,false,false,false,false,false,false,false] rfl rfl (any_of HT_.out (by kernel_rfl)) (fun _ _ _ h=>h) (Or.inl ⟨by rfl,?_⟩) ?_ ?_
             rotate_left
             ·intro w'
              go_simp
              with_reducible rfl
             rotate_left
             ·simp only [Act.put,lA,l0',lS,i64_w,i32_w]
              rfl
             refine pure_ (i:=2) (N:=some 67) (v:=?_) (a':=?_) #[true,false,true,false,false,false,false,false] rfl rfl (any_of HT_.out (by kernel_rfl)) (fun _ _ _ h=>h) (Or.inl ⟨by rfl,?_⟩) ?_ ?_
             rotate_left
             ·intro w'
              go_simp
              with_reducible rfl
             rotate_left
             ·simp only [Act.put,lA,l0',lS,i64_w,i32_w]
              rfl
             refine pure_ (i:=3) (N:=some 68) (v:=?_) (a':=?_) #[true,false,true,true,false,false,false,false] rfl rfl (any_of HT_.out (by kernel_rfl)) (fun _ _ _ h=>h) (Or.inl ⟨by rfl,?_⟩) ?_ ?_
             rotate_left
             ·intro w'
              go_simp
              with_reducible rfl
             rotate_left
             ·simp only [Act.put,lA,l0',lS,i64_w,i32_w]
              rfl
             refine pure_ (i:=4) (N:=some 69) (v:=?_) (a':=?_) #[true,false,true,true,true,false,false,false] rfl rfl (any_of HT_.out (by kernel_rfl)) (fun _ _ _ h=>h) (Or.inl ⟨by rfl,?_⟩) ?_ ?_
             rotate_left
             ·intro w'
              go_simp
              with_reducible rfl
             rotate_left
             ·simp only [Act.put,lA,l0',lS,i64_w,i32_w]
              rfl
             refine take_ (i:=1) (N:=some 66) (v:=?_) (a':=?_) #[true,true,true,true,true,false,false,false] rfl rfl (take_ofW HT_.out HW_.out (by kernel_rfl)) (fun _ _ _ h=>h) (Or.inl ⟨by rfl,?_⟩) hHeld ?_ ?_
             rotate_left
             ·rintro w' ⟨s0,s1,s2,s3⟩
              go_simp
              with_reducible rfl
             rotate_left
             ·simp only [Act.put,lA,l0',lS,i64_w,i32_w]
              rfl
             refine one_ (i:=5) (N:=some 70) #[true,true,true,true,true,true,false,false] rfl rfl (one_of HT_.out (by kernel_rfl)) (by decide) (fun K hK=>?_)
             refine goes_ Try.func145 (by kernel_rfl) rfl #[.slice A319_0 (rd_L1 x309000_2 t318).length c319_0,.int .i64 (rd l1_2 x32_2)] (by rfl) rfl rfl (by (try simp only [mA,mC,mN]);first|done|rfl) ?_
             with_reducible refine (impl_without.calls _ _ (rd_L1 x309000_2 t318) (rd l1_2 x32_2) t337 _ ?side1 ?side2 A86.out).mono ?_
             (case side1=>repeat (first|exact ((Kd.V_reads' (vX HL319_0.out)).2.2)|(with_reducible refine Kd.C_alloc ?_ _)|(with_reducible refine Kd.C_drewN ?_ _)|(with_reducible refine Kd.C_drew ?_)))
             (case side2=>exact HC319_0.out)
             rintro e w95 ⟨v338,rfl,ho0,hb⟩
             refine ⟨_,rfl,?_⟩
             have n0_:=aK (Kd.V_elder' (vX HO_30.out) (Kd.R_base ho0) hb)
             have n1_:=aK (Kd.V_elder' (vX HO_306000.out) (Kd.R_base ho0) hb)
             have n2_:=aK (Kd.V_elder' (vX HO_307002.out) (Kd.R_base ho0) hb)
             have n3_:=aK (Kd.N_elder' (by (with_reducible repeat first|apply Kd.N_alloc|apply Kd.N_drewN|apply Kd.N_drew);exact HO_309000.out) (Kd.R_base ho0) hb)
             have n4_:=aK (Kd.R_elder' (rX HO_309001.out) (Kd.R_base ho0) hb)
             have n5_:=aK (Kd.V_elder' (vX HL319_0.out) (Kd.R_base ho0) hb)
             have n6_:=aK (Kd.R_lower (Kd.R_new' (Kd.R_newM (M:=fun k_=>(w.heap.size ≤ k_)) ho0 (below_size (bW HB.out)) (fun k_ h_=>h_)) (Kd.R_lt (rX HO_309001.out))) (below_size (bW HB.out)))
             have n7_:=aK (bB (bX BK305.out) hb)
             have n8_:=aK (bB (bX BK306.out) hb)
             have n9_:=aK (bB (bX BK307.out) hb)
             have n10_:=aK (bB (bX BK308.out) hb)
             have n11_:=aK (below_step (bW HB.out) hb)
             clear HO_30
             clear HO_306000
             clear HO_307002
             clear HO_309000
             clear HO_309001
             clear HL319_0
             clear BK305
             clear BK306
             clear BK307
             clear BK308
             clear HB
             have HO_30:=n0_
             have HO_306000:=n1_
             have HO_307002:=n2_
             have HO_309000:=n3_
             have HO_309001:=n4_
             have HL319_0:=n5_
             have HO339:=n6_
             have BK305:=n7_
             have BK306:=n8_
             have BK307:=n9_
             have BK308:=n10_
             have HB:=n11_
             clear n0_ n1_ n2_ n3_ n4_ n5_ n6_ n7_ n8_ n9_ n10_ n11_
             (try clear hb)
             (try clear hb2)
             (try clear hk)
             (try clear hi)
             (try clear ho0)
             have p87 : 0 ≤ (t318 : Int):=of_decide_eq_true (by first|(with_reducible assumption)|assumption)
             have q87 : (t318 : Int) < ((x309000_2.length : Int) : Int):=of_decide_eq_true (by first|(with_reducible assumption)|assumption)
             obtain ⟨go87,co87,eo87,gb87,gl87,cl87,HG87⟩:=Kd.N_form HO_309000.out (by omega)
             (first|cases eo87|(injection eo87 with ea_ en_ ec_;(first|subst ea_|(injection ea_ with ea_;subst ea_));subst ec_;clear en_))
             have GB87:=aK gb87
             have GG87:=aK HG87
             clear gb87 gl87 HG87
             (first|simp only [add_plain] at hx319_0|skip)
             obtain ⟨ce87,hcl87,hM87,hcc87,hfr87⟩:=Kd.N_elem HO_309000.out [] (t318 : Int) p87 q87
             obtain ⟨ua87_0,uc87_0,rfl,ul87_0,ge87_0⟩:=Kd.FK_slice_open hM87
             have hx87_0:=hcc87 0 _ rfl
             have hf87_0:=hfr87 0
             (try simp only [show ((Kd.slice 2 (Kd.int .i64))).sz = 1 from rfl,Nat.mul_one,Nat.add_zero] at hx87_0)
             (try simp only [show ((Kd.slice 2 (Kd.int .i64))).sz = 1 from rfl,Nat.mul_one,Nat.add_zero] at hf87_0)
             (try clear hM87);clear hcl87 hcc87 hfr87
             replace p87:=eq_true p87
             replace q87:=eq_true q87
             have HX96:=aK (show Kd.N (Kd.slice 2 (Kd.int .i64)) 22 _ w.heap.size (fun k_=>((P0_0_ k_ ∨ P1_2_ k_) ∨ w.heap.size ≤ k_) ∧ some k_ ≠ (.slice Ao42 t311.length co42 : Value).ownBlock ∧ some k_ ≠ (v338 : Value).ownBlock ∧ k_ ≠ gb305 ∧ k_ ≠ gb306 ∧ k_ ≠ gb307 ∧ k_ ≠ gb308) (.slice (some ⟨go87,0,none⟩) x309000_2.length co92) x309000_2 from (Kd.N_mono (HO_309000.out) (fun k_ hk=>⟨hk.1.1,⟨hk.1.2.1,⟨hk.2,⟨hk.1.2.2.1,⟨hk.1.2.2.2.1,⟨hk.1.2.2.2.2.1,hk.1.2.2.2.2.2⟩⟩⟩⟩⟩⟩)))
             replace HX96:=aK (show Kd.N (Kd.slice 2 (Kd.int .i64)) 22 _ w.heap.size (fun k_=>((P0_0_ k_ ∨ P1_2_ k_) ∨ w.heap.size ≤ k_) ∧ some k_ ≠ (.slice Ao42 t311.length co42 : Value).ownBlock ∧ k_ ≠ gb305 ∧ k_ ≠ gb306 ∧ k_ ≠ gb307 ∧ k_ ≠ gb308) (.slice (some ⟨go87,0,none⟩) x309000_2.length co92) x309000_2 from Kd.N_mono HX96.out (fun k_ hk=>⟨hk.1,⟨hk.2.1,⟨hk.2.2.2.1,⟨hk.2.2.2.2.1,⟨hk.2.2.2.2.2.1,hk.2.2.2.2.2.2⟩⟩⟩⟩⟩))
             obtain ⟨ce96,hcl96,hM96,hcc96,hfr96⟩:=Kd.N_elem HX96.out [] (t318 : Int) (of_decide_eq_true (by first|(with_reducible assumption)|assumption)) (by have h_ : (t318 : Int) < ((x309000_2.length : Int) : Int):=of_decide_eq_true (by first|(with_reducible assumption)|assumption);first|exact h_|(have e_:=(Kd.N_reads' HO_309000.out).1;omega)|simpa using h_)
             obtain ⟨ua96_0,uc96_0,rfl,ul96_0,ge96_0⟩:=Kd.FK_slice_open hM96
             have HP96:=(Kd.N_seg HX96.out (t318 : Int) (of_decide_eq_true (by first|(with_reducible assumption)|assumption)) (by have h_ : (t318 : Int) < ((x309000_2.length : Int) : Int):=of_decide_eq_true (by first|(with_reducible assumption)|assumption);first|exact h_|(have e_:=(Kd.N_reads' HO_309000.out).1;omega)|simpa using h_) (seg:=[v338]) (j:=0) hcl96 hcc96 (show 1 ≤ 1 from by decide) (x':=t337) (Kd.FK_of_M (Kd.M_row (Kd.R_mono (ok':=(fun k_=>((fun k_=>((P0_0_ k_ ∨ P1_2_ k_) ∨ w.heap.size ≤ k_) ∧ some k_ ≠ (.slice Ao42 t311.length co42 : Value).ownBlock ∧ k_ ≠ gb305 ∧ k_ ≠ gb306 ∧ k_ ≠ gb307 ∧ k_ ≠ gb308)) k_ ∧ k_ ≠ go87)) (Kd.R_types (Kd.R_types (Kd.R_types (Kd.R_types (Kd.R_apart' (HO339.out) (Kd.N_typed HO_309000.out) (by decide)) BK305.out (by decide)) BK306.out (by decide)) BK307.out (by decide)) BK308.out (by decide)) (fun k_ hk=>⟨⟨(.inr (hk.1.1.1.1.1.1.1)),⟨hk.1.1.1.1.1.2,⟨hk.1.1.1.2,⟨hk.1.1.2,⟨hk.1.2,hk.2⟩⟩⟩⟩⟩,fun e_=>(hk.1.1.1.1.2) (by rw [e_];rfl)⟩)))) (fun _ hk=>hk)).1
             (try simp only [show ((Kd.slice 2 (Kd.int .i64))).sz = 1 from rfl,Nat.mul_one,Nat.add_zero] at HP96)
             rw [← Ny340.out] at HP96
             have HQ96:=aK HP96
             (try clear hM96);clear hcl96 hcc96 hfr96 HP96
             refine hK.out _ _ ⟨(bC BK308.out 0).trans rfl,(bC BK308.out 1).trans rfl,(bC BK308.out 2).trans rfl,(bC BK308.out 3).trans rfl⟩ (fun hHeld=>?_)
             clear hK K
             refine norm_ (a':=?_) ?_ ?_
             rotate_left
             ·show Act.put _ (some 70) _ = _
              simp only [Act.put,lA,l0',lS,i64_w,i32_w]
              rfl
             refine pure_ (i:=6) (N:=some 71) (v:=?_) (a':=?_) #[true,true,true,true,true,true,true,false] rfl rfl (any_of HT_.out (by kernel_rfl)) (fun _ _ _ h=>h) (Or.inl ⟨by rfl,?_⟩) ?_ ?_
             rotate_left
             ·intro w'
              go_simp
              with_reducible rfl
             rotate_left
             ·simp only [Act.put,lA,l0',lS,i64_w,i32_w]
              rfl
             refine last_ (i:=7) (N:=none) #[true,true,true,true,true,true,true,true] rfl rfl (one_of HT_.out (by kernel_rfl)) (by decide) (fun K hK=>?_)
             refine skip_ (w1:=(w95.setCell ⟨go87,(t318 : Int).toNat,none⟩ (v338))) (by rfl) rfl ?_ ?_
             ·obtain ⟨Av_,cv_,ev_⟩:=Kd.R_slice HO339.out
              subst ev_
              go_simp
              try rfl
             refine hK.out _ _ ?_
             clear hK K
             refine done_ (done_of HT_.out (by kernel_rfl)) ?_
             try go_wp2
             go_roundg k2
             case measure=>have:=HJ2.out;have:=HK2.out;omega
             case rel=>exact ⟨(wrap64 (x32_2 + 1)),(x306000_2),(x308002_2),(x308003_2),(y340),(false),(u306000),(.slice (some ⟨go87,0,none⟩) x309000_2.length co92),(by first|rfl|(simp;done)|(simp [*];done)),H',⟨by have:=HJ2.out;have:=HK2.out;omega⟩,⟨by (with_reducible repeat first|apply Kd.V_alloc|apply Kd.V_drewN|apply Kd.V_drew);exact Kd.V_mono (Kd.V_far (p:=⟨go87,(t318 : Int).toNat,none⟩) (Kd.V_mono HO_30.out (fun k_ hk=>(⟨hk,fun e_=>hk.1.2.1 (by rw [e_];rfl)⟩ : _ ∧ k_ ≠ go87))) (fun _ hk=>hk.2) (v338)) (fun _ hk=>⟨hk.1.1.1,⟨hk.1.1.2.1,⟨hk.1.1.2.2.1,⟨hk.1.1.2.2.2.1,⟨hk.1.1.2.2.2.2.1,⟨hk.1.1.2.2.2.2.2.1,hk.1.1.2.2.2.2.2.2⟩⟩⟩⟩⟩⟩)⟩,⟨by (with_reducible repeat first|apply Kd.V_alloc|apply Kd.V_drewN|apply Kd.V_drew);exact Kd.V_mono (Kd.V_far (p:=⟨go87,(t318 : Int).toNat,none⟩) (Kd.V_mono HO_306000.out (fun k_ hk=>(⟨hk,fun e_=>hk.1.2.1 (by rw [e_];rfl)⟩ : _ ∧ k_ ≠ go87))) (fun _ hk=>hk.2) (v338)) (fun _ hk=>⟨hk.1.1.1,⟨hk.1.1.2.1,⟨hk.1.1.2.2.1,⟨hk.1.1.2.2.2.1,⟨hk.1.1.2.2.2.2.1,⟨hk.1.1.2.2.2.2.2.1,hk.1.1.2.2.2.2.2.2⟩⟩⟩⟩⟩⟩)⟩,⟨by (with_reducible repeat first|apply Kd.V_alloc|apply Kd.V_drewN|apply Kd.V_drew);exact Kd.V_mono (Kd.V_far (p:=⟨go87,(t318 : Int).toNat,none⟩) (Kd.V_mono HO_307002.out (fun k_ hk=>(⟨hk,fun e_=>hk.1.2.1 (by rw [e_];rfl)⟩ : _ ∧ k_ ≠ go87))) (fun _ hk=>hk.2) (v338)) (fun _ hk=>⟨hk.1.1.1,⟨hk.1.1.2.1,⟨hk.1.1.2.2.1,⟨hk.1.1.2.2.2.1,⟨hk.1.1.2.2.2.2.1,⟨hk.1.1.2.2.2.2.2.1,hk.1.1.2.2.2.2.2.2⟩⟩⟩⟩⟩⟩)⟩,⟨by (with_reducible repeat first|apply Kd.N_alloc|apply Kd.N_drewN|apply Kd.N_drew);exact HQ96.out⟩,⟨by (with_reducible repeat first|apply Kd.R_alloc|apply Kd.R_drewN|apply Kd.R_drew);exact Kd.R_mono (Kd.R_far (p:=⟨go87,(t318 : Int).toNat,none⟩) (Kd.R_types HO_309001.out GG87.out (by decide)) (fun _ hk=>hk.2) (v338)) (fun _ hk=>hk.1.1)⟩,⟨by (with_reducible repeat first|apply bN|apply bD|apply bA);refine blk_far ?_ (by have h_:=Kd.N_away (g:=gb305) HO_309000.out (fun k_ hk_=>by have h_:=hk_;(try simp only [and_assoc,true_and] at h_);with_reducible first|exact h_.1|exact h_.2.1|exact h_.2.2.1|exact h_.2.2.2.1|exact h_.2.2.2.2.1|exact h_.2.2.2.2.2.1|exact h_.2.2.2.2.2.2.1|exact h_.2.2.2.2.2.2.2.1|exact h_.2.2.2.2.2.2.2.2.1|exact h_.2|exact h_.2.2|exact h_.2.2.2|exact h_.2.2.2.2|exact h_.2.2.2.2.2|exact h_.2.2.2.2.2.2|exact h_.2.2.2.2.2.2.2|exact h_.2.2.2.2.2.2.2.2);intro e_;exact h_ (by rw [e_];rfl)) _;(with_reducible repeat first|apply bN|apply bD|apply bA);exact BK305.out⟩,⟨by (with_reducible repeat first|apply bN|apply bD|apply bA);refine blk_far ?_ (by have h_:=Kd.N_away (g:=gb306) HO_309000.out (fun k_ hk_=>by have h_:=hk_;(try simp only [and_assoc,true_and] at h_);with_reducible first|exact h_.1|exact h_.2.1|exact h_.2.2.1|exact h_.2.2.2.1|exact h_.2.2.2.2.1|exact h_.2.2.2.2.2.1|exact h_.2.2.2.2.2.2.1|exact h_.2.2.2.2.2.2.2.1|exact h_.2.2.2.2.2.2.2.2.1|exact h_.2|exact h_.2.2|exact h_.2.2.2|exact h_.2.2.2.2|exact h_.2.2.2.2.2|exact h_.2.2.2.2.2.2|exact h_.2.2.2.2.2.2.2|exact h_.2.2.2.2.2.2.2.2);intro e_;exact h_ (by rw [e_];rfl)) _;(with_reducible repeat first|apply bN|apply bD|apply bA);exact BK306.out⟩,⟨by (with_reducible repeat first|apply bN|apply bD|apply bA);refine blk_far ?_ (by have h_:=Kd.N_away (g:=gb307) HO_309000.out (fun k_ hk_=>by have h_:=hk_;(try simp only [and_assoc,true_and] at h_);with_reducible first|exact h_.1|exact h_.2.1|exact h_.2.2.1|exact h_.2.2.2.1|exact h_.2.2.2.2.1|exact h_.2.2.2.2.2.1|exact h_.2.2.2.2.2.2.1|exact h_.2.2.2.2.2.2.2.1|exact h_.2.2.2.2.2.2.2.2.1|exact h_.2|exact h_.2.2|exact h_.2.2.2|exact h_.2.2.2.2|exact h_.2.2.2.2.2|exact h_.2.2.2.2.2.2|exact h_.2.2.2.2.2.2.2|exact h_.2.2.2.2.2.2.2.2);intro e_;exact h_ (by rw [e_];rfl)) _;(with_reducible repeat first|apply bN|apply bD|apply bA);exact BK307.out⟩,⟨by (with_reducible repeat first|apply bN|apply bD|apply bA);refine blk_far ?_ (by have h_:=Kd.N_away (g:=gb308) HO_309000.out (fun k_ hk_=>by have h_:=hk_;(try simp only [and_assoc,true_and] at h_);with_reducible first|exact h_.1|exact h_.2.1|exact h_.2.2.1|exact h_.2.2.2.1|exact h_.2.2.2.2.1|exact h_.2.2.2.2.2.1|exact h_.2.2.2.2.2.2.1|exact h_.2.2.2.2.2.2.2.1|exact h_.2.2.2.2.2.2.2.2.1|exact h_.2|exact h_.2.2|exact h_.2.2.2|exact h_.2.2.2.2|exact h_.2.2.2.2.2|exact h_.2.2.2.2.2.2|exact h_.2.2.2.2.2.2.2|exact h_.2.2.2.2.2.2.2.2);intro e_;exact h_ (by rw [e_];rfl)) _;(with_reducible repeat first|apply bN|apply bD|apply bA);exact BK308.out⟩,⟨bW HB.out⟩⟩
           ·replace c59:=Bool.eq_false_iff.mpr c59
            subst c59
            have H1 : (some (([] : List (List Int)),([] : List Int),false,false)) = some (r1,r2,r3,r4):=by rw [if_neg (show ¬ (false = true) by decide)] at H;exact H
            clear H
            have H:=H1
            clear H1
            simp only [Option.some.injEq,Prod.mk.injEq] at H
            obtain ⟨rfl,rfl,rfl,rfl⟩:=H
            have p317 : 0 ≤ (x32_2 : Int):=of_decide_eq_true (by first|(with_reducible assumption)|assumption)
            have q317 : x32_2 < (l1_2.length : Int):=of_decide_eq_true (by first|(with_reducible assumption)|assumption)
            obtain ⟨ad317,e317,hx317_0⟩:=Kd.at_int (Kd.V_reads' HO_30.out).2.2 x32_2 p317 q317
            cases e317
            replace p317:=eq_true p317
            replace q317:=eq_true q317
            have hnb97:=NB308_305.out
            have hnc97:=NB305_308.out
            have hnb98:=NB308_306.out
            have hnc98:=NB306_308.out
            have hnb99:=NB308_307.out
            have hnc99:=NB307_308.out
            have hcz100_0 : wr.cell? ⟨gb308,0,none⟩ = some (u309000):=(bC BK308.out 0).trans rfl
            have hcz100_1 : wr.cell? ⟨gb308,1,none⟩ = some (.slice Ao42 t311.length co42):=(bC BK308.out 1).trans rfl
            have hcz100_2 : wr.cell? ⟨gb308,2,none⟩ = some (.bool true):=(bC BK308.out 2).trans rfl
            have hcz100_3 : wr.cell? ⟨gb308,3,none⟩ = some (.bool x309003_2):=(bC BK308.out 3).trans rfl
            have hfz100_0:=blk_frozen BK308.out 0
            have hfz100_1:=blk_frozen BK308.out 1
            have hfz100_2:=blk_frozen BK308.out 2
            have hfz100_3:=blk_frozen BK308.out 3
            go_wp2_with (first|((with_reducible refine gate_callee (f:=110) rfl ?_);refine goesL_ (some 40) rfl rfl Try.func110 (by kernel_rfl) rfl #[.slice Ao42 t311.length co42,.int .i64 x32_2] rfl (by (try simp only [mA,mC,mN]);first|done|rfl) ?_;(with_reducible refine (impl_seatOf.calls _ _ t311 x32_2 t318 _ ?side1 ?side2 A55.out).mono ?_);(case side1=>repeat (first|exact (Kd.R_reads' HO_309001.out).2.2|(with_reducible refine Kd.C_alloc ?_ _)|(with_reducible refine Kd.C_drewN ?_ _)|(with_reducible refine Kd.C_drew ?_)));(case side2=>exact (Kd.R_reads' HO_309001.out).2.1);rintro e w' ⟨rfl,⟨nd,rfl⟩⟩;refine ⟨_,rfl,?_⟩;(try (rw [drewN_self wr];generalize hq_ : World.drewN wr _ = wr;have n0_ : Aside0 (Kd.V (Kd.int .i64) 2 wr w.heap.size (fun k_=>((P0_0_ k_ ∨ P1_2_ k_) ∨ w.heap.size ≤ k_) ∧ some k_ ≠ (u309000 : Value).ownBlock ∧ some k_ ≠ (.slice Ao42 t311.length co42 : Value).ownBlock ∧ k_ ≠ gb305 ∧ k_ ≠ gb306 ∧ k_ ≠ gb307 ∧ k_ ≠ gb308) (.slice (some ad317) l1_2.length c1_2) l1_2):=⟨by rw [← hq_];exact (vX HO_30.out)⟩;have n1_ : Aside0 (Kd.V (Kd.slice 2 (Kd.int .i64)) 22 wr w.heap.size (fun k_=>((P0_0_ k_ ∨ P1_2_ k_) ∨ w.heap.size ≤ k_) ∧ some k_ ≠ (u309000 : Value).ownBlock ∧ some k_ ≠ (.slice Ao42 t311.length co42 : Value).ownBlock ∧ k_ ≠ gb305 ∧ k_ ≠ gb306 ∧ k_ ≠ gb307 ∧ k_ ≠ gb308) u306000 x306000_2):=⟨by rw [← hq_];exact (vX HO_306000.out)⟩;have n2_ : Aside0 (Kd.V (Kd.int .i64) 2 wr w.heap.size (fun k_=>((P0_0_ k_ ∨ P1_2_ k_) ∨ w.heap.size ≤ k_) ∧ some k_ ≠ (u309000 : Value).ownBlock ∧ some k_ ≠ (.slice Ao42 t311.length co42 : Value).ownBlock ∧ k_ ≠ gb305 ∧ k_ ≠ gb306 ∧ k_ ≠ gb307 ∧ k_ ≠ gb308) (.slice (some ad317) l1_2.length c1_2) l1_2):=⟨by rw [← hq_];exact (vX HO_307002.out)⟩;have n3_ : Aside0 (Kd.N (Kd.slice 2 (Kd.int .i64)) 22 wr w.heap.size (fun k_=>((P0_0_ k_ ∨ P1_2_ k_) ∨ w.heap.size ≤ k_) ∧ some k_ ≠ (.slice Ao42 t311.length co42 : Value).ownBlock ∧ k_ ≠ gb305 ∧ k_ ≠ gb306 ∧ k_ ≠ gb307 ∧ k_ ≠ gb308) u309000 x309000_2):=⟨by rw [← hq_];exact (by (with_reducible repeat first|apply Kd.N_alloc|apply Kd.N_drewN|apply Kd.N_drew);exact HO_309000.out)⟩;have n4_ : Aside0 (Kd.R (Kd.int .i64) 2 wr w.heap.size (fun k_=>(w.heap.size ≤ k_)) (.slice Ao42 t311.length co42) t311):=⟨by rw [← hq_];exact (rX HO_309001.out)⟩;have n5_ : Aside0 (wr.heap[gb305]? = some (.cells #[u306000] 44 (0,0))):=⟨by rw [← hq_];exact (bX BK305.out)⟩;have n6_ : Aside0 (wr.heap[gb306]? = some (.cells #[.int .i64 a1_0,.int .i64 a1_1,.slice (some ad317) l1_2.length c1_2] 27 (0,0))):=⟨by rw [← hq_];exact (bX BK306.out)⟩;have n7_ : Aside0 (wr.heap[gb307]? = some (.cells #[.slice none 0 0,.slice none 0 0,.bool x308002_2,.bool x308003_2] 92 (0,0))):=⟨by rw [← hq_];exact (bX BK307.out)⟩;have n8_ : Aside0 (wr.heap[gb308]? = some (.cells #[u309000,.slice Ao42 t311.length co42,.bool true,.bool x309003_2] 92 (0,0))):=⟨by rw [← hq_];exact (bX BK308.out)⟩;have n9_ : Aside0 (Below w.heap.size w wr):=⟨by rw [← hq_];exact (bW HB.out)⟩;clear HO_30 HO_306000 HO_307002 HO_309000 HO_309001 BK305 BK306 BK307 BK308 HB hq_;have HO_30:=n0_;have HO_306000:=n1_;have HO_307002:=n2_;have HO_309000:=n3_;have HO_309001:=n4_;have BK305:=n5_;have BK306:=n6_;have BK307:=n7_;have BK308:=n8_;have HB:=n9_;clear n0_ n1_ n2_ n3_ n4_ n5_ n6_ n7_ n8_ n9_;(try replace hcz100_0:=(bC BK308.out 0).trans (rfl : _ = some _));(try replace hcz100_1:=(bC BK308.out 1).trans (rfl : _ = some _));(try replace hcz100_2:=(bC BK308.out 2).trans (rfl : _ = some _));(try replace hcz100_3:=(bC BK308.out 3).trans (rfl : _ = some _));(try replace hfz100_0:=blk_frozen BK308.out 0);(try replace hfz100_1:=blk_frozen BK308.out 1);(try replace hfz100_2:=blk_frozen BK308.out 2);(try replace hfz100_3:=blk_frozen BK308.out 3)));obtain ⟨Ao101,co101,eo101⟩:=Kd.N_slice HO_309000.out;subst eo101;have p319 : 0 ≤ (t318 : Int):=of_decide_eq_true (by first|(with_reducible assumption)|assumption);have q319 : t318 < (x309000_2.length : Int):=of_decide_eq_true (by first|(with_reducible assumption)|assumption);obtain ⟨ad319,A319_0,c319_0,e319,hx319_0,hl319_0,hi319_0⟩:=at_L1 (Kd.N_reads' HO_309000.out).2.2 t318 p319 q319;cases e319;obtain ⟨ce319,hce319,hMe319,hcc319⟩:=Kd.N_get HO_309000.out [] t318 p319 (by first|exact q319|exact of_decide_eq_true (by first|(with_reducible assumption)|assumption)|(have e_:=(Kd.N_reads' HO_309000.out).1;omega));obtain ⟨ua319_0,uc319_0,rfl,ul319_0,ge319_0⟩:=Kd.FK_slice_open hMe319;have hv319_0:=hcc319 0 _ rfl;rw [Nat.add_zero,show ((Kd.slice 2 (Kd.int .i64))).sz = 1 from rfl,Nat.mul_one] at hv319_0;replace hv319_0:=Option.some.inj (hv319_0.symm.trans hx319_0);injection hv319_0 with hva_ hvn_ hvc_;rw [hva_] at ge319_0;rw [hvc_] at ul319_0;have HL319_0:=aK (show Kd.V (Kd.int .i64) 2 _ w.heap.size _ _ (rd_L1 x309000_2 t318) from Kd.V_mk ul319_0 ge319_0);clear hva_ hvn_ hvc_ ge319_0 ul319_0;clear hcc319 hce319;have HR319_0:=aK hi319_0;have HC319_0:=aK hl319_0;clear hi319_0 hl319_0;replace p319:=eq_true p319;replace q319:=eq_true q319)|((with_reducible refine gate_callee (f:=122) rfl ?_);refine goesL_ (some 48) rfl rfl Try.func122 (by kernel_rfl) rfl #[.slice A319_0 (rd_L1 x309000_2 t318).length c319_0,.int .i64 (rd l1_2 x32_2)] rfl (by (try simp only [mA,mC,mN]);first|done|rfl) ?_;(with_reducible refine (slices_Contains_int64_int64.calls k2 _ _ (rd_L1 x309000_2 t318) (rd l1_2 x32_2) false _ ?side1 ?side2 A58.out).mono ?_);(case side1=>repeat (first|exact (by repeat (first|(with_reducible exact HR319_0.out)|(with_reducible refine Kd.C_alloc ?_ _)|(with_reducible refine Kd.C_drewN ?_ _)|(with_reducible refine Kd.C_drew ?_)|exact HR319_0.out))|(with_reducible refine Kd.C_alloc ?_ _)|(with_reducible refine Kd.C_drewN ?_ _)|(with_reducible refine Kd.C_drew ?_)));(case side2=>exact HC319_0.out);rintro e w' ⟨rfl,⟨nd,rfl⟩⟩;refine ⟨_,rfl,?_⟩;(try (rw [drewN_self wr];generalize hq_ : World.drewN wr _ = wr;have n0_ : Aside0 (Kd.V (Kd.int .i64) 2 wr w.heap.size (fun k_=>((P0_0_ k_ ∨ P1_2_ k_) ∨ w.heap.size ≤ k_) ∧ some k_ ≠ (.slice (some ad319) x309000_2.length co101 : Value).ownBlock ∧ some k_ ≠ (.slice Ao42 t311.length co42 : Value).ownBlock ∧ k_ ≠ gb305 ∧ k_ ≠ gb306 ∧ k_ ≠ gb307 ∧ k_ ≠ gb308) (.slice A319_0 (rd_L1 x309000_2 t318).length c319_0) (rd_L1 x309000_2 t318)):=⟨by rw [← hq_];exact (by (with_reducible repeat first|apply Kd.V_alloc|apply Kd.V_drewN|apply Kd.V_drew);exact Kd.V_mono HL319_0.out (fun _ hk=>⟨hk.1.1,⟨hk.2,⟨hk.1.2.1,⟨hk.1.2.2.1,⟨hk.1.2.2.2.1,⟨hk.1.2.2.2.2.1,hk.1.2.2.2.2.2⟩⟩⟩⟩⟩⟩))⟩;have n1_ : Aside0 (Kd.V (Kd.int .i64) 2 wr w.heap.size (fun k_=>((P0_0_ k_ ∨ P1_2_ k_) ∨ w.heap.size ≤ k_) ∧ some k_ ≠ (.slice (some ad319) x309000_2.length co101 : Value).ownBlock ∧ some k_ ≠ (.slice Ao42 t311.length co42 : Value).ownBlock ∧ k_ ≠ gb305 ∧ k_ ≠ gb306 ∧ k_ ≠ gb307 ∧ k_ ≠ gb308) (.slice (some ad317) l1_2.length c1_2) l1_2):=⟨by rw [← hq_];exact (vX HO_30.out)⟩;have n2_ : Aside0 (Kd.V (Kd.slice 2 (Kd.int .i64)) 22 wr w.heap.size (fun k_=>((P0_0_ k_ ∨ P1_2_ k_) ∨ w.heap.size ≤ k_) ∧ some k_ ≠ (.slice (some ad319) x309000_2.length co101 : Value).ownBlock ∧ some k_ ≠ (.slice Ao42 t311.length co42 : Value).ownBlock ∧ k_ ≠ gb305 ∧ k_ ≠ gb306 ∧ k_ ≠ gb307 ∧ k_ ≠ gb308) u306000 x306000_2):=⟨by rw [← hq_];exact (vX HO_306000.out)⟩;have n3_ : Aside0 (Kd.V (Kd.int .i64) 2 wr w.heap.size (fun k_=>((P0_0_ k_ ∨ P1_2_ k_) ∨ w.heap.size ≤ k_) ∧ some k_ ≠ (.slice (some ad319) x309000_2.length co101 : Value).ownBlock ∧ some k_ ≠ (.slice Ao42 t311.length co42 : Value).ownBlock ∧ k_ ≠ gb305 ∧ k_ ≠ gb306 ∧ k_ ≠ gb307 ∧ k_ ≠ gb308) (.slice (some ad317) l1_2.length c1_2) l1_2):=⟨by rw [← hq_];exact (vX HO_307002.out)⟩;have n4_ : Aside0 (Kd.N (Kd.slice 2 (Kd.int .i64)) 22 wr w.heap.size (fun k_=>((P0_0_ k_ ∨ P1_2_ k_) ∨ w.heap.size ≤ k_) ∧ some k_ ≠ (.slice Ao42 t311.length co42 : Value).ownBlock ∧ k_ ≠ gb305 ∧ k_ ≠ gb306 ∧ k_ ≠ gb307 ∧ k_ ≠ gb308) (.slice (some ad319) x309000_2.length co101) x309000_2):=⟨by rw [← hq_];exact (by (with_reducible repeat first|apply Kd.N_alloc|apply Kd.N_drewN|apply Kd.N_drew);exact HO_309000.out)⟩;have n5_ : Aside0 (Kd.R (Kd.int .i64) 2 wr w.heap.size (fun k_=>(w.heap.size ≤ k_)) (.slice Ao42 t311.length co42) t311):=⟨by rw [← hq_];exact (rX HO_309001.out)⟩;have n6_ : Aside0 (wr.heap[gb305]? = some (.cells #[u306000] 44 (0,0))):=⟨by rw [← hq_];exact (bX BK305.out)⟩;have n7_ : Aside0 (wr.heap[gb306]? = some (.cells #[.int .i64 a1_0,.int .i64 a1_1,.slice (some ad317) l1_2.length c1_2] 27 (0,0))):=⟨by rw [← hq_];exact (bX BK306.out)⟩;have n8_ : Aside0 (wr.heap[gb307]? = some (.cells #[.slice none 0 0,.slice none 0 0,.bool x308002_2,.bool x308003_2] 92 (0,0))):=⟨by rw [← hq_];exact (bX BK307.out)⟩;have n9_ : Aside0 (wr.heap[gb308]? = some (.cells #[.slice (some ad319) x309000_2.length co101,.slice Ao42 t311.length co42,.bool true,.bool x309003_2] 92 (0,0))):=⟨by rw [← hq_];exact (bX BK308.out)⟩;have n10_ : Aside0 (Below w.heap.size w wr):=⟨by rw [← hq_];exact (bW HB.out)⟩;have n11_ : Aside0 (Kd.C (Kd.int .i64) wr A319_0 (rd_L1 x309000_2 t318).length (rd_L1 x309000_2 t318)):=⟨by rw [← hq_];exact (by repeat (first|(with_reducible exact HR319_0.out)|(with_reducible refine Kd.C_alloc ?_ _)|(with_reducible refine Kd.C_drewN ?_ _)|(with_reducible refine Kd.C_drew ?_)|exact HR319_0.out))⟩;clear HL319_0 HO_30 HO_306000 HO_307002 HO_309000 HO_309001 BK305 BK306 BK307 BK308 HB HR319_0 hq_;have HL319_0:=n0_;have HO_30:=n1_;have HO_306000:=n2_;have HO_307002:=n3_;have HO_309000:=n4_;have HO_309001:=n5_;have BK305:=n6_;have BK306:=n7_;have BK307:=n8_;have BK308:=n9_;have HB:=n10_;have HR319_0:=n11_;clear n0_ n1_ n2_ n3_ n4_ n5_ n6_ n7_ n8_ n9_ n10_ n11_;(try replace hcz100_0:=(bC BK308.out 0).trans (rfl : _ = some _));(try replace hcz100_1:=(bC BK308.out 1).trans (rfl : _ = some _));(try replace hcz100_2:=(bC BK308.out 2).trans (rfl : _ = some _));(try replace hcz100_3:=(bC BK308.out 3).trans (rfl : _ = some _));(try replace hfz100_0:=blk_frozen BK308.out 0);(try replace hfz100_1:=blk_frozen BK308.out 1);(try replace hfz100_2:=blk_frozen BK308.out 2);(try replace hfz100_3:=blk_frozen BK308.out 3)));have hnb102:=NB307_305.out;have hnc102:=NB305_307.out;have hnb103:=NB307_306.out;have hnc103:=NB306_307.out;have hcz104_0 : wr.cell? ⟨gb307,0,none⟩ = some (.slice none 0 0):=(bC BK307.out 0).trans rfl;have hcz104_1 : wr.cell? ⟨gb307,1,none⟩ = some (.slice none 0 0):=(bC BK307.out 1).trans rfl;have hcz104_2 : wr.cell? ⟨gb307,2,none⟩ = some (.bool x308002_2):=(bC BK307.out 2).trans rfl;have hcz104_3 : wr.cell? ⟨gb307,3,none⟩ = some (.bool x308003_2):=(bC BK307.out 3).trans rfl;have hfz104_0:=blk_frozen BK307.out 0;have hfz104_1:=blk_frozen BK307.out 1;have hfz104_2:=blk_frozen BK307.out 2;have hfz104_3:=blk_frozen BK307.out 3))
            refine bodyPost_ret (results_cell_row rfl _ _ gb307 92 #[.slice none 0 0,.slice none 0 0,.bool false,.bool false] (0,0) _ rfl (by (with_reducible repeat first|apply bN|apply bD|apply bA);refine blk_put (cs:=#[.slice none 0 0,.slice none 0 0,.bool false,.bool x308003_2]) ?_ 3 _ rfl;(with_reducible repeat first|apply bN|apply bD|apply bA);refine blk_put (cs:=#[.slice none 0 0,.slice none 0 0,.bool x308002_2,.bool x308003_2]) ?_ 2 _ rfl;(with_reducible repeat first|apply bN|apply bD|apply bA);refine blk_put (cs:=#[.slice none 0 0,.slice none 0 0,.bool x308002_2,.bool x308003_2]) ?_ 1 _ rfl;(with_reducible repeat first|apply bN|apply bD|apply bA);refine blk_put (cs:=#[.slice none 0 0,.slice none 0 0,.bool x308002_2,.bool x308003_2]) ?_ 0 _ rfl;(with_reducible repeat first|apply bN|apply bD|apply bA);exact BK307.out) Try.underlying92 rfl (by kernel_rfl)) rfl ?_
            exact ⟨_,_,by first|rfl|(simp [errW_none,errW_some] <;> rfl)|(simp [*,errW_none,errW_some] <;> rfl),by first|exact Kd.S_nil _ _ _ _ _|exact Kd.N_nil _ _ _ _ _|exact Kd.V_nil _ _ _ _ _|exact Kd.Q_nil _ _ _ _ _|exact Kd.R_nil _ _ _ _ _,by first|exact Kd.R_nil _ _ _ _ _|exact Kd.N_nil _ _ _ _ _|exact Kd.V_nil _ _ _ _ _|exact Kd.Q_nil _ _ _ _ _|exact Kd.S_nil _ _ _ _ _,bW HB.out⟩
          ·rw [if_neg c57] at H
           exact absurd H (by simp)
         ·rw [if_neg c56] at H
          exact absurd H (by simp)
        ·rw [if_neg c54] at H
         exact absurd H (by simp)
       ·rw [if_neg c53] at H
        exact absurd H (by simp)
      ·rw [if_neg c52] at H
       have c52b0 : decide (x32_2 < (l1_2.length : Int)) = false:=decide_eq_false c52
       clear c52
       simp only [Option.some.injEq,Prod.mk.injEq] at H
       obtain ⟨rfl,rfl,rfl,rfl⟩:=H
       have hnb105:=NB308_305.out
       have hnc105:=NB305_308.out
       have hnb106:=NB308_306.out
       have hnc106:=NB306_308.out
       have hnb107:=NB308_307.out
       have hnc107:=NB307_308.out
       have hcz108_0 : wr.cell? ⟨gb308,0,none⟩ = some (u309000):=(bC BK308.out 0).trans rfl
       have hcz108_1 : wr.cell? ⟨gb308,1,none⟩ = some (.slice Ao42 t311.length co42):=(bC BK308.out 1).trans rfl
       have hcz108_2 : wr.cell? ⟨gb308,2,none⟩ = some (.bool true):=(bC BK308.out 2).trans rfl
       have hcz108_3 : wr.cell? ⟨gb308,3,none⟩ = some (.bool x309003_2):=(bC BK308.out 3).trans rfl
       have hfz108_0:=blk_frozen BK308.out 0
       have hfz108_1:=blk_frozen BK308.out 1
       have hfz108_2:=blk_frozen BK308.out 2
       have hfz108_3:=blk_frozen BK308.out 3
       obtain ⟨Ao109,co109,eo109⟩:=Kd.N_slice HO_309000.out
       subst eo109
       have hnb110:=NB307_305.out
       have hnc110:=NB305_307.out
       have hnb111:=NB307_306.out
       have hnc111:=NB306_307.out
       have hcz112_0 : wr.cell? ⟨gb307,0,none⟩ = some (.slice none 0 0):=(bC BK307.out 0).trans rfl
       have hcz112_1 : wr.cell? ⟨gb307,1,none⟩ = some (.slice none 0 0):=(bC BK307.out 1).trans rfl
       have hcz112_2 : wr.cell? ⟨gb307,2,none⟩ = some (.bool x308002_2):=(bC BK307.out 2).trans rfl
       have hcz112_3 : wr.cell? ⟨gb307,3,none⟩ = some (.bool x308003_2):=(bC BK307.out 3).trans rfl
       have hfz112_0:=blk_frozen BK307.out 0
       have hfz112_1:=blk_frozen BK307.out 1
       have hfz112_2:=blk_frozen BK307.out 2
       have hfz112_3:=blk_frozen BK307.out 3
       go_wp2
       refine bodyPost_ret (results_cell_row rfl _ _ gb307 92 #[.slice Ao109 x309000_2.length co109,.slice Ao42 t311.length co42,.bool true,.bool x309003_2] (0,0) _ rfl (by (with_reducible repeat first|apply bN|apply bD|apply bA);refine blk_put (cs:=#[.slice Ao109 x309000_2.length co109,.slice Ao42 t311.length co42,.bool true,.bool x308003_2]) ?_ 3 _ rfl;(with_reducible repeat first|apply bN|apply bD|apply bA);refine blk_put (cs:=#[.slice Ao109 x309000_2.length co109,.slice Ao42 t311.length co42,.bool x308002_2,.bool x308003_2]) ?_ 2 _ rfl;(with_reducible repeat first|apply bN|apply bD|apply bA);refine blk_put (cs:=#[.slice Ao109 x309000_2.length co109,.slice none 0 0,.bool x308002_2,.bool x308003_2]) ?_ 1 _ rfl;(with_reducible repeat first|apply bN|apply bD|apply bA);refine blk_put (cs:=#[.slice none 0 0,.slice none 0 0,.bool x308002_2,.bool x308003_2]) ?_ 0 _ rfl;(with_reducible repeat first|apply bN|apply bD|apply bA);exact BK307.out) Try.underlying92 rfl (by kernel_rfl)) rfl ?_
       exact ⟨_,_,by first|rfl|(simp [errW_none,errW_some] <;> rfl)|(simp [*,errW_none,errW_some] <;> rfl),by (with_reducible repeat first|apply Kd.N_alloc|apply Kd.N_drewN|apply Kd.N_drew);exact Kd.N_mono (Kd.N_far (p:=⟨gb307,3,none⟩) (Kd.N_far (p:=⟨gb307,2,none⟩) (Kd.N_far (p:=⟨gb307,1,none⟩) (Kd.N_far (p:=⟨gb307,0,none⟩) (Kd.N_mono HO_309000.out (fun k_ hk=>(⟨hk,hk.2.2.2.2.1⟩ : _ ∧ k_ ≠ gb307))) (fun _ hk=>hk.2) (.slice Ao109 x309000_2.length co109)) (fun _ hk=>hk.2) (.slice Ao42 t311.length co42)) (fun _ hk=>hk.2) (.bool true)) (fun _ hk=>hk.2) (.bool x309003_2)) (fun _ hk=>⟨hk.1.1,hk.1.2.1⟩),by (with_reducible repeat first|apply Kd.R_alloc|apply Kd.R_drewN|apply Kd.R_drew);exact Kd.R_mono (Kd.R_far (p:=⟨gb307,3,none⟩) (Kd.R_far (p:=⟨gb307,2,none⟩) (Kd.R_far (p:=⟨gb307,1,none⟩) (Kd.R_far (p:=⟨gb307,0,none⟩) (Kd.R_types HO_309001.out BK307.out (by decide)) (fun _ hk=>hk.2) (.slice Ao109 x309000_2.length co109)) (fun _ hk=>hk.2) (.slice Ao42 t311.length co42)) (fun _ hk=>hk.2) (.bool true)) (fun _ hk=>hk.2) (.bool x309003_2)) (fun _ hk=>hk.1),bW HB.out⟩

end Go.Proofs.Ytakepkjcmgcepaa.QFnExactIsClaim
