/- The functions that the law FnExactTurnOf reaches, as plain functions, and the walks that show that the machine's calls answer so. Written by a program of this session (wip/myprint.py) on the kit's print. -/
import Derived.Test.YtakepkjcmgcepaaQFnExactTurnOfx0
import Derived.Test.YtakepkjcmgcepaaQFnExactTurnOfx7
import Derived.Test.YtakepkjcmgcepaaQFnExactTurnOfx8
namespace Go.Proofs.Ytakepkjcmgcepaa.QFnExactTurnOf
open Go.RowKit Go.Proofs.YtakepkjcmgcepaaW.PrintWords Go.Proofs.YtakepkjcmgcepaaW.PrintLast Go.Proofs.YtakepkjcmgcepaaW.PrintMore
attribute [local go_sem] max2_int min2_int max_two min_two max_three min_three max_four min_four   -- for this text's walks alone
set_option linter.unusedVariables false
set_option linter.unusedSimpArgs false

/-! ### impl_recordOf: function 106 -/
mutual
def impl_recordOf.j0 : Nat → Bool → List (List Int) → Int → Int → List Int → Bool → Bool → Option ((List (List Int)) × List Int × Bool × Bool)
 | 0,_,_,_,_,_,_,_=>none
 | k + 1,x18,x298000,x299000,x299001,x299002,x301002,x301003=>if x18 = true then (some (([] : List (List Int)),([] : List Int),x301002,x301003)) else ((impl_leaders.f k x299000 x299001 x299002).bind fun t303=>((slices_Clone_int64_int64_144.f x298000).bind fun t306=>(impl_recordOf.l0 k x299002 (x299002.length : Int) 0 x299000 x299001 x299002 t306 t303 true true)))
def impl_recordOf.l0 : Nat → List Int → Int → Int → Int → Int → List Int → List (List Int) → List Int → Bool → Bool → Option ((List (List Int)) × List Int × Bool × Bool)
 | 0,_,_,_,_,_,_,_,_,_,_=>none
 | k + 1,x30,x31,x32,x299000,x299001,x299002,x301000,x301001,x301002,x301003=>if x32 < x31 then (if 0 ≤ x32 then (if x32 < (x30.length : Int) then ((impl_seatOf.f x301001 x32).bind fun t310=>(if 0 ≤ t310 then (if t310 < (x301000.length : Int) then ((slices_Contains_int64_int64.f k (rd_L1 x301000 t310) (rd x30 x32)).bind fun t312=>(if t312 = true then (if x301003 = true then (if x32 ≤ (x299002.length : Int) then ((impl_trickAt.f (x299002.take (x32 : Int).toNat)).bind fun t318=>((impl_follow.f k (rd_L1 x301000 t310) t318).bind fun t321=>((slices_Contains_int64_int64.f k t321 (rd x30 x32)).bind fun t324=>((impl_without.f (rd_L1 x301000 t310) (rd x30 x32)).bind fun t325=>(impl_recordOf.l0 k x30 x31 (wrap64 (x32 + 1)) x299000 x299001 x299002 (x301000.set (t310 : Int).toNat t325) x301001 x301002 t324))))) else (none)) else ((impl_without.f (rd_L1 x301000 t310) (rd x30 x32)).bind fun t329=>(impl_recordOf.l0 k x30 x31 (wrap64 (x32 + 1)) x299000 x299001 x299002 (x301000.set (t310 : Int).toNat t329) x301001 x301002 false))) else (some (([] : List (List Int)),([] : List Int),false,false)))) else (none)) else (none))) else (none)) else (none)) else (some (x301000,x301001,x301002,x301003))
end
def impl_recordOf.f (k : Nat) (l0_0 : List (List Int)) (a1_0 : Int) (a1_1 : Int) (l1_2 : List Int) : Option ((List (List Int)) × List Int × Bool × Bool) := (impl_IsDeal.f l0_0).bind fun t301 => (if t301 = true then ((impl_IsPlainPlay.f a1_0 a1_1 l1_2).bind fun t302 => (impl_recordOf.j0 k (!t302) l0_0 a1_0 a1_1 l1_2 false false)) else (impl_recordOf.j0 k true l0_0 a1_0 a1_1 l1_2 false false))
theorem impl_recordOf.mono_l : ∀ k, (∀ y0 y1 y2 y3 y4 y5 y6, LeO (impl_recordOf.j0 k y0 y1 y2 y3 y4 y5 y6) (impl_recordOf.j0 (k + 1) y0 y1 y2 y3 y4 y5 y6)) ∧ (∀ y0 y1 y2 y3 y4 y5 y6 y7 y8 y9, LeO (impl_recordOf.l0 k y0 y1 y2 y3 y4 y5 y6 y7 y8 y9) (impl_recordOf.l0 (k + 1) y0 y1 y2 y3 y4 y5 y6 y7 y8 y9))
 | 0=>⟨fun _ _ _ _ _ _ _ r h=>by simp [impl_recordOf.j0] at h,fun _ _ _ _ _ _ _ _ _ _ r h=>by simp [impl_recordOf.l0] at h⟩
 | k + 1=>by
  obtain ⟨ih0,ih1⟩:=impl_recordOf.mono_l k
  refine ⟨?_,?_⟩
  ·intro y0 y1 y2 y3 y4 y5 y6
   unfold impl_recordOf.j0
   repeat' first
   | (with_reducible exact ih0 _ _ _ _ _ _ _)
   | (with_reducible exact ih1 _ _ _ _ _ _ _ _ _ _)
   | (with_reducible exact impl_follow.mono _ _ _)
   | (with_reducible exact impl_leaders.mono _ _ _ _)
   | (with_reducible exact slices_Contains_int64_int64.mono _ _ _)
   | (with_reducible exact LeO.refl _)
   | (with_reducible exact LeO.none _)
   | (with_reducible refine LeO.ite ?_ ?_)
   | (with_reducible refine LeO.bind ?_ (fun _=>?_))
   | exact ih0 _ _ _ _ _ _ _
   | exact ih1 _ _ _ _ _ _ _ _ _ _
   | exact impl_follow.mono _ _ _
   | exact impl_leaders.mono _ _ _ _
   | exact slices_Contains_int64_int64.mono _ _ _
   | exact LeO.none _
   | refine LeO.ite ?_ ?_
   | refine LeO.bind ?_ (fun _=>?_)
  ·intro y0 y1 y2 y3 y4 y5 y6 y7 y8 y9
   unfold impl_recordOf.l0
   repeat' first
   | (with_reducible exact ih0 _ _ _ _ _ _ _)
   | (with_reducible exact ih1 _ _ _ _ _ _ _ _ _ _)
   | (with_reducible exact impl_follow.mono _ _ _)
   | (with_reducible exact impl_leaders.mono _ _ _ _)
   | (with_reducible exact slices_Contains_int64_int64.mono _ _ _)
   | (with_reducible exact LeO.refl _)
   | (with_reducible exact LeO.none _)
   | (with_reducible refine LeO.ite ?_ ?_)
   | (with_reducible refine LeO.bind ?_ (fun _=>?_))
   | exact ih0 _ _ _ _ _ _ _
   | exact ih1 _ _ _ _ _ _ _ _ _ _
   | exact impl_follow.mono _ _ _
   | exact impl_leaders.mono _ _ _ _
   | exact slices_Contains_int64_int64.mono _ _ _
   | exact LeO.none _
   | refine LeO.ite ?_ ?_
   | refine LeO.bind ?_ (fun _=>?_)
theorem impl_recordOf.mono : ∀ a0 a1 a2 a3 k, LeO (impl_recordOf.f k a0 a1 a2 a3) (impl_recordOf.f (k + 1) a0 a1 a2 a3) := by
 intro a0 a1 a2 a3 k
 obtain ⟨ih0,ih1⟩:=impl_recordOf.mono_l k
 unfold impl_recordOf.f
 repeat' first
   | (with_reducible exact ih0 _ _ _ _ _ _ _)
   | (with_reducible exact ih1 _ _ _ _ _ _ _ _ _ _)
   | (with_reducible exact impl_follow.mono _ _ _)
   | (with_reducible exact impl_leaders.mono _ _ _ _)
   | (with_reducible exact slices_Contains_int64_int64.mono _ _ _)
   | (with_reducible exact LeO.refl _)
   | (with_reducible exact LeO.none _)
   | (with_reducible refine LeO.ite ?_ ?_)
   | (with_reducible refine LeO.bind ?_ (fun _=>?_))
   | exact ih0 _ _ _ _ _ _ _
   | exact ih1 _ _ _ _ _ _ _ _ _ _
   | exact impl_follow.mono _ _ _
   | exact impl_leaders.mono _ _ _ _
   | exact slices_Contains_int64_int64.mono _ _ _
   | exact LeO.none _
   | refine LeO.ite ?_ ?_
   | refine LeO.bind ?_ (fun _=>?_)
def impl_recordOf.T4 : Bool × List (List Nat × List Nat) := (true, [([], []), ([0], [0]), ([], []), ([2], [2]), ([3, 1], [3]), ([0, 1], []), ([5, 1, 4, 0, 1], [1, 5]), ([0, 1, 2, 3, 4, 5, 6], []), ([7, 4, 6, 0, 1, 2, 3, 4, 5, 6], [4, 7]), ([0, 1, 2, 3, 4, 5, 6, 7, 8], []), ([9, 8, 0, 1, 2, 3, 4, 5, 6, 7, 8], [9]), ([0, 1, 2, 3, 4, 5, 6, 7, 8, 9, 10], []), ([11, 10, 0, 1, 2, 3, 4, 5, 6, 7, 8, 9, 10], [11])])
def impl_recordOf.B4 : List Nat := [0, 1, 0, 4, 15, 3, 63, 127, 255, 511, 1023, 2047, 4095]
theorem impl_recordOf.tab4 : rtab .any (opsOf Try.f106 4) = impl_recordOf.T4 := by kernel_rfl
theorem impl_recordOf.bits4 : waitsOk impl_recordOf.T4.2 impl_recordOf.B4 = true := by kernel_rfl
def impl_recordOf.T13 : Bool × List (List Nat × List Nat) := (true, [([], []), ([0], [0]), ([], []), ([], []), ([], []), ([3, 4], [3, 4]), ([1, 2, 0, 1, 2, 3, 4, 5], [1, 2]), ([6, 5, 5, 0, 1, 2, 3, 4, 5], [5, 6])])
def impl_recordOf.B13 : List Nat := [0, 1, 0, 0, 0, 24, 63, 127]
theorem impl_recordOf.tab13 : rtab .any (opsOf Try.f106 13) = impl_recordOf.T13 := by kernel_rfl
theorem impl_recordOf.bits13 : waitsOk impl_recordOf.T13.2 impl_recordOf.B13 = true := by kernel_rfl
set_option maxHeartbeats 8000000 in
set_option maxRecDepth 100000 in
theorem impl_recordOf.calls (k : Nat) (P0_0_ : Nat → Prop) (A0_0 : Option Addr) (c0_0 : Nat) (l0_0 : List (List Int)) (a1_0 : Int) (a1_1 : Int) (P1_2_ : Nat → Prop) (A1_2 : Option Addr) (c1_2 : Nat) (l1_2 : List Int) (r1 : List (List Int)) (r2 : List Int) (r3 : Bool) (r4 : Bool) (w : World) (hs0_0 : Kd.V (Kd.slice 2 (Kd.int .i64)) 22 w w.heap.size (fun k_ => P0_0_ k_) (.slice A0_0 l0_0.length c0_0) l0_0) (hs1_2 : Kd.V (Kd.int .i64) 2 w w.heap.size (fun k_ => P1_2_ k_) (.slice A1_2 l1_2.length c1_2) l1_2) (h : impl_recordOf.f k l0_0 a1_0 a1_1 l1_2 = some (r1, r2, r3, r4)) :
  Calls Try.prog 106 #[.agg #[.slice A0_0 l0_0.length c0_0],.agg #[.int .i64 a1_0,.int .i64 a1_1,.slice A1_2 l1_2.length c1_2]] w fun e w'=>∃ v0_ v1_ : Value,e = .returned (.agg #[v0_,v1_,.bool r3,.bool r4]) ∧ Kd.N (Kd.slice 2 (Kd.int .i64)) 22 w' w.heap.size (fun k_=>((P0_0_ k_ ∨ P1_2_ k_) ∨ w.heap.size ≤ k_) ∧ some k_ ≠ (v1_ : Value).ownBlock) v0_ r1 ∧ Kd.R (Kd.int .i64) 2 w' w.heap.size (fun k_=>(w.heap.size ≤ k_)) v1_ r2 ∧ Below w.heap.size w w':=by
 have hu44:=Try.underlying44
 have hu27:=Try.underlying27
 have hu92:=Try.underlying92
 have HO0_0:=aK (show Kd.V (Kd.slice 2 (Kd.int .i64)) 22 w w.heap.size (fun k_=>((P0_0_ k_ ∨ P1_2_ k_) ∨ w.heap.size ≤ k_)) (.slice A0_0 l0_0.length c0_0) l0_0 from Kd.V_mono hs0_0 (fun k_ hk=>.inl (.inl hk)))
 have HO1_2:=aK (show Kd.V (Kd.int .i64) 2 w w.heap.size (fun k_=>((P0_0_ k_ ∨ P1_2_ k_) ∨ w.heap.size ≤ k_)) (.slice A1_2 l1_2.length c1_2) l1_2 from Kd.V_mono hs1_2 (fun k_ hk=>.inl (.inr hk)))
 have HB:=aK (Below.refl w.heap.size w)
 have H : ((impl_IsDeal.f l0_0).bind fun t301=>(if t301 = true then ((impl_IsPlainPlay.f a1_0 a1_1 l1_2).bind fun t302=>(impl_recordOf.j0 k (!t302) l0_0 a1_0 a1_1 l1_2 false false)) else (impl_recordOf.j0 k true l0_0 a1_0 a1_1 l1_2 false false))) = some (r1,r2,r3,r4):=h
 clear h
 have HC3:=aK H
 clear H
 go_enter Try.func106,Try.ntmps106
 go_upto_region 2 with (first|((with_reducible refine gate_dst (N:=2) rfl ?_);refine box_event ?hg (N:=2) ?hd (cs:=#[.slice A0_0 l0_0.length c0_0]) (t:=44) ?hr ?_;(case hd=>rfl);(case hg=>rfl);(case hr=>first|(go_simp;done)|(go_simp;rfl));intro gb297 hg w4 hbox hb;have n0_:=aK (Kd.V_below (Kd.V_elderB (by (with_reducible repeat first|apply Kd.V_alloc|apply Kd.V_drewN|apply Kd.V_drew);exact HO0_0.out) gb297 (Nat.le_of_eq hg.symm)) hb);have n1_:=aK (Kd.V_below (Kd.V_elderB (by (with_reducible repeat first|apply Kd.V_alloc|apply Kd.V_drewN|apply Kd.V_drew);exact HO1_2.out) gb297 (Nat.le_of_eq hg.symm)) hb);have n2_:=aK (below_step (by repeat (first|(with_reducible first|exact HB.out|apply bL|apply bM|apply b1)|exact HB.out)) hb);have n3_:=aK (hbox);have n4_:=aK ((by rw [hg];exact (below_size (by repeat (first|(with_reducible first|exact HB.out|apply bL|apply bM|apply b1)|exact HB.out))) : w.heap.size ≤ gb297));have n5_:=aK ((by rw [hg];exact (below_size (by repeat (first|(with_reducible first|exact HB.out|apply bL|apply bM|apply b1)|exact HB.out))) : w.heap.size ≤ gb297));clear HO0_0;clear HO1_2;clear HB;have HO0_0:=n0_;have HO1_2:=n1_;have HB:=n2_;have BK297:=n3_;have GW297:=n4_;have GE297:=n5_;clear n0_ n1_ n2_ n3_ n4_ n5_;clear hb hbox hg)|((with_reducible refine gate_dst (N:=3) rfl ?_);refine box_event ?hg (N:=3) ?hd (cs:=#[.int .i64 a1_0,.int .i64 a1_1,.slice A1_2 l1_2.length c1_2]) (t:=27) ?hr ?_;(case hd=>rfl);(case hg=>rfl);(case hr=>first|(go_simp;done)|(go_simp;rfl));intro gb298 hg w5 hbox hb;have n0_:=aK (Kd.V_below (Kd.V_elderB (by (with_reducible repeat first|apply Kd.V_alloc|apply Kd.V_drewN|apply Kd.V_drew);exact HO0_0.out) gb298 (Nat.le_of_eq hg.symm)) hb);have n1_:=aK (Kd.V_below (Kd.V_elderB (by (with_reducible repeat first|apply Kd.V_alloc|apply Kd.V_drewN|apply Kd.V_drew);exact HO1_2.out) gb298 (Nat.le_of_eq hg.symm)) hb);have n2_:=aK (bB (by (with_reducible repeat first|apply bN|apply bD|apply bA);exact BK297.out) hb);have n3_:=aK (below_step (by repeat (first|(with_reducible first|exact HB.out|apply bL|apply bM|apply b1|refine bS ?_ GE297.out)|exact HB.out)) hb);have n4_:=aK (hbox);have n5_:=aK ((by rw [hg];exact (below_size (by repeat (first|(with_reducible first|exact HB.out|apply bL|apply bM|apply b1|refine bS ?_ GE297.out)|exact HB.out))) : w.heap.size ≤ gb298));have n6_:=aK ((by rw [hg];exact (below_size (by repeat (first|(with_reducible first|exact HB.out|apply bL|apply bM|apply b1|refine bS ?_ GE297.out)|exact HB.out))) : w.heap.size ≤ gb298));have n7_:=aK ((by rw [hg];exact Nat.ne_of_lt (blk_lt (by (with_reducible repeat first|apply bN|apply bD|apply bA);exact BK297.out)) : gb297 ≠ gb298));have n8_:=aK ((by rw [hg];exact Nat.ne_of_gt (blk_lt (by (with_reducible repeat first|apply bN|apply bD|apply bA);exact BK297.out)) : gb298 ≠ gb297));clear HO0_0;clear HO1_2;clear BK297;clear HB;have HO0_0:=n0_;have HO1_2:=n1_;have BK297:=n2_;have HB:=n3_;have BK298:=n4_;have GW298:=n5_;have GE298:=n6_;have NB297_298:=n7_;have NB298_297:=n8_;clear n0_ n1_ n2_ n3_ n4_ n5_ n6_ n7_ n8_;clear hb hbox hg)|((with_reducible refine gate_dst (N:=4) rfl ?_);refine box_event ?hg (N:=4) ?hd (cs:=#[.slice none 0 0,.slice none 0 0,.bool false,.bool false]) (t:=92) ?hr ?_;(case hd=>rfl);(case hg=>rfl);(case hr=>first|(go_simp;done)|(go_simp;rfl));intro gb299 hg w6 hbox hb;have n0_:=aK (Kd.V_below (Kd.V_elderB (by (with_reducible repeat first|apply Kd.V_alloc|apply Kd.V_drewN|apply Kd.V_drew);exact HO0_0.out) gb299 (Nat.le_of_eq hg.symm)) hb);have n1_:=aK (Kd.V_below (Kd.V_elderB (by (with_reducible repeat first|apply Kd.V_alloc|apply Kd.V_drewN|apply Kd.V_drew);exact HO1_2.out) gb299 (Nat.le_of_eq hg.symm)) hb);have n2_:=aK (bB (by (with_reducible repeat first|apply bN|apply bD|apply bA);exact BK297.out) hb);have n3_:=aK (bB (by (with_reducible repeat first|apply bN|apply bD|apply bA);exact BK298.out) hb);have n4_:=aK (below_step (by repeat (first|(with_reducible first|exact HB.out|apply bL|apply bM|apply b1|refine bS ?_ GE297.out|refine bS ?_ GE298.out)|exact HB.out)) hb);have n5_:=aK (hbox);have n6_:=aK ((by rw [hg];exact (below_size (by repeat (first|(with_reducible first|exact HB.out|apply bL|apply bM|apply b1|refine bS ?_ GE297.out|refine bS ?_ GE298.out)|exact HB.out))) : w.heap.size ≤ gb299));have n7_:=aK ((by rw [hg];exact (below_size (by repeat (first|(with_reducible first|exact HB.out|apply bL|apply bM|apply b1|refine bS ?_ GE297.out|refine bS ?_ GE298.out)|exact HB.out))) : w.heap.size ≤ gb299));have n8_:=aK ((by rw [hg];exact Nat.ne_of_lt (blk_lt (by (with_reducible repeat first|apply bN|apply bD|apply bA);exact BK297.out)) : gb297 ≠ gb299));have n9_:=aK ((by rw [hg];exact Nat.ne_of_gt (blk_lt (by (with_reducible repeat first|apply bN|apply bD|apply bA);exact BK297.out)) : gb299 ≠ gb297));have n10_:=aK ((by rw [hg];exact Nat.ne_of_lt (blk_lt (by (with_reducible repeat first|apply bN|apply bD|apply bA);exact BK298.out)) : gb298 ≠ gb299));have n11_:=aK ((by rw [hg];exact Nat.ne_of_gt (blk_lt (by (with_reducible repeat first|apply bN|apply bD|apply bA);exact BK298.out)) : gb299 ≠ gb298));clear HO0_0;clear HO1_2;clear BK297;clear BK298;clear HB;have HO0_0:=n0_;have HO1_2:=n1_;have BK297:=n2_;have BK298:=n3_;have HB:=n4_;have BK299:=n5_;have GW299:=n6_;have GE299:=n7_;have NB297_299:=n8_;have NB299_297:=n9_;have NB298_299:=n10_;have NB299_298:=n11_;clear n0_ n1_ n2_ n3_ n4_ n5_ n6_ n7_ n8_ n9_ n10_ n11_;clear hb hbox hg)|((with_reducible refine gate_dst (N:=5) rfl ?_);refine box_event ?hg (N:=5) ?hd (cs:=#[.slice none 0 0,.slice none 0 0,.bool false,.bool false]) (t:=92) ?hr ?_;(case hd=>rfl);(case hg=>rfl);(case hr=>first|(go_simp;done)|(go_simp;rfl));intro gb300 hg w7 hbox hb;have n0_:=aK (Kd.V_below (Kd.V_elderB (by (with_reducible repeat first|apply Kd.V_alloc|apply Kd.V_drewN|apply Kd.V_drew);exact HO0_0.out) gb300 (Nat.le_of_eq hg.symm)) hb);have n1_:=aK (Kd.V_below (Kd.V_elderB (by (with_reducible repeat first|apply Kd.V_alloc|apply Kd.V_drewN|apply Kd.V_drew);exact HO1_2.out) gb300 (Nat.le_of_eq hg.symm)) hb);have n2_:=aK (bB (by (with_reducible repeat first|apply bN|apply bD|apply bA);exact BK297.out) hb);have n3_:=aK (bB (by (with_reducible repeat first|apply bN|apply bD|apply bA);exact BK298.out) hb);have n4_:=aK (bB (by (with_reducible repeat first|apply bN|apply bD|apply bA);exact BK299.out) hb);have n5_:=aK (below_step (by repeat (first|(with_reducible first|exact HB.out|apply bL|apply bM|apply b1|refine bS ?_ GE297.out|refine bS ?_ GE298.out|refine bS ?_ GE299.out)|exact HB.out)) hb);have n6_:=aK (hbox);have n7_:=aK ((by rw [hg];exact (below_size (by repeat (first|(with_reducible first|exact HB.out|apply bL|apply bM|apply b1|refine bS ?_ GE297.out|refine bS ?_ GE298.out|refine bS ?_ GE299.out)|exact HB.out))) : w.heap.size ≤ gb300));have n8_:=aK ((by rw [hg];exact (below_size (by repeat (first|(with_reducible first|exact HB.out|apply bL|apply bM|apply b1|refine bS ?_ GE297.out|refine bS ?_ GE298.out|refine bS ?_ GE299.out)|exact HB.out))) : w.heap.size ≤ gb300));have n9_:=aK ((by rw [hg];exact Nat.ne_of_lt (blk_lt (by (with_reducible repeat first|apply bN|apply bD|apply bA);exact BK297.out)) : gb297 ≠ gb300));have n10_:=aK ((by rw [hg];exact Nat.ne_of_gt (blk_lt (by (with_reducible repeat first|apply bN|apply bD|apply bA);exact BK297.out)) : gb300 ≠ gb297));have n11_:=aK ((by rw [hg];exact Nat.ne_of_lt (blk_lt (by (with_reducible repeat first|apply bN|apply bD|apply bA);exact BK298.out)) : gb298 ≠ gb300));have n12_:=aK ((by rw [hg];exact Nat.ne_of_gt (blk_lt (by (with_reducible repeat first|apply bN|apply bD|apply bA);exact BK298.out)) : gb300 ≠ gb298));have n13_:=aK ((by rw [hg];exact Nat.ne_of_lt (blk_lt (by (with_reducible repeat first|apply bN|apply bD|apply bA);exact BK299.out)) : gb299 ≠ gb300));have n14_:=aK ((by rw [hg];exact Nat.ne_of_gt (blk_lt (by (with_reducible repeat first|apply bN|apply bD|apply bA);exact BK299.out)) : gb300 ≠ gb299));clear HO0_0;clear HO1_2;clear BK297;clear BK298;clear BK299;clear HB;have HO0_0:=n0_;have HO1_2:=n1_;have BK297:=n2_;have BK298:=n3_;have BK299:=n4_;have HB:=n5_;have BK300:=n6_;have GW300:=n7_;have GE300:=n8_;have NB297_300:=n9_;have NB300_297:=n10_;have NB298_300:=n11_;have NB300_298:=n12_;have NB299_300:=n13_;have NB300_299:=n14_;clear n0_ n1_ n2_ n3_ n4_ n5_ n6_ n7_ n8_ n9_ n10_ n11_ n12_ n13_ n14_;clear hb hbox hg;have hnb8:=NB300_297.out;have hnc8:=NB297_300.out;have hnb9:=NB300_298.out;have hnc9:=NB298_300.out;have hnb10:=NB300_299.out;have hnc10:=NB299_300.out;have hcz11_0 : w7.cell? ⟨gb300,0,none⟩ = some (.slice none 0 0):=(bC BK300.out 0).trans rfl;have hcz11_1 : w7.cell? ⟨gb300,1,none⟩ = some (.slice none 0 0):=(bC BK300.out 1).trans rfl;have hcz11_2 : w7.cell? ⟨gb300,2,none⟩ = some (.bool false):=(bC BK300.out 2).trans rfl;have hcz11_3 : w7.cell? ⟨gb300,3,none⟩ = some (.bool false):=(bC BK300.out 3).trans rfl;have hfz11_0:=blk_frozen BK300.out 0;have hfz11_1:=blk_frozen BK300.out 1;have hfz11_2:=blk_frozen BK300.out 2;have hfz11_3:=blk_frozen BK300.out 3))
 (try simp only [Act.put,lA,l0',lS])
 go_cut [18] (fun v18 wc=>∃ (kq : Nat) (x18_2 : Bool),v18 = .bool x18_2 ∧ Aside0 (impl_recordOf.j0 kq x18_2 l0_0 a1_0 a1_1 l1_2 false false = some (r1,r2,r3,r4)) ∧ Aside0 (kq ≤ k) ∧ Aside0 (Kd.V (Kd.slice 2 (Kd.int .i64)) 22 wc w.heap.size (fun k_=>((P0_0_ k_ ∨ P1_2_ k_) ∨ w.heap.size ≤ k_) ∧ k_ ≠ gb297 ∧ k_ ≠ gb298 ∧ k_ ≠ gb299 ∧ k_ ≠ gb300) (.slice A0_0 l0_0.length c0_0) l0_0) ∧ Aside0 (Kd.V (Kd.int .i64) 2 wc w.heap.size (fun k_=>((P0_0_ k_ ∨ P1_2_ k_) ∨ w.heap.size ≤ k_) ∧ k_ ≠ gb297 ∧ k_ ≠ gb298 ∧ k_ ≠ gb299 ∧ k_ ≠ gb300) (.slice A1_2 l1_2.length c1_2) l1_2) ∧ Aside0 (wc.heap[gb297]? = some (.cells #[(.slice A0_0 l0_0.length c0_0)] 44 (0,0))) ∧ Aside0 (wc.heap[gb298]? = some (.cells #[.int .i64 a1_0,.int .i64 a1_1,(.slice A1_2 l1_2.length c1_2)] 27 (0,0))) ∧ Aside0 (wc.heap[gb299]? = some (.cells #[(.slice none 0 0),(.slice none 0 0),.bool false,.bool false] 92 (0,0))) ∧ Aside0 (wc.heap[gb300]? = some (.cells #[(.slice none 0 0),(.slice none 0 0),.bool false,.bool false] 92 (0,0))) ∧ Aside0 (Below w.heap.size w wc))
 case first =>
  have H:=HC3.out
  clear HC3
  replace H:=Option.bind_eq_some_iff.mp H
  obtain ⟨t301,A120,H⟩:=H
  replace H : (if t301 = true then ((impl_IsPlainPlay.f a1_0 a1_1 l1_2).bind fun t302=>(impl_recordOf.j0 k (!t302) l0_0 a1_0 a1_1 l1_2 false false)) else (impl_recordOf.j0 k true l0_0 a1_0 a1_1 l1_2 false false)) = some (r1,r2,r3,r4):=H
  have A12:=aK A120
  clear A120
  by_cases c13 : t301 = true
  ·subst c13
   have H1 : ((impl_IsPlainPlay.f a1_0 a1_1 l1_2).bind fun t302=>(impl_recordOf.j0 k (!t302) l0_0 a1_0 a1_1 l1_2 false false)) = some (r1,r2,r3,r4):=by rw [if_pos rfl] at H;exact H
   clear H
   have H:=H1
   clear H1
   replace H:=Option.bind_eq_some_iff.mp H
   obtain ⟨t302,A140,H⟩:=H
   replace H : (impl_recordOf.j0 k (!t302) l0_0 a1_0 a1_1 l1_2 false false) = some (r1,r2,r3,r4):=H
   have A14:=aK A140
   clear A140
   have H':=aK H
   clear H
   have hnb15:=NB297_298.out
   have hnc15:=NB298_297.out
   have hnb16:=NB297_299.out
   have hnc16:=NB299_297.out
   have hnb17:=NB297_300.out
   have hnc17:=NB300_297.out
   have hcz18_0 : w7.cell? ⟨gb297,0,none⟩ = some (.slice A0_0 l0_0.length c0_0):=(bC BK297.out 0).trans rfl
   have hfz18_0:=blk_frozen BK297.out 0
   go_wp2_with (first|((with_reducible refine gate_callee (f:=143) rfl ?_);refine goesL_ (some 12) rfl rfl Try.func143 (by kernel_rfl) rfl #[.agg #[.slice A0_0 l0_0.length c0_0]] rfl (by (try simp only [mA,mC,mN]);first|done|rfl) ?_;(with_reducible refine (impl_IsDeal.calls _ _ l0_0 true _ ?side1 ?side2 A12.out).mono ?_);(case side1=>refine (Kd.V_reads' (e:=22) (base:=w.heap.size) (ok:=fun k_=>((((((P0_0_ k_ ∨ P1_2_ k_) ∨ w.heap.size ≤ k_) ∧ k_ ≠ gb297) ∧ k_ ≠ gb298) ∧ k_ ≠ gb299) ∧ k_ ≠ gb300)) (n:=l0_0.length) (c:=c0_0) ?_).2.2;exact (by (with_reducible repeat first|apply Kd.V_alloc|apply Kd.V_drewN|apply Kd.V_drew);exact (Kd.V_mono (Kd.V_far (p:=⟨gb300,3,none⟩) (Kd.V_far (p:=⟨gb300,2,none⟩) (Kd.V_far (p:=⟨gb300,1,none⟩) (Kd.V_far (p:=⟨gb300,0,none⟩) (Kd.V_mono HO0_0.out (fun k_ hk=>(⟨hk,hk.2⟩ : _ ∧ k_ ≠ gb300))) (fun _ hk=>hk.2) (.slice none 0 0)) (fun _ hk=>hk.2) (.slice none 0 0)) (fun _ hk=>hk.2) (.bool false)) (fun _ hk=>hk.2) (.bool false)) (fun _ h_=>h_.1))));(case side2=>exact (Kd.V_reads' HO0_0.out).2.1);rintro e w19 ⟨rfl,hb⟩;refine ⟨_,rfl,?_⟩;have n0_:=aK (Kd.V_below (by (with_reducible repeat first|apply Kd.V_alloc|apply Kd.V_drewN|apply Kd.V_drew);exact (Kd.V_mono (Kd.V_far (p:=⟨gb300,3,none⟩) (Kd.V_far (p:=⟨gb300,2,none⟩) (Kd.V_far (p:=⟨gb300,1,none⟩) (Kd.V_far (p:=⟨gb300,0,none⟩) (Kd.V_mono HO0_0.out (fun k_ hk=>(⟨hk,hk.2⟩ : _ ∧ k_ ≠ gb300))) (fun _ hk=>hk.2) (.slice none 0 0)) (fun _ hk=>hk.2) (.slice none 0 0)) (fun _ hk=>hk.2) (.bool false)) (fun _ hk=>hk.2) (.bool false)) (fun _ h_=>h_.1))) hb);have n1_:=aK (Kd.V_below (by (with_reducible repeat first|apply Kd.V_alloc|apply Kd.V_drewN|apply Kd.V_drew);exact (Kd.V_mono (Kd.V_far (p:=⟨gb300,3,none⟩) (Kd.V_far (p:=⟨gb300,2,none⟩) (Kd.V_far (p:=⟨gb300,1,none⟩) (Kd.V_far (p:=⟨gb300,0,none⟩) (Kd.V_mono HO1_2.out (fun k_ hk=>(⟨hk,hk.2⟩ : _ ∧ k_ ≠ gb300))) (fun _ hk=>hk.2) (.slice none 0 0)) (fun _ hk=>hk.2) (.slice none 0 0)) (fun _ hk=>hk.2) (.bool false)) (fun _ hk=>hk.2) (.bool false)) (fun _ h_=>h_.1))) hb);have n2_:=aK (bB (g:=gb297) (o:=.cells #[.slice A0_0 l0_0.length c0_0] 44 (0,0)) (by (with_reducible repeat first|apply bN|apply bD|apply bA);refine blk_far ?_ NB297_300.out _;(with_reducible repeat first|apply bN|apply bD|apply bA);refine blk_far ?_ NB297_300.out _;(with_reducible repeat first|apply bN|apply bD|apply bA);refine blk_far ?_ NB297_300.out _;(with_reducible repeat first|apply bN|apply bD|apply bA);refine blk_far ?_ NB297_300.out _;(with_reducible repeat first|apply bN|apply bD|apply bA);exact BK297.out) hb);have n3_:=aK (bB (g:=gb298) (o:=.cells #[.int .i64 a1_0,.int .i64 a1_1,.slice A1_2 l1_2.length c1_2] 27 (0,0)) (by (with_reducible repeat first|apply bN|apply bD|apply bA);refine blk_far ?_ NB298_300.out _;(with_reducible repeat first|apply bN|apply bD|apply bA);refine blk_far ?_ NB298_300.out _;(with_reducible repeat first|apply bN|apply bD|apply bA);refine blk_far ?_ NB298_300.out _;(with_reducible repeat first|apply bN|apply bD|apply bA);refine blk_far ?_ NB298_300.out _;(with_reducible repeat first|apply bN|apply bD|apply bA);exact BK298.out) hb);have n4_:=aK (bB (g:=gb299) (o:=.cells #[.slice none 0 0,.slice none 0 0,.bool false,.bool false] 92 (0,0)) (by (with_reducible repeat first|apply bN|apply bD|apply bA);refine blk_far ?_ NB299_300.out _;(with_reducible repeat first|apply bN|apply bD|apply bA);refine blk_far ?_ NB299_300.out _;(with_reducible repeat first|apply bN|apply bD|apply bA);refine blk_far ?_ NB299_300.out _;(with_reducible repeat first|apply bN|apply bD|apply bA);refine blk_far ?_ NB299_300.out _;(with_reducible repeat first|apply bN|apply bD|apply bA);exact BK299.out) hb);have n5_:=aK (bB (g:=gb300) (o:=.cells #[.slice none 0 0,.slice none 0 0,.bool false,.bool false] 92 (0,0)) (by (with_reducible repeat first|apply bN|apply bD|apply bA);refine blk_put (cs:=#[.slice none 0 0,.slice none 0 0,.bool false,.bool false]) ?_ 3 _ rfl;(with_reducible repeat first|apply bN|apply bD|apply bA);refine blk_put (cs:=#[.slice none 0 0,.slice none 0 0,.bool false,.bool false]) ?_ 2 _ rfl;(with_reducible repeat first|apply bN|apply bD|apply bA);refine blk_put (cs:=#[.slice none 0 0,.slice none 0 0,.bool false,.bool false]) ?_ 1 _ rfl;(with_reducible repeat first|apply bN|apply bD|apply bA);refine blk_put (cs:=#[.slice none 0 0,.slice none 0 0,.bool false,.bool false]) ?_ 0 _ rfl;(with_reducible repeat first|apply bN|apply bD|apply bA);exact BK300.out) hb);have n6_:=aK (below_step (by repeat (first|(with_reducible first|exact HB.out|apply bL|apply bM|apply b1|refine bS ?_ GE297.out|refine bS ?_ GE298.out|refine bS ?_ GE299.out|refine bS ?_ GE300.out)|exact HB.out)) hb);clear HO0_0;clear HO1_2;clear BK297;clear BK298;clear BK299;clear BK300;clear HB;have HO0_0:=n0_;have HO1_2:=n1_;have BK297:=n2_;have BK298:=n3_;have BK299:=n4_;have BK300:=n5_;have HB:=n6_;clear n0_ n1_ n2_ n3_ n4_ n5_ n6_;(try clear hb);(try clear hb2);(try clear hk);(try clear hi);have hnb20:=NB298_299.out;have hnc20:=NB299_298.out;have hnb21:=NB298_300.out;have hnc21:=NB300_298.out;have hcz22_0 : w19.cell? ⟨gb298,0,none⟩ = some (.int .i64 a1_0):=(bC BK298.out 0).trans rfl;have hcz22_1 : w19.cell? ⟨gb298,1,none⟩ = some (.int .i64 a1_1):=(bC BK298.out 1).trans rfl;have hcz22_2 : w19.cell? ⟨gb298,2,none⟩ = some (.slice A1_2 l1_2.length c1_2):=(bC BK298.out 2).trans rfl;have hfz22_0:=blk_frozen BK298.out 0;have hfz22_1:=blk_frozen BK298.out 1;have hfz22_2:=blk_frozen BK298.out 2)|(go_at_call 25;(with_reducible refine (impl_IsPlainPlay.calls a1_0 a1_1 _ _ l1_2 t302 _ ?side1 ?side2 A14.out).mono ?_);(case side1=>repeat (first|exact (Kd.V_reads' HO1_2.out).2.2|(with_reducible refine Kd.C_alloc ?_ _)|(with_reducible refine Kd.C_drewN ?_ _)|(with_reducible refine Kd.C_drew ?_)));(case side2=>exact (Kd.V_reads' HO1_2.out).2.1);rintro e w23 ⟨rfl,hb⟩;have n0_:=aK (Kd.V_below (by (with_reducible repeat first|apply Kd.V_alloc|apply Kd.V_drewN|apply Kd.V_drew);exact HO0_0.out) hb);have n1_:=aK (Kd.V_below (by (with_reducible repeat first|apply Kd.V_alloc|apply Kd.V_drewN|apply Kd.V_drew);exact HO1_2.out) hb);have n2_:=aK (bB (by (with_reducible repeat first|apply bN|apply bD|apply bA);exact BK297.out) hb);have n3_:=aK (bB (by (with_reducible repeat first|apply bN|apply bD|apply bA);exact BK298.out) hb);have n4_:=aK (bB (by (with_reducible repeat first|apply bN|apply bD|apply bA);exact BK299.out) hb);have n5_:=aK (bB (by (with_reducible repeat first|apply bN|apply bD|apply bA);exact BK300.out) hb);have n6_:=aK (below_step (by repeat (first|(with_reducible first|exact HB.out|apply bL|apply bM|apply b1|refine bS ?_ GE297.out|refine bS ?_ GE298.out|refine bS ?_ GE299.out|refine bS ?_ GE300.out)|exact HB.out)) hb);clear HO0_0;clear HO1_2;clear BK297;clear BK298;clear BK299;clear BK300;clear HB;have HO0_0:=n0_;have HO1_2:=n1_;have BK297:=n2_;have BK298:=n3_;have BK299:=n4_;have BK300:=n5_;have HB:=n6_;clear n0_ n1_ n2_ n3_ n4_ n5_ n6_;(try clear hb);(try clear hb2);(try clear hk);(try clear hi)))
   go_meet
   case rel=>exact ⟨_,(!t302),(by first|rfl|(simp;done)|(simp [*];done)),H',⟨by first|omega|exact Nat.le_refl _⟩,⟨by (with_reducible repeat first|apply Kd.V_alloc|apply Kd.V_drewN|apply Kd.V_drew);exact Kd.V_mono HO0_0.out (fun _ hk=>⟨hk.1.1.1.1,⟨hk.1.1.1.2,⟨hk.1.1.2,⟨hk.1.2,hk.2⟩⟩⟩⟩)⟩,⟨by (with_reducible repeat first|apply Kd.V_alloc|apply Kd.V_drewN|apply Kd.V_drew);exact Kd.V_mono HO1_2.out (fun _ hk=>⟨hk.1.1.1.1,⟨hk.1.1.1.2,⟨hk.1.1.2,⟨hk.1.2,hk.2⟩⟩⟩⟩)⟩,⟨by (with_reducible repeat first|apply bN|apply bD|apply bA);exact BK297.out⟩,⟨by (with_reducible repeat first|apply bN|apply bD|apply bA);exact BK298.out⟩,⟨by (with_reducible repeat first|apply bN|apply bD|apply bA);exact BK299.out⟩,⟨by (with_reducible repeat first|apply bN|apply bD|apply bA);exact BK300.out⟩,⟨by repeat (first|(with_reducible first|exact HB.out|apply bL|apply bM|apply b1|refine bS ?_ GE297.out|refine bS ?_ GE298.out|refine bS ?_ GE299.out|refine bS ?_ GE300.out)|exact HB.out)⟩⟩
  ·replace c13:=Bool.eq_false_iff.mpr c13
   subst c13
   have H1 : (impl_recordOf.j0 k true l0_0 a1_0 a1_1 l1_2 false false) = some (r1,r2,r3,r4):=by rw [if_neg (show ¬ (false = true) by decide)] at H;exact H
   clear H
   have H:=H1
   clear H1
   have H':=aK H
   clear H
   have hnb24:=NB297_298.out
   have hnc24:=NB298_297.out
   have hnb25:=NB297_299.out
   have hnc25:=NB299_297.out
   have hnb26:=NB297_300.out
   have hnc26:=NB300_297.out
   have hcz27_0 : w7.cell? ⟨gb297,0,none⟩ = some (.slice A0_0 l0_0.length c0_0):=(bC BK297.out 0).trans rfl
   have hfz27_0:=blk_frozen BK297.out 0
   go_wp2_with (first|((with_reducible refine gate_callee (f:=143) rfl ?_);refine goesL_ (some 12) rfl rfl Try.func143 (by kernel_rfl) rfl #[.agg #[.slice A0_0 l0_0.length c0_0]] rfl (by (try simp only [mA,mC,mN]);first|done|rfl) ?_;(with_reducible refine (impl_IsDeal.calls _ _ l0_0 false _ ?side1 ?side2 A12.out).mono ?_);(case side1=>refine (Kd.V_reads' (e:=22) (base:=w.heap.size) (ok:=fun k_=>((((((P0_0_ k_ ∨ P1_2_ k_) ∨ w.heap.size ≤ k_) ∧ k_ ≠ gb297) ∧ k_ ≠ gb298) ∧ k_ ≠ gb299) ∧ k_ ≠ gb300)) (n:=l0_0.length) (c:=c0_0) ?_).2.2;exact (by (with_reducible repeat first|apply Kd.V_alloc|apply Kd.V_drewN|apply Kd.V_drew);exact (Kd.V_mono (Kd.V_far (p:=⟨gb300,3,none⟩) (Kd.V_far (p:=⟨gb300,2,none⟩) (Kd.V_far (p:=⟨gb300,1,none⟩) (Kd.V_far (p:=⟨gb300,0,none⟩) (Kd.V_mono HO0_0.out (fun k_ hk=>(⟨hk,hk.2⟩ : _ ∧ k_ ≠ gb300))) (fun _ hk=>hk.2) (.slice none 0 0)) (fun _ hk=>hk.2) (.slice none 0 0)) (fun _ hk=>hk.2) (.bool false)) (fun _ hk=>hk.2) (.bool false)) (fun _ h_=>h_.1))));(case side2=>exact (Kd.V_reads' HO0_0.out).2.1);rintro e w28 ⟨rfl,hb⟩;refine ⟨_,rfl,?_⟩;have n0_:=aK (Kd.V_below (by (with_reducible repeat first|apply Kd.V_alloc|apply Kd.V_drewN|apply Kd.V_drew);exact (Kd.V_mono (Kd.V_far (p:=⟨gb300,3,none⟩) (Kd.V_far (p:=⟨gb300,2,none⟩) (Kd.V_far (p:=⟨gb300,1,none⟩) (Kd.V_far (p:=⟨gb300,0,none⟩) (Kd.V_mono HO0_0.out (fun k_ hk=>(⟨hk,hk.2⟩ : _ ∧ k_ ≠ gb300))) (fun _ hk=>hk.2) (.slice none 0 0)) (fun _ hk=>hk.2) (.slice none 0 0)) (fun _ hk=>hk.2) (.bool false)) (fun _ hk=>hk.2) (.bool false)) (fun _ h_=>h_.1))) hb);have n1_:=aK (Kd.V_below (by (with_reducible repeat first|apply Kd.V_alloc|apply Kd.V_drewN|apply Kd.V_drew);exact (Kd.V_mono (Kd.V_far (p:=⟨gb300,3,none⟩) (Kd.V_far (p:=⟨gb300,2,none⟩) (Kd.V_far (p:=⟨gb300,1,none⟩) (Kd.V_far (p:=⟨gb300,0,none⟩) (Kd.V_mono HO1_2.out (fun k_ hk=>(⟨hk,hk.2⟩ : _ ∧ k_ ≠ gb300))) (fun _ hk=>hk.2) (.slice none 0 0)) (fun _ hk=>hk.2) (.slice none 0 0)) (fun _ hk=>hk.2) (.bool false)) (fun _ hk=>hk.2) (.bool false)) (fun _ h_=>h_.1))) hb);have n2_:=aK (bB (g:=gb297) (o:=.cells #[.slice A0_0 l0_0.length c0_0] 44 (0,0)) (by (with_reducible repeat first|apply bN|apply bD|apply bA);refine blk_far ?_ NB297_300.out _;(with_reducible repeat first|apply bN|apply bD|apply bA);refine blk_far ?_ NB297_300.out _;(with_reducible repeat first|apply bN|apply bD|apply bA);refine blk_far ?_ NB297_300.out _;(with_reducible repeat first|apply bN|apply bD|apply bA);refine blk_far ?_ NB297_300.out _;(with_reducible repeat first|apply bN|apply bD|apply bA);exact BK297.out) hb);have n3_:=aK (bB (g:=gb298) (o:=.cells #[.int .i64 a1_0,.int .i64 a1_1,.slice A1_2 l1_2.length c1_2] 27 (0,0)) (by (with_reducible repeat first|apply bN|apply bD|apply bA);refine blk_far ?_ NB298_300.out _;(with_reducible repeat first|apply bN|apply bD|apply bA);refine blk_far ?_ NB298_300.out _;(with_reducible repeat first|apply bN|apply bD|apply bA);refine blk_far ?_ NB298_300.out _;(with_reducible repeat first|apply bN|apply bD|apply bA);refine blk_far ?_ NB298_300.out _;(with_reducible repeat first|apply bN|apply bD|apply bA);exact BK298.out) hb);have n4_:=aK (bB (g:=gb299) (o:=.cells #[.slice none 0 0,.slice none 0 0,.bool false,.bool false] 92 (0,0)) (by (with_reducible repeat first|apply bN|apply bD|apply bA);refine blk_far ?_ NB299_300.out _;(with_reducible repeat first|apply bN|apply bD|apply bA);refine blk_far ?_ NB299_300.out _;(with_reducible repeat first|apply bN|apply bD|apply bA);refine blk_far ?_ NB299_300.out _;(with_reducible repeat first|apply bN|apply bD|apply bA);refine blk_far ?_ NB299_300.out _;(with_reducible repeat first|apply bN|apply bD|apply bA);exact BK299.out) hb);have n5_:=aK (bB (g:=gb300) (o:=.cells #[.slice none 0 0,.slice none 0 0,.bool false,.bool false] 92 (0,0)) (by (with_reducible repeat first|apply bN|apply bD|apply bA);refine blk_put (cs:=#[.slice none 0 0,.slice none 0 0,.bool false,.bool false]) ?_ 3 _ rfl;(with_reducible repeat first|apply bN|apply bD|apply bA);refine blk_put (cs:=#[.slice none 0 0,.slice none 0 0,.bool false,.bool false]) ?_ 2 _ rfl;(with_reducible repeat first|apply bN|apply bD|apply bA);refine blk_put (cs:=#[.slice none 0 0,.slice none 0 0,.bool false,.bool false]) ?_ 1 _ rfl;(with_reducible repeat first|apply bN|apply bD|apply bA);refine blk_put (cs:=#[.slice none 0 0,.slice none 0 0,.bool false,.bool false]) ?_ 0 _ rfl;(with_reducible repeat first|apply bN|apply bD|apply bA);exact BK300.out) hb);have n6_:=aK (below_step (by repeat (first|(with_reducible first|exact HB.out|apply bL|apply bM|apply b1|refine bS ?_ GE297.out|refine bS ?_ GE298.out|refine bS ?_ GE299.out|refine bS ?_ GE300.out)|exact HB.out)) hb);clear HO0_0;clear HO1_2;clear BK297;clear BK298;clear BK299;clear BK300;clear HB;have HO0_0:=n0_;have HO1_2:=n1_;have BK297:=n2_;have BK298:=n3_;have BK299:=n4_;have BK300:=n5_;have HB:=n6_;clear n0_ n1_ n2_ n3_ n4_ n5_ n6_;(try clear hb);(try clear hb2);(try clear hk);(try clear hi)))
   go_meet
   case rel=>exact ⟨_,(true),(by first|rfl|(simp;done)|(simp [*];done)),H',⟨by first|omega|exact Nat.le_refl _⟩,⟨by (with_reducible repeat first|apply Kd.V_alloc|apply Kd.V_drewN|apply Kd.V_drew);exact Kd.V_mono HO0_0.out (fun _ hk=>⟨hk.1.1.1.1,⟨hk.1.1.1.2,⟨hk.1.1.2,⟨hk.1.2,hk.2⟩⟩⟩⟩)⟩,⟨by (with_reducible repeat first|apply Kd.V_alloc|apply Kd.V_drewN|apply Kd.V_drew);exact Kd.V_mono HO1_2.out (fun _ hk=>⟨hk.1.1.1.1,⟨hk.1.1.1.2,⟨hk.1.1.2,⟨hk.1.2,hk.2⟩⟩⟩⟩)⟩,⟨by (with_reducible repeat first|apply bN|apply bD|apply bA);exact BK297.out⟩,⟨by (with_reducible repeat first|apply bN|apply bD|apply bA);exact BK298.out⟩,⟨by (with_reducible repeat first|apply bN|apply bD|apply bA);exact BK299.out⟩,⟨by (with_reducible repeat first|apply bN|apply bD|apply bA);exact BK300.out⟩,⟨by repeat (first|(with_reducible first|exact HB.out|apply bL|apply bM|apply b1|refine bS ?_ GE297.out|refine bS ?_ GE298.out|refine bS ?_ GE299.out|refine bS ?_ GE300.out)|exact HB.out)⟩⟩
 case rest =>
  clear HC3
  try clear c1
  try clear c2
  try clear p2
  try clear c8
  try clear c9
  try clear c10
  try clear c13
  try clear c14
  try clear c15
  try clear c16
  try clear c17
  try clear c20
  try clear c21
  try clear c24
  try clear c25
  try clear c26
  try clear hcz11_0
  try clear hcz11_1
  try clear hcz11_2
  try clear hcz11_3
  try clear hcz18_0
  try clear hcz22_0
  try clear hcz22_1
  try clear hcz22_2
  try clear hcz27_0
  try clear hfz11_0
  try clear hfz11_1
  try clear hfz11_2
  try clear hfz11_3
  try clear hfz18_0
  try clear hfz22_0
  try clear hfz22_1
  try clear hfz22_2
  try clear hfz27_0
  obtain ⟨kq,x18_2,rfl,HA,HJ2,HO_298000,HO_299002,BK297,BK298,BK299,BK300,HB⟩:=hcut
  cases kq with
  | zero=>exact absurd HA.out (by simp [impl_recordOf.j0])
  | succ kj2 =>
   have H:=HA.out
   clear HA
   simp only [impl_recordOf.j0] at H
   by_cases c29 : x18_2 = true
   ·subst c29
    have H1 : (some (([] : List (List Int)),([] : List Int),false,false)) = some (r1,r2,r3,r4):=by rw [if_pos rfl] at H;exact H
    clear H
    have H:=H1
    clear H1
    simp only [Option.some.injEq,Prod.mk.injEq] at H
    obtain ⟨rfl,rfl,rfl,rfl⟩:=H
    have hnb30:=NB300_297.out
    have hnc30:=NB297_300.out
    have hnb31:=NB300_298.out
    have hnc31:=NB298_300.out
    have hnb32:=NB300_299.out
    have hnc32:=NB299_300.out
    have hcz33_0 : wc.cell? ⟨gb300,0,none⟩ = some (.slice none 0 0):=(bC BK300.out 0).trans rfl
    have hcz33_1 : wc.cell? ⟨gb300,1,none⟩ = some (.slice none 0 0):=(bC BK300.out 1).trans rfl
    have hcz33_2 : wc.cell? ⟨gb300,2,none⟩ = some (.bool false):=(bC BK300.out 2).trans rfl
    have hcz33_3 : wc.cell? ⟨gb300,3,none⟩ = some (.bool false):=(bC BK300.out 3).trans rfl
    have hfz33_0:=blk_frozen BK300.out 0
    have hfz33_1:=blk_frozen BK300.out 1
    have hfz33_2:=blk_frozen BK300.out 2
    have hfz33_3:=blk_frozen BK300.out 3
    have hnb34:=NB299_297.out
    have hnc34:=NB297_299.out
    have hnb35:=NB299_298.out
    have hnc35:=NB298_299.out
    have hcz36_0 : wc.cell? ⟨gb299,0,none⟩ = some (.slice none 0 0):=(bC BK299.out 0).trans rfl
    have hcz36_1 : wc.cell? ⟨gb299,1,none⟩ = some (.slice none 0 0):=(bC BK299.out 1).trans rfl
    have hcz36_2 : wc.cell? ⟨gb299,2,none⟩ = some (.bool false):=(bC BK299.out 2).trans rfl
    have hcz36_3 : wc.cell? ⟨gb299,3,none⟩ = some (.bool false):=(bC BK299.out 3).trans rfl
    have hfz36_0:=blk_frozen BK299.out 0
    have hfz36_1:=blk_frozen BK299.out 1
    have hfz36_2:=blk_frozen BK299.out 2
    have hfz36_3:=blk_frozen BK299.out 3
    go_wp2
    refine bodyPost_ret (results_cell_row rfl _ _ gb299 92 #[.slice none 0 0,.slice none 0 0,.bool false,.bool false] (0,0) _ rfl (by (with_reducible repeat first|apply bN|apply bD|apply bA);refine blk_put (cs:=#[.slice none 0 0,.slice none 0 0,.bool false,.bool false]) ?_ 3 _ rfl;(with_reducible repeat first|apply bN|apply bD|apply bA);refine blk_put (cs:=#[.slice none 0 0,.slice none 0 0,.bool false,.bool false]) ?_ 2 _ rfl;(with_reducible repeat first|apply bN|apply bD|apply bA);refine blk_put (cs:=#[.slice none 0 0,.slice none 0 0,.bool false,.bool false]) ?_ 1 _ rfl;(with_reducible repeat first|apply bN|apply bD|apply bA);refine blk_put (cs:=#[.slice none 0 0,.slice none 0 0,.bool false,.bool false]) ?_ 0 _ rfl;(with_reducible repeat first|apply bN|apply bD|apply bA);exact BK299.out) Try.underlying92 rfl (by kernel_rfl)) rfl ?_
    exact ⟨_,_,by first|rfl|(simp [errW_none,errW_some] <;> rfl)|(simp [*,errW_none,errW_some] <;> rfl),by first|exact Kd.S_nil _ _ _ _ _|exact Kd.N_nil _ _ _ _ _|exact Kd.V_nil _ _ _ _ _|exact Kd.Q_nil _ _ _ _ _|exact Kd.R_nil _ _ _ _ _,by first|exact Kd.R_nil _ _ _ _ _|exact Kd.N_nil _ _ _ _ _|exact Kd.V_nil _ _ _ _ _|exact Kd.Q_nil _ _ _ _ _|exact Kd.S_nil _ _ _ _ _,by repeat (first|(with_reducible first|exact HB.out|apply bL|apply bM|apply b1|refine bS ?_ GE297.out|refine bS ?_ GE298.out|refine bS ?_ GE299.out|refine bS ?_ GE300.out)|exact HB.out)⟩
   ·replace c29:=Bool.eq_false_iff.mpr c29
    subst c29
    have H1 : ((impl_leaders.f kj2 a1_0 a1_1 l1_2).bind fun t303=>((slices_Clone_int64_int64_144.f l0_0).bind fun t306=>(impl_recordOf.l0 kj2 l1_2 (l1_2.length : Int) 0 a1_0 a1_1 l1_2 t306 t303 true true))) = some (r1,r2,r3,r4):=by rw [if_neg (show ¬ (false = true) by decide)] at H;exact H
    clear H
    have H:=H1
    clear H1
    replace H:=Option.bind_eq_some_iff.mp H
    obtain ⟨t303,A370,H⟩:=H
    replace H : ((slices_Clone_int64_int64_144.f l0_0).bind fun t306=>(impl_recordOf.l0 kj2 l1_2 (l1_2.length : Int) 0 a1_0 a1_1 l1_2 t306 t303 true true)) = some (r1,r2,r3,r4):=H
    have A37:=aK A370
    clear A370
    replace H:=Option.bind_eq_some_iff.mp H
    obtain ⟨t306,A380,H⟩:=H
    replace H : (impl_recordOf.l0 kj2 l1_2 (l1_2.length : Int) 0 a1_0 a1_1 l1_2 t306 t303 true true) = some (r1,r2,r3,r4):=H
    have A38:=aK A380
    clear A380
    have H':=aK H
    clear H
    try go_wp2
    have n0_:=aK (Kd.V_drew HO_298000.out)
    have n1_:=aK (Kd.V_drew HO_299002.out)
    have n2_:=aK (bD BK297.out)
    have n3_:=aK (bD BK298.out)
    have n4_:=aK (bD BK299.out)
    have n5_:=aK (bD BK300.out)
    have n6_:=aK (b1 HB.out)
    clear HO_298000
    clear HO_299002
    clear BK297
    clear BK298
    clear BK299
    clear BK300
    clear HB
    have HO_298000:=n0_
    have HO_299002:=n1_
    have BK297:=n2_
    have BK298:=n3_
    have BK299:=n4_
    have BK300:=n5_
    have HB:=n6_
    clear n0_ n1_ n2_ n3_ n4_ n5_ n6_
    refine start_ (n:=13) (S:=fun w'=>w'.cell? ⟨gb298,0,none⟩ = some (.int .i64 a1_0) ∧ w'.cell? ⟨gb298,1,none⟩ = some (.int .i64 a1_1) ∧ w'.cell? ⟨gb298,2,none⟩ = some (.slice A1_2 l1_2.length c1_2) ∧ w'.cell? ⟨gb297,0,none⟩ = some (.slice A0_0 l0_0.length c0_0)) (ds:=[]) #[false,false,false,false,false,false,false,false,false,false,false,false,false] (by kernel_rfl) rfl rfl ⟨(bC BK298.out 0).trans rfl,(bC BK298.out 1).trans rfl,(bC BK298.out 2).trans rfl,(bC BK297.out 0).trans rfl⟩ (fun hHeld=>?_);refine with_tabW impl_recordOf.tab4 impl_recordOf.bits4 (fun HT_ HW_=>?_)
    generalize wc.drew = w39 at HO_298000 HO_299002 BK297 BK298 BK299 BK300 HB hHeld ⊢
    refine pure_ (i:=2) (N:=some 22) (v:=?_) (a':=?_) #[false,false,true,false,false,false,false,false,false,false,false,false,false] rfl rfl (any_of HT_.out (by kernel_rfl)) (fun _ _ _ h=>h) (Or.inl ⟨by rfl,?_⟩) ?_ ?_
    rotate_left
    ·intro w'
     go_simp
     with_reducible rfl
    rotate_left
    ·simp only [Act.put,lA,l0',lS,i64_w,i32_w]
     rfl
    refine take_ (i:=0) (N:=some 20) (v:=?_) (a':=?_) #[true,false,true,false,false,false,false,false,false,false,false,false,false] rfl rfl (take_ofW HT_.out HW_.out (by kernel_rfl)) (fun _ _ _ h=>h) (Or.inl ⟨by rfl,?_⟩) hHeld ?_ ?_
    rotate_left
    ·rintro w' ⟨s0,s1,s2,s3⟩
     go_simp
     with_reducible rfl
    rotate_left
    ·simp only [Act.put,lA,l0',lS,i64_w,i32_w]
     rfl
    refine take_ (i:=3) (N:=some 23) (v:=?_) (a':=?_) #[true,false,true,true,false,false,false,false,false,false,false,false,false] rfl rfl (take_ofW HT_.out HW_.out (by kernel_rfl)) (fun _ _ _ h=>h) (Or.inl ⟨by rfl,?_⟩) hHeld ?_ ?_
    rotate_left
    ·rintro w' ⟨s0,s1,s2,s3⟩
     go_simp
     with_reducible rfl
    rotate_left
    ·simp only [Act.put,lA,l0',lS,i64_w,i32_w]
     rfl
    refine one_ (i:=1) (N:=some 21) #[true,true,true,true,false,false,false,false,false,false,false,false,false] rfl rfl (one_of HT_.out (by kernel_rfl)) (by decide) (fun K hK=>?_)
    refine goes_ Try.func93 (by kernel_rfl) rfl #[.agg #[.int .i64 a1_0,.int .i64 a1_1,.slice A1_2 l1_2.length c1_2]] (by rfl) rfl rfl (by (try simp only [mA,mC,mN]);first|done|rfl) ?_
    with_reducible refine (impl_leaders.calls kj2 a1_0 a1_1 _ _ l1_2 t303 _ ?side1 ?side2 A37.out).mono ?_
    (case side1=>repeat (first|exact (Kd.V_reads' HO_299002.out).2.2|(with_reducible refine Kd.C_alloc ?_ _)|(with_reducible refine Kd.C_drewN ?_ _)|(with_reducible refine Kd.C_drew ?_)))
    (case side2=>exact (Kd.V_reads' HO_299002.out).2.1)
    rintro e w40 ⟨v304,rfl,ho0,hb⟩
    refine ⟨_,rfl,?_⟩
    have n0_:=aK (Kd.V_elder' (by (with_reducible repeat first|apply Kd.V_alloc|apply Kd.V_drewN|apply Kd.V_drew);exact HO_298000.out) (Kd.R_base ho0) hb)
    have n1_:=aK (Kd.V_elder' (by (with_reducible repeat first|apply Kd.V_alloc|apply Kd.V_drewN|apply Kd.V_drew);exact HO_299002.out) (Kd.R_base ho0) hb)
    have n2_:=aK (Kd.R_lower (Kd.R_newM (M:=fun k_=>(w.heap.size ≤ k_)) ho0 (below_size (by repeat (first|(with_reducible first|exact HB.out|apply bL|apply bM|apply b1|refine bS ?_ GE297.out|refine bS ?_ GE298.out|refine bS ?_ GE299.out|refine bS ?_ GE300.out)|exact HB.out))) (fun k_ h_=>h_)) (below_size (by repeat (first|(with_reducible first|exact HB.out|apply bL|apply bM|apply b1|refine bS ?_ GE297.out|refine bS ?_ GE298.out|refine bS ?_ GE299.out|refine bS ?_ GE300.out)|exact HB.out))))
    have n3_:=aK (bB (by (with_reducible repeat first|apply bN|apply bD|apply bA);exact BK297.out) hb)
    have n4_:=aK (bB (by (with_reducible repeat first|apply bN|apply bD|apply bA);exact BK298.out) hb)
    have n5_:=aK (bB (by (with_reducible repeat first|apply bN|apply bD|apply bA);exact BK299.out) hb)
    have n6_:=aK (bB (by (with_reducible repeat first|apply bN|apply bD|apply bA);exact BK300.out) hb)
    have n7_:=aK (below_step (by repeat (first|(with_reducible first|exact HB.out|apply bL|apply bM|apply b1|refine bS ?_ GE297.out|refine bS ?_ GE298.out|refine bS ?_ GE299.out|refine bS ?_ GE300.out)|exact HB.out)) hb)
    clear HO_298000
    clear HO_299002
    clear BK297
    clear BK298
    clear BK299
    clear BK300
    clear HB
    have HO_298000:=n0_
    have HO_299002:=n1_
    have HO305:=n2_
    have BK297:=n3_
    have BK298:=n4_
    have BK299:=n5_
    have BK300:=n6_
    have HB:=n7_
    clear n0_ n1_ n2_ n3_ n4_ n5_ n6_ n7_
    (try clear hb)
    (try clear hb2)
    (try clear hk)
    (try clear hi)
    (try clear ho0)
    refine hK.out _ _ ⟨(bC BK298.out 0).trans rfl,(bC BK298.out 1).trans rfl,(bC BK298.out 2).trans rfl,(bC BK297.out 0).trans rfl⟩ (fun hHeld=>?_)
    clear hK K
    refine norm_ (a':=?_) ?_ ?_
    rotate_left
    ·show Act.put _ (some 21) _ = _
     simp only [Act.put,lA,l0',lS,i64_w,i32_w]
     rfl
    refine pure_ (i:=5) (N:=some 25) (v:=?_) (a':=?_) #[true,true,true,true,false,true,false,false,false,false,false,false,false] rfl rfl (any_of HT_.out (by kernel_rfl)) (fun _ _ _ h=>h) (Or.inl ⟨by rfl,?_⟩) ?_ ?_
    rotate_left
    ·intro w'
     go_simp
     with_reducible rfl
    rotate_left
    ·simp only [Act.put,lA,l0',lS,i64_w,i32_w]
     rfl
    refine one_ (i:=4) (N:=some 24) #[true,true,true,true,true,true,false,false,false,false,false,false,false] rfl rfl (one_of HT_.out (by kernel_rfl)) (by decide) (fun K hK=>?_)
    refine goes_ Try.func144 (by kernel_rfl) rfl #[.slice A0_0 l0_0.length c0_0] (by rfl) rfl rfl (by (try simp only [mA,mC,mN]);first|done|rfl) ?_
    with_reducible refine (slices_Clone_int64_int64_144.calls (fun k_=>((((P0_0_ k_ ∨ P1_2_ k_) ∨ w.heap.size ≤ k_) ∧ (k_ ≠ gb297 ∧ (k_ ≠ gb298 ∧ (k_ ≠ gb299 ∧ k_ ≠ gb300)))) ∧ some k_ ≠ (v304 : Value).ownBlock)) _ _ l0_0 t306 _ ?side1 A38.out).mono ?_
    (case side1=>exact HO_298000.out)
    rintro e w41 ⟨v307,rfl,ho0,hb⟩
    refine ⟨_,rfl,?_⟩
    have n0_:=aK (Kd.V_elder' (by (with_reducible repeat first|apply Kd.V_alloc|apply Kd.V_drewN|apply Kd.V_drew);exact HO_298000.out) (Kd.N_base ho0) hb)
    have n1_:=aK (Kd.V_elder' (by (with_reducible repeat first|apply Kd.V_alloc|apply Kd.V_drewN|apply Kd.V_drew);exact HO_299002.out) (Kd.N_base ho0) hb)
    have n2_:=aK (Kd.R_below (by (with_reducible repeat first|apply Kd.R_alloc|apply Kd.R_drewN|apply Kd.R_drew);exact HO305.out) hb)
    have n3_:=aK (Kd.N_lower (Kd.N_mono (ok':=fun k_=>((P0_0_ k_ ∨ P1_2_ k_) ∨ w.heap.size ≤ k_) ∧ some k_ ≠ (v304 : Value).ownBlock ∧ k_ ≠ gb297 ∧ k_ ≠ gb298 ∧ k_ ≠ gb299 ∧ k_ ≠ gb300) ho0 (fun k_ hk_=>⟨Or.elim hk_ (fun hs_=>hs_.1.1) (fun hn_=>(.inr (Nat.le_trans (below_size (by repeat (first|(with_reducible first|exact HB.out|apply bL|apply bM|apply b1|refine bS ?_ GE297.out|refine bS ?_ GE298.out|refine bS ?_ GE299.out|refine bS ?_ GE300.out)|exact HB.out))) hn_))),Or.elim hk_ (fun hs_=>hs_.2) (fun hn_=>(Kd.fresh' (Kd.R_lt (by (with_reducible repeat first|apply Kd.R_alloc|apply Kd.R_drewN|apply Kd.R_drew);exact HO305.out)) k_ hn_)),Or.elim hk_ (fun hs_=>hs_.1.2.1) (fun hn_=>(Kd.freshB (g:=gb297) (o:=.cells #[.slice A0_0 l0_0.length c0_0] 44 (0,0)) (by (with_reducible repeat first|apply bN|apply bD|apply bA);exact BK297.out) k_ hn_)),Or.elim hk_ (fun hs_=>hs_.1.2.2.1) (fun hn_=>(Kd.freshB (g:=gb298) (o:=.cells #[.int .i64 a1_0,.int .i64 a1_1,.slice A1_2 l1_2.length c1_2] 27 (0,0)) (by (with_reducible repeat first|apply bN|apply bD|apply bA);exact BK298.out) k_ hn_)),Or.elim hk_ (fun hs_=>hs_.1.2.2.2.1) (fun hn_=>(Kd.freshB (g:=gb299) (o:=.cells #[.slice none 0 0,.slice none 0 0,.bool false,.bool false] 92 (0,0)) (by (with_reducible repeat first|apply bN|apply bD|apply bA);exact BK299.out) k_ hn_)),Or.elim hk_ (fun hs_=>hs_.1.2.2.2.2) (fun hn_=>(Kd.freshB (g:=gb300) (o:=.cells #[.slice none 0 0,.slice none 0 0,.bool false,.bool false] 92 (0,0)) (by (with_reducible repeat first|apply bN|apply bD|apply bA);exact BK300.out) k_ hn_))⟩)) (below_size (by repeat (first|(with_reducible first|exact HB.out|apply bL|apply bM|apply b1|refine bS ?_ GE297.out|refine bS ?_ GE298.out|refine bS ?_ GE299.out|refine bS ?_ GE300.out)|exact HB.out))))
    have n4_:=aK (bB (by (with_reducible repeat first|apply bN|apply bD|apply bA);exact BK297.out) hb)
    have n5_:=aK (bB (by (with_reducible repeat first|apply bN|apply bD|apply bA);exact BK298.out) hb)
    have n6_:=aK (bB (by (with_reducible repeat first|apply bN|apply bD|apply bA);exact BK299.out) hb)
    have n7_:=aK (bB (by (with_reducible repeat first|apply bN|apply bD|apply bA);exact BK300.out) hb)
    have n8_:=aK (below_step (by repeat (first|(with_reducible first|exact HB.out|apply bL|apply bM|apply b1|refine bS ?_ GE297.out|refine bS ?_ GE298.out|refine bS ?_ GE299.out|refine bS ?_ GE300.out)|exact HB.out)) hb)
    clear HO_298000
    clear HO_299002
    clear HO305
    clear BK297
    clear BK298
    clear BK299
    clear BK300
    clear HB
    have HO_298000:=n0_
    have HO_299002:=n1_
    have HO305:=n2_
    have HO308:=n3_
    have BK297:=n4_
    have BK298:=n5_
    have BK299:=n6_
    have BK300:=n7_
    have HB:=n8_
    clear n0_ n1_ n2_ n3_ n4_ n5_ n6_ n7_ n8_
    (try clear hb)
    (try clear hb2)
    (try clear hk)
    (try clear hi)
    (try clear ho0)
    obtain ⟨Ao42,co42,eo42⟩:=Kd.R_slice HO305.out
    (first|subst eo42|(injection eo42 with f1_ f2_ f3_;have f4_:=f1_.symm;have f5_:=f3_.symm;clear f1_ f2_ f3_;subst f4_;subst f5_))
    obtain ⟨Ao44,co44,eo44⟩:=Kd.N_slice HO308.out
    (first|subst eo44|(injection eo44 with f1_ f2_ f3_;have f4_:=f1_.symm;have f5_:=f3_.symm;clear f1_ f2_ f3_;subst f4_;subst f5_))
    refine hK.out _ _ ⟨(bC BK298.out 0).trans rfl,(bC BK298.out 1).trans rfl,(bC BK298.out 2).trans rfl,(bC BK297.out 0).trans rfl⟩ (fun hHeld=>?_)
    clear hK K
    refine norm_ (a':=?_) ?_ ?_
    rotate_left
    ·show Act.put _ (some 24) _ = _
     simp only [Act.put,lA,l0',lS,i64_w,i32_w]
     rfl
    refine one_ (i:=6) (N:=none) #[true,true,true,true,true,true,true,false,false,false,false,false,false] rfl rfl (one_of HT_.out (by kernel_rfl)) (by decide) (fun K hK=>?_)
    have hs43 : w41.cell? ⟨gb300,1,none⟩ = some (.slice none 0 0):=(bC BK300.out 1).trans rfl
    have hfs43:=blk_frozen BK300.out 1
    have hns43_0:=NB297_300.out
    have hns43_1:=NB298_300.out
    have hns43_2:=NB299_300.out
    have hms43_0:=NB300_297.out
    have hms43_1:=NB300_298.out
    have hms43_2:=NB300_299.out
    refine skip_ (w1:=?_) (by rfl) rfl ?_ ?_
    rotate_left
    ·go_simp
     rfl
    refine hK.out _ _ ⟨((cell_far (p:=⟨gb300,_,none⟩) NB298_300.out _).trans (hHeld.1)),((cell_far (p:=⟨gb300,_,none⟩) NB298_300.out _).trans (hHeld.2.1)),((cell_far (p:=⟨gb300,_,none⟩) NB298_300.out _).trans (hHeld.2.2.1)),((cell_far (p:=⟨gb300,_,none⟩) NB297_300.out _).trans (hHeld.2.2.2))⟩ (fun hHeld=>?_)
    clear hK K
    refine pure_ (i:=7) (N:=some 26) (v:=?_) (a':=?_) #[true,true,true,true,true,true,true,true,false,false,false,false,false] rfl rfl (any_of HT_.out (by kernel_rfl)) (fun _ _ _ h=>h) (Or.inl ⟨by rfl,?_⟩) ?_ ?_
    rotate_left
    ·intro w'
     go_simp
     with_reducible rfl
    rotate_left
    ·simp only [Act.put,lA,l0',lS,i64_w,i32_w]
     rfl
    refine one_ (i:=8) (N:=none) #[true,true,true,true,true,true,true,true,true,false,false,false,false] rfl rfl (one_of HT_.out (by kernel_rfl)) (by decide) (fun K hK=>?_)
    have hs45 : w41.cell? ⟨gb300,0,none⟩ = some (.slice none 0 0):=(bC BK300.out 0).trans rfl
    have hfs45:=blk_frozen BK300.out 0
    have hns45_0:=NB297_300.out
    have hns45_1:=NB298_300.out
    have hns45_2:=NB299_300.out
    have hms45_0:=NB300_297.out
    have hms45_1:=NB300_298.out
    have hms45_2:=NB300_299.out
    refine skip_ (w1:=?_) (by rfl) rfl ?_ ?_
    rotate_left
    ·go_simp
     rfl
    refine hK.out _ _ ⟨((cell_far (p:=⟨gb300,_,none⟩) NB298_300.out _).trans (hHeld.1)),((cell_far (p:=⟨gb300,_,none⟩) NB298_300.out _).trans (hHeld.2.1)),((cell_far (p:=⟨gb300,_,none⟩) NB298_300.out _).trans (hHeld.2.2.1)),((cell_far (p:=⟨gb300,_,none⟩) NB297_300.out _).trans (hHeld.2.2.2))⟩ (fun hHeld=>?_)
    clear hK K
    refine pure_ (i:=9) (N:=some 27) (v:=?_) (a':=?_) #[true,true,true,true,true,true,true,true,true,true,false,false,false] rfl rfl (any_of HT_.out (by kernel_rfl)) (fun _ _ _ h=>h) (Or.inl ⟨by rfl,?_⟩) ?_ ?_
    rotate_left
    ·intro w'
     go_simp
     with_reducible rfl
    rotate_left
    ·simp only [Act.put,lA,l0',lS,i64_w,i32_w]
     rfl
    refine one_ (i:=10) (N:=none) #[true,true,true,true,true,true,true,true,true,true,true,false,false] rfl rfl (one_of HT_.out (by kernel_rfl)) (by decide) (fun K hK=>?_)
    have hs46 : w41.cell? ⟨gb300,2,none⟩ = some (.bool false):=(bC BK300.out 2).trans rfl
    have hfs46:=blk_frozen BK300.out 2
    have hns46_0:=NB297_300.out
    have hns46_1:=NB298_300.out
    have hns46_2:=NB299_300.out
    have hms46_0:=NB300_297.out
    have hms46_1:=NB300_298.out
    have hms46_2:=NB300_299.out
    refine skip_ (w1:=?_) (by rfl) rfl ?_ ?_
    rotate_left
    ·go_simp
     rfl
    refine hK.out _ _ ⟨((cell_far (p:=⟨gb300,_,none⟩) NB298_300.out _).trans (hHeld.1)),((cell_far (p:=⟨gb300,_,none⟩) NB298_300.out _).trans (hHeld.2.1)),((cell_far (p:=⟨gb300,_,none⟩) NB298_300.out _).trans (hHeld.2.2.1)),((cell_far (p:=⟨gb300,_,none⟩) NB297_300.out _).trans (hHeld.2.2.2))⟩ (fun hHeld=>?_)
    clear hK K
    refine pure_ (i:=11) (N:=some 28) (v:=?_) (a':=?_) #[true,true,true,true,true,true,true,true,true,true,true,true,false] rfl rfl (any_of HT_.out (by kernel_rfl)) (fun _ _ _ h=>h) (Or.inl ⟨by rfl,?_⟩) ?_ ?_
    rotate_left
    ·intro w'
     go_simp
     with_reducible rfl
    rotate_left
    ·simp only [Act.put,lA,l0',lS,i64_w,i32_w]
     rfl
    refine one_ (i:=12) (N:=none) #[true,true,true,true,true,true,true,true,true,true,true,true,true] rfl rfl (one_of HT_.out (by kernel_rfl)) (by decide) (fun K hK=>?_)
    have hs47 : w41.cell? ⟨gb300,3,none⟩ = some (.bool false):=(bC BK300.out 3).trans rfl
    have hfs47:=blk_frozen BK300.out 3
    have hns47_0:=NB297_300.out
    have hns47_1:=NB298_300.out
    have hns47_2:=NB299_300.out
    have hms47_0:=NB300_297.out
    have hms47_1:=NB300_298.out
    have hms47_2:=NB300_299.out
    refine skip_ (w1:=?_) (by rfl) rfl ?_ ?_
    rotate_left
    ·go_simp
     rfl
    refine hK.out _ _ ⟨((cell_far (p:=⟨gb300,_,none⟩) NB298_300.out _).trans (hHeld.1)),((cell_far (p:=⟨gb300,_,none⟩) NB298_300.out _).trans (hHeld.2.1)),((cell_far (p:=⟨gb300,_,none⟩) NB298_300.out _).trans (hHeld.2.2.1)),((cell_far (p:=⟨gb300,_,none⟩) NB297_300.out _).trans (hHeld.2.2.2))⟩ (fun hHeld=>?_)
    clear hK K
    refine done_ (done_of HT_.out (by kernel_rfl)) ?_
    have hnb48:=NB298_297.out
    have hnc48:=NB297_298.out
    have hnb49:=NB298_299.out
    have hnc49:=NB299_298.out
    have hnb50:=NB298_300.out
    have hnc50:=NB300_298.out
    have hcz51_0 : w41.cell? ⟨gb298,0,none⟩ = some (.int .i64 a1_0):=(bC BK298.out 0).trans rfl
    have hcz51_1 : w41.cell? ⟨gb298,1,none⟩ = some (.int .i64 a1_1):=(bC BK298.out 1).trans rfl
    have hcz51_2 : w41.cell? ⟨gb298,2,none⟩ = some (.slice A1_2 l1_2.length c1_2):=(bC BK298.out 2).trans rfl
    have hfz51_0:=blk_frozen BK298.out 0
    have hfz51_1:=blk_frozen BK298.out 1
    have hfz51_2:=blk_frozen BK298.out 2
    try go_wp2
    go_loopg [32] kj2 (fun kq v32 w'=>∃ (x32_2 : Int) (x298000_2 : List (List Int)) (x300002_2 : Bool) (x300003_2 : Bool) (x301000_2 : List (List Int)) (x301003_2 : Bool) (u298000 : Value) (u301000 : Value),v32 = .int .i64 x32_2 ∧ Aside0 (impl_recordOf.l0 kq l1_2 (l1_2.length : Int) x32_2 a1_0 a1_1 l1_2 x301000_2 t303 true x301003_2 = some (r1,r2,r3,r4)) ∧ Aside0 (kq ≤ kj2) ∧ Aside0 (Kd.V (Kd.int .i64) 2 w' w.heap.size (fun k_=>((P0_0_ k_ ∨ P1_2_ k_) ∨ w.heap.size ≤ k_) ∧ some k_ ≠ (u301000 : Value).ownBlock ∧ some k_ ≠ ((.slice Ao42 t303.length co42) : Value).ownBlock ∧ k_ ≠ gb297 ∧ k_ ≠ gb298 ∧ k_ ≠ gb299 ∧ k_ ≠ gb300) (.slice A1_2 l1_2.length c1_2) l1_2) ∧ Aside0 (Kd.V (Kd.slice 2 (Kd.int .i64)) 22 w' w.heap.size (fun k_=>((P0_0_ k_ ∨ P1_2_ k_) ∨ w.heap.size ≤ k_) ∧ some k_ ≠ (u301000 : Value).ownBlock ∧ some k_ ≠ ((.slice Ao42 t303.length co42) : Value).ownBlock ∧ k_ ≠ gb297 ∧ k_ ≠ gb298 ∧ k_ ≠ gb299 ∧ k_ ≠ gb300) u298000 x298000_2) ∧ Aside0 (Kd.V (Kd.int .i64) 2 w' w.heap.size (fun k_=>((P0_0_ k_ ∨ P1_2_ k_) ∨ w.heap.size ≤ k_) ∧ some k_ ≠ (u301000 : Value).ownBlock ∧ some k_ ≠ ((.slice Ao42 t303.length co42) : Value).ownBlock ∧ k_ ≠ gb297 ∧ k_ ≠ gb298 ∧ k_ ≠ gb299 ∧ k_ ≠ gb300) (.slice A1_2 l1_2.length c1_2) l1_2) ∧ Aside0 (Kd.N (Kd.slice 2 (Kd.int .i64)) 22 w' w.heap.size (fun k_=>((P0_0_ k_ ∨ P1_2_ k_) ∨ w.heap.size ≤ k_) ∧ some k_ ≠ ((.slice Ao42 t303.length co42) : Value).ownBlock ∧ k_ ≠ gb297 ∧ k_ ≠ gb298 ∧ k_ ≠ gb299 ∧ k_ ≠ gb300) u301000 x301000_2) ∧ Aside0 (Kd.R (Kd.int .i64) 2 w' w.heap.size (fun k_=>(w.heap.size ≤ k_)) (.slice Ao42 t303.length co42) t303) ∧ Aside0 (w'.heap[gb297]? = some (.cells #[u298000] 44 (0,0))) ∧ Aside0 (w'.heap[gb298]? = some (.cells #[.int .i64 a1_0,.int .i64 a1_1,(.slice A1_2 l1_2.length c1_2)] 27 (0,0))) ∧ Aside0 (w'.heap[gb299]? = some (.cells #[(.slice none 0 0),(.slice none 0 0),.bool x300002_2,.bool x300003_2] 92 (0,0))) ∧ Aside0 (w'.heap[gb300]? = some (.cells #[u301000,(.slice Ao42 t303.length co42),.bool true,.bool x301003_2] 92 (0,0))) ∧ Aside0 (Below w.heap.size w w'))
    case atStart=>exact ⟨(0),(l0_0),(false),(false),(t306),(true),(.slice A0_0 l0_0.length c0_0),(.slice Ao44 t306.length co44),(by first|rfl|(simp;done)|(simp [*];done)),H',⟨Nat.le_refl _⟩,⟨by (with_reducible repeat first|apply Kd.V_alloc|apply Kd.V_drewN|apply Kd.V_drew);exact Kd.V_mono (Kd.V_far (p:=⟨gb300,3,none⟩) (Kd.V_far (p:=⟨gb300,2,none⟩) (Kd.V_far (p:=⟨gb300,0,none⟩) (Kd.V_far (p:=⟨gb300,1,none⟩) (Kd.V_mono HO_299002.out (fun k_ hk=>(⟨hk,hk.1.1.2.2.2.2⟩ : _ ∧ k_ ≠ gb300))) (fun _ hk=>hk.2) (.slice Ao42 t303.length co42)) (fun _ hk=>hk.2) (.slice Ao44 t306.length co44)) (fun _ hk=>hk.2) (.bool true)) (fun _ hk=>hk.2) (.bool true)) (fun _ hk=>⟨hk.1.1.1.1,⟨hk.1.2,⟨hk.1.1.2,⟨hk.1.1.1.2.1,⟨hk.1.1.1.2.2.1,⟨hk.1.1.1.2.2.2.1,hk.1.1.1.2.2.2.2⟩⟩⟩⟩⟩⟩)⟩,⟨by (with_reducible repeat first|apply Kd.V_alloc|apply Kd.V_drewN|apply Kd.V_drew);exact Kd.V_mono (Kd.V_far (p:=⟨gb300,3,none⟩) (Kd.V_far (p:=⟨gb300,2,none⟩) (Kd.V_far (p:=⟨gb300,0,none⟩) (Kd.V_far (p:=⟨gb300,1,none⟩) (Kd.V_mono HO_298000.out (fun k_ hk=>(⟨hk,hk.1.1.2.2.2.2⟩ : _ ∧ k_ ≠ gb300))) (fun _ hk=>hk.2) (.slice Ao42 t303.length co42)) (fun _ hk=>hk.2) (.slice Ao44 t306.length co44)) (fun _ hk=>hk.2) (.bool true)) (fun _ hk=>hk.2) (.bool true)) (fun _ hk=>⟨hk.1.1.1.1,⟨hk.1.2,⟨hk.1.1.2,⟨hk.1.1.1.2.1,⟨hk.1.1.1.2.2.1,⟨hk.1.1.1.2.2.2.1,hk.1.1.1.2.2.2.2⟩⟩⟩⟩⟩⟩)⟩,⟨by (with_reducible repeat first|apply Kd.V_alloc|apply Kd.V_drewN|apply Kd.V_drew);exact Kd.V_mono (Kd.V_far (p:=⟨gb300,3,none⟩) (Kd.V_far (p:=⟨gb300,2,none⟩) (Kd.V_far (p:=⟨gb300,0,none⟩) (Kd.V_far (p:=⟨gb300,1,none⟩) (Kd.V_mono HO_299002.out (fun k_ hk=>(⟨hk,hk.1.1.2.2.2.2⟩ : _ ∧ k_ ≠ gb300))) (fun _ hk=>hk.2) (.slice Ao42 t303.length co42)) (fun _ hk=>hk.2) (.slice Ao44 t306.length co44)) (fun _ hk=>hk.2) (.bool true)) (fun _ hk=>hk.2) (.bool true)) (fun _ hk=>⟨hk.1.1.1.1,⟨hk.1.2,⟨hk.1.1.2,⟨hk.1.1.1.2.1,⟨hk.1.1.1.2.2.1,⟨hk.1.1.1.2.2.2.1,hk.1.1.1.2.2.2.2⟩⟩⟩⟩⟩⟩)⟩,⟨by (with_reducible repeat first|apply Kd.N_alloc|apply Kd.N_drewN|apply Kd.N_drew);exact Kd.N_mono (Kd.N_far (p:=⟨gb300,3,none⟩) (Kd.N_far (p:=⟨gb300,2,none⟩) (Kd.N_far (p:=⟨gb300,0,none⟩) (Kd.N_far (p:=⟨gb300,1,none⟩) (Kd.N_mono HO308.out (fun k_ hk=>(⟨hk,hk.2.2.2.2.2⟩ : _ ∧ k_ ≠ gb300))) (fun _ hk=>hk.2) (.slice Ao42 t303.length co42)) (fun _ hk=>hk.2) (.slice Ao44 t306.length co44)) (fun _ hk=>hk.2) (.bool true)) (fun _ hk=>hk.2) (.bool true)) (fun _ hk=>⟨hk.1.1,⟨hk.1.2.1,⟨hk.1.2.2.1,⟨hk.1.2.2.2.1,⟨hk.1.2.2.2.2.1,hk.1.2.2.2.2.2⟩⟩⟩⟩⟩)⟩,⟨by (with_reducible repeat first|apply Kd.R_alloc|apply Kd.R_drewN|apply Kd.R_drew);exact Kd.R_mono (Kd.R_far (p:=⟨gb300,3,none⟩) (Kd.R_far (p:=⟨gb300,2,none⟩) (Kd.R_far (p:=⟨gb300,0,none⟩) (Kd.R_far (p:=⟨gb300,1,none⟩) (Kd.R_types HO305.out BK300.out (by decide)) (fun _ hk=>hk.2) (.slice Ao42 t303.length co42)) (fun _ hk=>hk.2) (.slice Ao44 t306.length co44)) (fun _ hk=>hk.2) (.bool true)) (fun _ hk=>hk.2) (.bool true)) (fun _ hk=>hk.1.1)⟩,⟨by (with_reducible repeat first|apply bN|apply bD|apply bA);refine blk_far ?_ NB297_300.out _;(with_reducible repeat first|apply bN|apply bD|apply bA);refine blk_far ?_ NB297_300.out _;(with_reducible repeat first|apply bN|apply bD|apply bA);refine blk_far ?_ NB297_300.out _;(with_reducible repeat first|apply bN|apply bD|apply bA);refine blk_far ?_ NB297_300.out _;(with_reducible repeat first|apply bN|apply bD|apply bA);exact BK297.out⟩,⟨by (with_reducible repeat first|apply bN|apply bD|apply bA);refine blk_far ?_ NB298_300.out _;(with_reducible repeat first|apply bN|apply bD|apply bA);refine blk_far ?_ NB298_300.out _;(with_reducible repeat first|apply bN|apply bD|apply bA);refine blk_far ?_ NB298_300.out _;(with_reducible repeat first|apply bN|apply bD|apply bA);refine blk_far ?_ NB298_300.out _;(with_reducible repeat first|apply bN|apply bD|apply bA);exact BK298.out⟩,⟨by (with_reducible repeat first|apply bN|apply bD|apply bA);refine blk_far ?_ NB299_300.out _;(with_reducible repeat first|apply bN|apply bD|apply bA);refine blk_far ?_ NB299_300.out _;(with_reducible repeat first|apply bN|apply bD|apply bA);refine blk_far ?_ NB299_300.out _;(with_reducible repeat first|apply bN|apply bD|apply bA);refine blk_far ?_ NB299_300.out _;(with_reducible repeat first|apply bN|apply bD|apply bA);exact BK299.out⟩,⟨by (with_reducible repeat first|apply bN|apply bD|apply bA);refine blk_put (cs:=#[.slice Ao44 t306.length co44,.slice Ao42 t303.length co42,.bool true,.bool false]) ?_ 3 _ rfl;(with_reducible repeat first|apply bN|apply bD|apply bA);refine blk_put (cs:=#[.slice Ao44 t306.length co44,.slice Ao42 t303.length co42,.bool false,.bool false]) ?_ 2 _ rfl;(with_reducible repeat first|apply bN|apply bD|apply bA);refine blk_put (cs:=#[.slice none 0 0,.slice Ao42 t303.length co42,.bool false,.bool false]) ?_ 0 _ rfl;(with_reducible repeat first|apply bN|apply bD|apply bA);refine blk_put (cs:=#[.slice none 0 0,.slice none 0 0,.bool false,.bool false]) ?_ 1 _ rfl;(with_reducible repeat first|apply bN|apply bD|apply bA);exact BK300.out⟩,⟨by repeat (first|(with_reducible first|exact HB.out|apply bL|apply bM|apply b1|refine bS ?_ GE297.out|refine bS ?_ GE298.out|refine bS ?_ GE299.out|refine bS ?_ GE300.out)|exact HB.out)⟩⟩
    case round =>
     clear H'
     try clear c1
     try clear c2
     try clear p2
     try clear c3
     try clear c4
     try clear c5
     try clear c8
     try clear c9
     try clear c10
     try clear c13
     try clear c14
     try clear c15
     try clear c16
     try clear c17
     try clear c20
     try clear c21
     try clear c24
     try clear c25
     try clear c26
     try clear c29
     try clear c30
     try clear c31
     try clear c32
     try clear c34
     try clear c35
     try clear c48
     try clear c49
     try clear c50
     try clear hcz11_0
     try clear hcz11_1
     try clear hcz11_2
     try clear hcz11_3
     try clear hcz18_0
     try clear hcz22_0
     try clear hcz22_1
     try clear hcz22_2
     try clear hcz27_0
     try clear hcz33_0
     try clear hcz33_1
     try clear hcz33_2
     try clear hcz33_3
     try clear hcz36_0
     try clear hcz36_1
     try clear hcz36_2
     try clear hcz36_3
     try clear hcz51_0
     try clear hcz51_1
     try clear hcz51_2
     try clear hfz11_0
     try clear hfz11_1
     try clear hfz11_2
     try clear hfz11_3
     try clear hfz18_0
     try clear hfz22_0
     try clear hfz22_1
     try clear hfz22_2
     try clear hfz27_0
     try clear hfz33_0
     try clear hfz33_1
     try clear hfz33_2
     try clear hfz33_3
     try clear hfz36_0
     try clear hfz36_1
     try clear hfz36_2
     try clear hfz36_3
     try clear hfz51_0
     try clear hfz51_1
     try clear hfz51_2
     try clear p2
     obtain ⟨x32_2,x298000_2,x300002_2,x300003_2,x301000_2,x301003_2,u298000,u301000,rfl,HA,HK2,HO_30,HO_298000,HO_299002,HO_301000,HO_301001,BK297,BK298,BK299,BK300,HB⟩:=hrel
     cases gk with
     | zero=>exact absurd HA.out (by simp [impl_recordOf.l0])
     | succ k2 =>
      have H:=HA.out
      clear HA
      simp only [impl_recordOf.l0] at H
      by_cases c52 : x32_2 < (l1_2.length : Int)
      ·rw [if_pos c52] at H
       have c52b0 : decide (x32_2 < (l1_2.length : Int)) = true:=decide_eq_true c52
       clear c52
       by_cases c53 : 0 ≤ x32_2
       ·rw [if_pos c53] at H
        have c53b0 : decide (0 ≤ x32_2) = true:=decide_eq_true c53
        clear c53
        by_cases c54 : x32_2 < (l1_2.length : Int)
        ·rw [if_pos c54] at H
         have c54b0 : decide (x32_2 < (l1_2.length : Int)) = true:=decide_eq_true c54
         clear c54
         replace H:=Option.bind_eq_some_iff.mp H
         obtain ⟨t310,A550,H⟩:=H
         replace H : (if 0 ≤ t310 then (if t310 < (x301000_2.length : Int) then ((slices_Contains_int64_int64.f k2 (rd_L1 x301000_2 t310) (rd l1_2 x32_2)).bind fun t312=>(if t312 = true then (if x301003_2 = true then (if x32_2 ≤ (l1_2.length : Int) then ((impl_trickAt.f (l1_2.take (x32_2 : Int).toNat)).bind fun t318=>((impl_follow.f k2 (rd_L1 x301000_2 t310) t318).bind fun t321=>((slices_Contains_int64_int64.f k2 t321 (rd l1_2 x32_2)).bind fun t324=>((impl_without.f (rd_L1 x301000_2 t310) (rd l1_2 x32_2)).bind fun t325=>(impl_recordOf.l0 k2 l1_2 (l1_2.length : Int) (wrap64 (x32_2 + 1)) a1_0 a1_1 l1_2 (x301000_2.set (t310 : Int).toNat t325) t303 true t324))))) else (none)) else ((impl_without.f (rd_L1 x301000_2 t310) (rd l1_2 x32_2)).bind fun t329=>(impl_recordOf.l0 k2 l1_2 (l1_2.length : Int) (wrap64 (x32_2 + 1)) a1_0 a1_1 l1_2 (x301000_2.set (t310 : Int).toNat t329) t303 true false))) else (some (([] : List (List Int)),([] : List Int),false,false)))) else (none)) else (none)) = some (r1,r2,r3,r4):=H
         have A55:=aK A550
         clear A550
         by_cases c56 : 0 ≤ t310
         ·rw [if_pos c56] at H
          have c56b0 : decide (0 ≤ t310) = true:=decide_eq_true c56
          clear c56
          by_cases c57 : t310 < (x301000_2.length : Int)
          ·rw [if_pos c57] at H
           have c57b0 : decide (t310 < (x301000_2.length : Int)) = true:=decide_eq_true c57
           clear c57
           replace H:=Option.bind_eq_some_iff.mp H
           obtain ⟨t312,A580,H⟩:=H
           replace H : (if t312 = true then (if x301003_2 = true then (if x32_2 ≤ (l1_2.length : Int) then ((impl_trickAt.f (l1_2.take (x32_2 : Int).toNat)).bind fun t318=>((impl_follow.f k2 (rd_L1 x301000_2 t310) t318).bind fun t321=>((slices_Contains_int64_int64.f k2 t321 (rd l1_2 x32_2)).bind fun t324=>((impl_without.f (rd_L1 x301000_2 t310) (rd l1_2 x32_2)).bind fun t325=>(impl_recordOf.l0 k2 l1_2 (l1_2.length : Int) (wrap64 (x32_2 + 1)) a1_0 a1_1 l1_2 (x301000_2.set (t310 : Int).toNat t325) t303 true t324))))) else (none)) else ((impl_without.f (rd_L1 x301000_2 t310) (rd l1_2 x32_2)).bind fun t329=>(impl_recordOf.l0 k2 l1_2 (l1_2.length : Int) (wrap64 (x32_2 + 1)) a1_0 a1_1 l1_2 (x301000_2.set (t310 : Int).toNat t329) t303 true false))) else (some (([] : List (List Int)),([] : List Int),false,false))) = some (r1,r2,r3,r4):=H
           have A58:=aK A580
           clear A580
           by_cases c59 : t312 = true
           ·subst c59
            have H1 : (if x301003_2 = true then (if x32_2 ≤ (l1_2.length : Int) then ((impl_trickAt.f (l1_2.take (x32_2 : Int).toNat)).bind fun t318=>((impl_follow.f k2 (rd_L1 x301000_2 t310) t318).bind fun t321=>((slices_Contains_int64_int64.f k2 t321 (rd l1_2 x32_2)).bind fun t324=>((impl_without.f (rd_L1 x301000_2 t310) (rd l1_2 x32_2)).bind fun t325=>(impl_recordOf.l0 k2 l1_2 (l1_2.length : Int) (wrap64 (x32_2 + 1)) a1_0 a1_1 l1_2 (x301000_2.set (t310 : Int).toNat t325) t303 true t324))))) else (none)) else ((impl_without.f (rd_L1 x301000_2 t310) (rd l1_2 x32_2)).bind fun t329=>(impl_recordOf.l0 k2 l1_2 (l1_2.length : Int) (wrap64 (x32_2 + 1)) a1_0 a1_1 l1_2 (x301000_2.set (t310 : Int).toNat t329) t303 true false))) = some (r1,r2,r3,r4):=by rw [if_pos rfl] at H;exact H
            clear H
            have H:=H1
            clear H1
            by_cases c60 : x301003_2 = true
            ·subst c60
             have H1 : (if x32_2 ≤ (l1_2.length : Int) then ((impl_trickAt.f (l1_2.take (x32_2 : Int).toNat)).bind fun t318=>((impl_follow.f k2 (rd_L1 x301000_2 t310) t318).bind fun t321=>((slices_Contains_int64_int64.f k2 t321 (rd l1_2 x32_2)).bind fun t324=>((impl_without.f (rd_L1 x301000_2 t310) (rd l1_2 x32_2)).bind fun t325=>(impl_recordOf.l0 k2 l1_2 (l1_2.length : Int) (wrap64 (x32_2 + 1)) a1_0 a1_1 l1_2 (x301000_2.set (t310 : Int).toNat t325) t303 true t324))))) else (none)) = some (r1,r2,r3,r4):=by rw [if_pos rfl] at H;exact H
             clear H
             have H:=H1
             clear H1
             have c61b0:=eq_true (of_decide_eq_true (by first|(with_reducible assumption)|assumption) : 0 ≤ x32_2)
             by_cases c62 : x32_2 ≤ (l1_2.length : Int)
             ·rw [if_pos c62] at H
              have c62b0:=eq_true c62
              have c62b1 : decide (x32_2 ≤ (l1_2.length : Int)) = true:=decide_eq_true c62
              clear c62
              obtain ⟨y313,hy313⟩ : ∃ y_ : List Int,y_ = (l1_2.take (x32_2 : Int).toNat):=⟨_,rfl⟩
              replace H : ((impl_trickAt.f y313).bind fun t318=>((impl_follow.f k2 (rd_L1 x301000_2 t310) t318).bind fun t321=>((slices_Contains_int64_int64.f k2 t321 (rd l1_2 x32_2)).bind fun t324=>((impl_without.f (rd_L1 x301000_2 t310) (rd l1_2 x32_2)).bind fun t325=>(impl_recordOf.l0 k2 l1_2 (l1_2.length : Int) (wrap64 (x32_2 + 1)) a1_0 a1_1 l1_2 (x301000_2.set (t310 : Int).toNat t325) t303 true t324))))) = some (r1,r2,r3,r4):=by first|(rw [hy313];with_reducible exact H)|(have H2_:=(Option.bind_some _ _).symm.trans H;rw [hy313];with_reducible exact H2_)|(have H2_:=(Option.bind_some _ _).symm.trans H;with_reducible exact H2_)|with_reducible exact H|(rw [hy313];exact H)|exact H
              have Ny313:=aK hy313
              clear hy313
              replace H:=Option.bind_eq_some_iff.mp H
              obtain ⟨t318,A630,H⟩:=H
              replace H : ((impl_follow.f k2 (rd_L1 x301000_2 t310) t318).bind fun t321=>((slices_Contains_int64_int64.f k2 t321 (rd l1_2 x32_2)).bind fun t324=>((impl_without.f (rd_L1 x301000_2 t310) (rd l1_2 x32_2)).bind fun t325=>(impl_recordOf.l0 k2 l1_2 (l1_2.length : Int) (wrap64 (x32_2 + 1)) a1_0 a1_1 l1_2 (x301000_2.set (t310 : Int).toNat t325) t303 true t324)))) = some (r1,r2,r3,r4):=H
              have A63:=aK A630
              clear A630
              replace H:=Option.bind_eq_some_iff.mp H
              obtain ⟨t321,A640,H⟩:=H
              replace H : ((slices_Contains_int64_int64.f k2 t321 (rd l1_2 x32_2)).bind fun t324=>((impl_without.f (rd_L1 x301000_2 t310) (rd l1_2 x32_2)).bind fun t325=>(impl_recordOf.l0 k2 l1_2 (l1_2.length : Int) (wrap64 (x32_2 + 1)) a1_0 a1_1 l1_2 (x301000_2.set (t310 : Int).toNat t325) t303 true t324))) = some (r1,r2,r3,r4):=H
              have A64:=aK A640
              clear A640
              replace H:=Option.bind_eq_some_iff.mp H
              obtain ⟨t324,A650,H⟩:=H
              replace H : ((impl_without.f (rd_L1 x301000_2 t310) (rd l1_2 x32_2)).bind fun t325=>(impl_recordOf.l0 k2 l1_2 (l1_2.length : Int) (wrap64 (x32_2 + 1)) a1_0 a1_1 l1_2 (x301000_2.set (t310 : Int).toNat t325) t303 true t324)) = some (r1,r2,r3,r4):=H
              have A65:=aK A650
              clear A650
              replace H:=Option.bind_eq_some_iff.mp H
              obtain ⟨t325,A660,H⟩:=H
              replace H : (impl_recordOf.l0 k2 l1_2 (l1_2.length : Int) (wrap64 (x32_2 + 1)) a1_0 a1_1 l1_2 (x301000_2.set (t310 : Int).toNat t325) t303 true t324) = some (r1,r2,r3,r4):=H
              have A66:=aK A660
              clear A660
              obtain ⟨y328,hy328⟩ : ∃ y_ : List (List Int),y_ = (x301000_2.set (t310 : Int).toNat t325):=⟨_,rfl⟩
              replace H : (impl_recordOf.l0 k2 l1_2 (l1_2.length : Int) (wrap64 (x32_2 + 1)) a1_0 a1_1 l1_2 y328 t303 true t324) = some (r1,r2,r3,r4):=by first|(rw [hy328];with_reducible exact H)|(have H2_:=(Option.bind_some _ _).symm.trans H;rw [hy328];with_reducible exact H2_)|(have H2_:=(Option.bind_some _ _).symm.trans H;with_reducible exact H2_)|with_reducible exact H|(rw [hy328];exact H)|exact H
              have Ny328:=aK hy328
              clear hy328
              have H':=aK H
              clear H
              have p309 : 0 ≤ (x32_2 : Int):=of_decide_eq_true (by first|(with_reducible assumption)|assumption)
              have q309 : x32_2 < (l1_2.length : Int):=of_decide_eq_true (by first|(with_reducible assumption)|assumption)
              obtain ⟨ad309,e309,hx309_0⟩:=Kd.at_int (Kd.V_reads' HO_30.out).2.2 x32_2 p309 q309
              cases e309
              replace p309:=eq_true p309
              replace q309:=eq_true q309
              have hnb68:=NB300_297.out
              have hnc68:=NB297_300.out
              have hnb69:=NB300_298.out
              have hnc69:=NB298_300.out
              have hnb70:=NB300_299.out
              have hnc70:=NB299_300.out
              have hcz71_0 : wr.cell? ⟨gb300,0,none⟩ = some (u301000):=(bC BK300.out 0).trans rfl
              have hcz71_1 : wr.cell? ⟨gb300,1,none⟩ = some (.slice Ao42 t303.length co42):=(bC BK300.out 1).trans rfl
              have hcz71_2 : wr.cell? ⟨gb300,2,none⟩ = some (.bool true):=(bC BK300.out 2).trans rfl
              have hcz71_3 : wr.cell? ⟨gb300,3,none⟩ = some (.bool true):=(bC BK300.out 3).trans rfl
              have hfz71_0:=blk_frozen BK300.out 0
              have hfz71_1:=blk_frozen BK300.out 1
              have hfz71_2:=blk_frozen BK300.out 2
              have hfz71_3:=blk_frozen BK300.out 3
              try go_wp2_with (first|((with_reducible refine gate_callee (f:=110) rfl ?_);refine goesL_ (some 40) rfl rfl Try.func110 (by kernel_rfl) rfl #[.slice Ao42 t303.length co42,.int .i64 x32_2] rfl (by (try simp only [mA,mC,mN]);first|done|rfl) ?_;(with_reducible refine (impl_seatOf.calls _ _ t303 x32_2 t310 _ ?side1 ?side2 A55.out).mono ?_);(case side1=>repeat (first|exact (Kd.R_reads' HO_301001.out).2.2|(with_reducible refine Kd.C_alloc ?_ _)|(with_reducible refine Kd.C_drewN ?_ _)|(with_reducible refine Kd.C_drew ?_)));(case side2=>exact (Kd.R_reads' HO_301001.out).2.1);rintro e w' ⟨rfl,⟨nd,rfl⟩⟩;refine ⟨_,rfl,?_⟩;(try (rw [drewN_self wr];generalize hq_ : World.drewN wr _ = wr;have n0_ : Aside0 (Kd.V (Kd.slice 2 (Kd.int .i64)) 22 wr w.heap.size (fun k_=>((P0_0_ k_ ∨ P1_2_ k_) ∨ w.heap.size ≤ k_) ∧ some k_ ≠ (u301000 : Value).ownBlock ∧ some k_ ≠ (.slice Ao42 t303.length co42 : Value).ownBlock ∧ k_ ≠ gb297 ∧ k_ ≠ gb298 ∧ k_ ≠ gb299 ∧ k_ ≠ gb300) u298000 x298000_2):=⟨by rw [← hq_];exact (by (with_reducible repeat first|apply Kd.V_alloc|apply Kd.V_drewN|apply Kd.V_drew);exact HO_298000.out)⟩;have n1_ : Aside0 (Kd.V (Kd.int .i64) 2 wr w.heap.size (fun k_=>((P0_0_ k_ ∨ P1_2_ k_) ∨ w.heap.size ≤ k_) ∧ some k_ ≠ (u301000 : Value).ownBlock ∧ some k_ ≠ (.slice Ao42 t303.length co42 : Value).ownBlock ∧ k_ ≠ gb297 ∧ k_ ≠ gb298 ∧ k_ ≠ gb299 ∧ k_ ≠ gb300) (.slice (some ad309) l1_2.length c1_2) l1_2):=⟨by rw [← hq_];exact (by (with_reducible repeat first|apply Kd.V_alloc|apply Kd.V_drewN|apply Kd.V_drew);exact HO_299002.out)⟩;have n2_ : Aside0 (Kd.V (Kd.int .i64) 2 wr w.heap.size (fun k_=>((P0_0_ k_ ∨ P1_2_ k_) ∨ w.heap.size ≤ k_) ∧ some k_ ≠ (u301000 : Value).ownBlock ∧ some k_ ≠ (.slice Ao42 t303.length co42 : Value).ownBlock ∧ k_ ≠ gb297 ∧ k_ ≠ gb298 ∧ k_ ≠ gb299 ∧ k_ ≠ gb300) (.slice (some ad309) l1_2.length c1_2) l1_2):=⟨by rw [← hq_];exact (by (with_reducible repeat first|apply Kd.V_alloc|apply Kd.V_drewN|apply Kd.V_drew);exact HO_30.out)⟩;have n3_ : Aside0 (Kd.N (Kd.slice 2 (Kd.int .i64)) 22 wr w.heap.size (fun k_=>((P0_0_ k_ ∨ P1_2_ k_) ∨ w.heap.size ≤ k_) ∧ some k_ ≠ (.slice Ao42 t303.length co42 : Value).ownBlock ∧ k_ ≠ gb297 ∧ k_ ≠ gb298 ∧ k_ ≠ gb299 ∧ k_ ≠ gb300) u301000 x301000_2):=⟨by rw [← hq_];exact (by (with_reducible repeat first|apply Kd.N_alloc|apply Kd.N_drewN|apply Kd.N_drew);exact HO_301000.out)⟩;have n4_ : Aside0 (Kd.R (Kd.int .i64) 2 wr w.heap.size (fun k_=>(w.heap.size ≤ k_)) (.slice Ao42 t303.length co42) t303):=⟨by rw [← hq_];exact (by (with_reducible repeat first|apply Kd.R_alloc|apply Kd.R_drewN|apply Kd.R_drew);exact HO_301001.out)⟩;have n5_ : Aside0 (wr.heap[gb297]? = some (.cells #[u298000] 44 (0,0))):=⟨by rw [← hq_];exact (by (with_reducible repeat first|apply bN|apply bD|apply bA);exact BK297.out)⟩;have n6_ : Aside0 (wr.heap[gb298]? = some (.cells #[.int .i64 a1_0,.int .i64 a1_1,.slice (some ad309) l1_2.length c1_2] 27 (0,0))):=⟨by rw [← hq_];exact (by (with_reducible repeat first|apply bN|apply bD|apply bA);exact BK298.out)⟩;have n7_ : Aside0 (wr.heap[gb299]? = some (.cells #[.slice none 0 0,.slice none 0 0,.bool x300002_2,.bool x300003_2] 92 (0,0))):=⟨by rw [← hq_];exact (by (with_reducible repeat first|apply bN|apply bD|apply bA);exact BK299.out)⟩;have n8_ : Aside0 (wr.heap[gb300]? = some (.cells #[u301000,.slice Ao42 t303.length co42,.bool true,.bool true] 92 (0,0))):=⟨by rw [← hq_];exact (by (with_reducible repeat first|apply bN|apply bD|apply bA);exact BK300.out)⟩;have n9_ : Aside0 (Below w.heap.size w wr):=⟨by rw [← hq_];exact (by repeat (first|(with_reducible first|exact HB.out|apply bL|apply bM|apply b1|refine bS ?_ GE297.out|refine bS ?_ GE298.out|refine bS ?_ GE299.out|refine bS ?_ GE300.out)|exact HB.out))⟩;clear HO_298000 HO_299002 HO_30 HO_301000 HO_301001 BK297 BK298 BK299 BK300 HB hq_;have HO_298000:=n0_;have HO_299002:=n1_;have HO_30:=n2_;have HO_301000:=n3_;have HO_301001:=n4_;have BK297:=n5_;have BK298:=n6_;have BK299:=n7_;have BK300:=n8_;have HB:=n9_;clear n0_ n1_ n2_ n3_ n4_ n5_ n6_ n7_ n8_ n9_;(try replace hcz71_0:=(bC BK300.out 0).trans (rfl : _ = some _));(try replace hcz71_1:=(bC BK300.out 1).trans (rfl : _ = some _));(try replace hcz71_2:=(bC BK300.out 2).trans (rfl : _ = some _));(try replace hcz71_3:=(bC BK300.out 3).trans (rfl : _ = some _));(try replace hfz71_0:=blk_frozen BK300.out 0);(try replace hfz71_1:=blk_frozen BK300.out 1);(try replace hfz71_2:=blk_frozen BK300.out 2);(try replace hfz71_3:=blk_frozen BK300.out 3)));obtain ⟨Ao72,co72,eo72⟩:=Kd.N_slice HO_301000.out;subst eo72;have p311 : 0 ≤ (t310 : Int):=of_decide_eq_true (by first|(with_reducible assumption)|assumption);have q311 : t310 < (x301000_2.length : Int):=of_decide_eq_true (by first|(with_reducible assumption)|assumption);obtain ⟨ad311,A311_0,c311_0,e311,hx311_0,hl311_0,hi311_0⟩:=at_L1 (Kd.N_reads' HO_301000.out).2.2 t310 p311 q311;cases e311;obtain ⟨ce311,hce311,hMe311,hcc311⟩:=Kd.N_get HO_301000.out [] t310 p311 (by first|exact q311|exact of_decide_eq_true (by first|(with_reducible assumption)|assumption)|(have e_:=(Kd.N_reads' HO_301000.out).1;omega));obtain ⟨ua311_0,uc311_0,rfl,ul311_0,ge311_0⟩:=Kd.FK_slice_open hMe311;have hv311_0:=hcc311 0 _ rfl;rw [Nat.add_zero,show ((Kd.slice 2 (Kd.int .i64))).sz = 1 from rfl,Nat.mul_one] at hv311_0;replace hv311_0:=Option.some.inj (hv311_0.symm.trans hx311_0);injection hv311_0 with hva_ hvn_ hvc_;rw [hva_] at ge311_0;rw [hvc_] at ul311_0;have HL311_0:=aK (show Kd.V (Kd.int .i64) 2 _ w.heap.size _ _ (rd_L1 x301000_2 t310) from Kd.V_mk ul311_0 ge311_0);clear hva_ hvn_ hvc_ ge311_0 ul311_0;clear hcc311 hce311;have HR311_0:=aK hi311_0;have HC311_0:=aK hl311_0;clear hi311_0 hl311_0;replace p311:=eq_true p311;replace q311:=eq_true q311)|((with_reducible refine gate_callee (f:=122) rfl ?_);refine goesL_ (some 48) rfl rfl Try.func122 (by kernel_rfl) rfl #[.slice A311_0 (rd_L1 x301000_2 t310).length c311_0,.int .i64 (rd l1_2 x32_2)] rfl (by (try simp only [mA,mC,mN]);first|done|rfl) ?_;(with_reducible refine (slices_Contains_int64_int64.calls k2 _ _ (rd_L1 x301000_2 t310) (rd l1_2 x32_2) true _ ?side1 ?side2 A58.out).mono ?_);(case side1=>repeat (first|exact (by repeat (first|(with_reducible exact HR311_0.out)|(with_reducible refine Kd.C_alloc ?_ _)|(with_reducible refine Kd.C_drewN ?_ _)|(with_reducible refine Kd.C_drew ?_)|exact HR311_0.out))|(with_reducible refine Kd.C_alloc ?_ _)|(with_reducible refine Kd.C_drewN ?_ _)|(with_reducible refine Kd.C_drew ?_)));(case side2=>exact HC311_0.out);rintro e w' ⟨rfl,⟨nd,rfl⟩⟩;refine ⟨_,rfl,?_⟩;(try (rw [drewN_self wr];generalize hq_ : World.drewN wr _ = wr;have n0_ : Aside0 (Kd.V (Kd.int .i64) 2 wr w.heap.size (fun k_=>((P0_0_ k_ ∨ P1_2_ k_) ∨ w.heap.size ≤ k_) ∧ some k_ ≠ (.slice (some ad311) x301000_2.length co72 : Value).ownBlock ∧ some k_ ≠ (.slice Ao42 t303.length co42 : Value).ownBlock ∧ k_ ≠ gb297 ∧ k_ ≠ gb298 ∧ k_ ≠ gb299 ∧ k_ ≠ gb300) (.slice A311_0 (rd_L1 x301000_2 t310).length c311_0) (rd_L1 x301000_2 t310)):=⟨by rw [← hq_];exact (by (with_reducible repeat first|apply Kd.V_alloc|apply Kd.V_drewN|apply Kd.V_drew);exact Kd.V_mono HL311_0.out (fun _ hk=>⟨hk.1.1,⟨hk.2,⟨hk.1.2.1,⟨hk.1.2.2.1,⟨hk.1.2.2.2.1,⟨hk.1.2.2.2.2.1,hk.1.2.2.2.2.2⟩⟩⟩⟩⟩⟩))⟩;have n1_ : Aside0 (Kd.V (Kd.slice 2 (Kd.int .i64)) 22 wr w.heap.size (fun k_=>((P0_0_ k_ ∨ P1_2_ k_) ∨ w.heap.size ≤ k_) ∧ some k_ ≠ (.slice (some ad311) x301000_2.length co72 : Value).ownBlock ∧ some k_ ≠ (.slice Ao42 t303.length co42 : Value).ownBlock ∧ k_ ≠ gb297 ∧ k_ ≠ gb298 ∧ k_ ≠ gb299 ∧ k_ ≠ gb300) u298000 x298000_2):=⟨by rw [← hq_];exact (by (with_reducible repeat first|apply Kd.V_alloc|apply Kd.V_drewN|apply Kd.V_drew);exact HO_298000.out)⟩;have n2_ : Aside0 (Kd.V (Kd.int .i64) 2 wr w.heap.size (fun k_=>((P0_0_ k_ ∨ P1_2_ k_) ∨ w.heap.size ≤ k_) ∧ some k_ ≠ (.slice (some ad311) x301000_2.length co72 : Value).ownBlock ∧ some k_ ≠ (.slice Ao42 t303.length co42 : Value).ownBlock ∧ k_ ≠ gb297 ∧ k_ ≠ gb298 ∧ k_ ≠ gb299 ∧ k_ ≠ gb300) (.slice (some ad309) l1_2.length c1_2) l1_2):=⟨by rw [← hq_];exact (by (with_reducible repeat first|apply Kd.V_alloc|apply Kd.V_drewN|apply Kd.V_drew);exact HO_299002.out)⟩;have n3_ : Aside0 (Kd.V (Kd.int .i64) 2 wr w.heap.size (fun k_=>((P0_0_ k_ ∨ P1_2_ k_) ∨ w.heap.size ≤ k_) ∧ some k_ ≠ (.slice (some ad311) x301000_2.length co72 : Value).ownBlock ∧ some k_ ≠ (.slice Ao42 t303.length co42 : Value).ownBlock ∧ k_ ≠ gb297 ∧ k_ ≠ gb298 ∧ k_ ≠ gb299 ∧ k_ ≠ gb300) (.slice (some ad309) l1_2.length c1_2) l1_2):=⟨by rw [← hq_];exact (by (with_reducible repeat first|apply Kd.V_alloc|apply Kd.V_drewN|apply Kd.V_drew);exact HO_30.out)⟩;have n4_ : Aside0 (Kd.N (Kd.slice 2 (Kd.int .i64)) 22 wr w.heap.size (fun k_=>((P0_0_ k_ ∨ P1_2_ k_) ∨ w.heap.size ≤ k_) ∧ some k_ ≠ (.slice Ao42 t303.length co42 : Value).ownBlock ∧ k_ ≠ gb297 ∧ k_ ≠ gb298 ∧ k_ ≠ gb299 ∧ k_ ≠ gb300) (.slice (some ad311) x301000_2.length co72) x301000_2):=⟨by rw [← hq_];exact (by (with_reducible repeat first|apply Kd.N_alloc|apply Kd.N_drewN|apply Kd.N_drew);exact HO_301000.out)⟩;have n5_ : Aside0 (Kd.R (Kd.int .i64) 2 wr w.heap.size (fun k_=>(w.heap.size ≤ k_)) (.slice Ao42 t303.length co42) t303):=⟨by rw [← hq_];exact (by (with_reducible repeat first|apply Kd.R_alloc|apply Kd.R_drewN|apply Kd.R_drew);exact HO_301001.out)⟩;have n6_ : Aside0 (wr.heap[gb297]? = some (.cells #[u298000] 44 (0,0))):=⟨by rw [← hq_];exact (by (with_reducible repeat first|apply bN|apply bD|apply bA);exact BK297.out)⟩;have n7_ : Aside0 (wr.heap[gb298]? = some (.cells #[.int .i64 a1_0,.int .i64 a1_1,.slice (some ad309) l1_2.length c1_2] 27 (0,0))):=⟨by rw [← hq_];exact (by (with_reducible repeat first|apply bN|apply bD|apply bA);exact BK298.out)⟩;have n8_ : Aside0 (wr.heap[gb299]? = some (.cells #[.slice none 0 0,.slice none 0 0,.bool x300002_2,.bool x300003_2] 92 (0,0))):=⟨by rw [← hq_];exact (by (with_reducible repeat first|apply bN|apply bD|apply bA);exact BK299.out)⟩;have n9_ : Aside0 (wr.heap[gb300]? = some (.cells #[.slice (some ad311) x301000_2.length co72,.slice Ao42 t303.length co42,.bool true,.bool true] 92 (0,0))):=⟨by rw [← hq_];exact (by (with_reducible repeat first|apply bN|apply bD|apply bA);exact BK300.out)⟩;have n10_ : Aside0 (Below w.heap.size w wr):=⟨by rw [← hq_];exact (by repeat (first|(with_reducible first|exact HB.out|apply bL|apply bM|apply b1|refine bS ?_ GE297.out|refine bS ?_ GE298.out|refine bS ?_ GE299.out|refine bS ?_ GE300.out)|exact HB.out))⟩;have n11_ : Aside0 (Kd.C (Kd.int .i64) wr A311_0 (rd_L1 x301000_2 t310).length (rd_L1 x301000_2 t310)):=⟨by rw [← hq_];exact (by repeat (first|(with_reducible exact HR311_0.out)|(with_reducible refine Kd.C_alloc ?_ _)|(with_reducible refine Kd.C_drewN ?_ _)|(with_reducible refine Kd.C_drew ?_)|exact HR311_0.out))⟩;clear HL311_0 HO_298000 HO_299002 HO_30 HO_301000 HO_301001 BK297 BK298 BK299 BK300 HB HR311_0 hq_;have HL311_0:=n0_;have HO_298000:=n1_;have HO_299002:=n2_;have HO_30:=n3_;have HO_301000:=n4_;have HO_301001:=n5_;have BK297:=n6_;have BK298:=n7_;have BK299:=n8_;have BK300:=n9_;have HB:=n10_;have HR311_0:=n11_;clear n0_ n1_ n2_ n3_ n4_ n5_ n6_ n7_ n8_ n9_ n10_ n11_;(try replace hcz71_0:=(bC BK300.out 0).trans (rfl : _ = some _));(try replace hcz71_1:=(bC BK300.out 1).trans (rfl : _ = some _));(try replace hcz71_2:=(bC BK300.out 2).trans (rfl : _ = some _));(try replace hcz71_3:=(bC BK300.out 3).trans (rfl : _ = some _));(try replace hfz71_0:=blk_frozen BK300.out 0);(try replace hfz71_1:=blk_frozen BK300.out 1);(try replace hfz71_2:=blk_frozen BK300.out 2);(try replace hfz71_3:=blk_frozen BK300.out 3)));have hnb73:=NB298_297.out;have hnc73:=NB297_298.out;have hnb74:=NB298_299.out;have hnc74:=NB299_298.out;have hcz75_0 : wr.cell? ⟨gb298,0,none⟩ = some (.int .i64 a1_0):=(bC BK298.out 0).trans rfl;have hcz75_1 : wr.cell? ⟨gb298,1,none⟩ = some (.int .i64 a1_1):=(bC BK298.out 1).trans rfl;have hcz75_2 : wr.cell? ⟨gb298,2,none⟩ = some (.slice (some ad309) l1_2.length c1_2):=(bC BK298.out 2).trans rfl;have hfz75_0:=blk_frozen BK298.out 0;have hfz75_1:=blk_frozen BK298.out 1;have hfz75_2:=blk_frozen BK298.out 2;have q76 : (x32_2 : Int) ≤ ((l1_2.length : Int) : Int):=of_decide_eq_true (by first|(with_reducible assumption)|assumption);obtain ⟨i076,hi076,_,hsz76,_⟩:=info_parts info2;have hroom76 : l1_2.length ≤ c1_2:=(Kd.V_reads' HO_299002.out).2.1;have hC76 : Kd.F (Kd.int .i64) _ _ (some ad309) l1_2.length l1_2:=(Kd.V_at (base:=w.heap.size) HO_299002.out).2.2;have hcut76:=cut_to (P:=Try.prog) 22 2 .i64 Try.underlying22 hi076 (some ad309) l1_2.length c1_2 x32_2 (of_decide_eq_true (by first|(with_reducible assumption)|assumption)) q76 hroom76;have hr76:=Kd.F_take (m:=(x32_2 : Int).toNat) hC76 (by omega);have hy76 : y313.length = (x32_2 : Int).toNat:=(by rw [Ny313.out,List.length_take];omega);rw [← Ny313.out] at hr76;rw [← hy76] at hcut76;have HO317:=aK (show Kd.V (Kd.int .i64) 2 _ w.heap.size _ (.slice (some ad309) y313.length c1_2) y313 from Kd.V_mk (by omega) hr76);have HC317:=aK (show y313.length ≤ c1_2 from by omega);clear hr76 hC76 hroom76 hi076 hsz76;have KY76:=aK hy76;clear hy76;replace q76:=eq_true q76)|(go_at_call 117;(with_reducible refine (impl_trickAt.calls (fun k_=>(((P0_0_ k_ ∨ P1_2_ k_) ∨ w.heap.size ≤ k_) ∧ (some k_ ≠ (.slice (some ad311) x301000_2.length co72 : Value).ownBlock ∧ (some k_ ≠ (.slice Ao42 t303.length co42 : Value).ownBlock ∧ (k_ ≠ gb297 ∧ (k_ ≠ gb298 ∧ (k_ ≠ gb299 ∧ k_ ≠ gb300))))))) _ _ y313 t318 _ ?side1 A63.out).mono ?_);(case side1=>exact HO317.out);rintro e w77 ⟨v319,rfl,ho0,hb⟩;have n0_:=aK (Kd.V_below (by (with_reducible repeat first|apply Kd.V_alloc|apply Kd.V_drewN|apply Kd.V_drew);exact HO_30.out) hb);have n1_:=aK (Kd.V_below (by (with_reducible repeat first|apply Kd.V_alloc|apply Kd.V_drewN|apply Kd.V_drew);exact HO_298000.out) hb);have n2_:=aK (Kd.V_below (by (with_reducible repeat first|apply Kd.V_alloc|apply Kd.V_drewN|apply Kd.V_drew);exact HO_299002.out) hb);have n3_:=aK (Kd.N_below (by (with_reducible repeat first|apply Kd.N_alloc|apply Kd.N_drewN|apply Kd.N_drew);exact HO_301000.out) hb);have n4_:=aK (Kd.R_below (by (with_reducible repeat first|apply Kd.R_alloc|apply Kd.R_drewN|apply Kd.R_drew);exact HO_301001.out) hb);have n5_:=aK (Kd.V_below (by (with_reducible repeat first|apply Kd.V_alloc|apply Kd.V_drewN|apply Kd.V_drew);exact HL311_0.out) hb);have n6_:=aK (Kd.V_below (by (with_reducible repeat first|apply Kd.V_alloc|apply Kd.V_drewN|apply Kd.V_drew);exact HO317.out) hb);have n7_:=aK (Kd.V_lower (Kd.V_mono (ok':=fun k_=>((P0_0_ k_ ∨ P1_2_ k_) ∨ w.heap.size ≤ k_) ∧ some k_ ≠ (.slice (some ad311) x301000_2.length co72 : Value).ownBlock ∧ some k_ ≠ (.slice Ao42 t303.length co42 : Value).ownBlock ∧ k_ ≠ gb297 ∧ k_ ≠ gb298 ∧ k_ ≠ gb299 ∧ k_ ≠ gb300) ho0 (fun k_ hk_=>⟨Or.elim hk_ (fun hs_=>hs_.1) (fun hn_=>(.inr (Nat.le_trans (below_size (by repeat (first|(with_reducible first|exact HB.out|apply bL|apply bM|apply b1|refine bS ?_ GE297.out|refine bS ?_ GE298.out|refine bS ?_ GE299.out|refine bS ?_ GE300.out)|exact HB.out))) hn_))),Or.elim hk_ (fun hs_=>hs_.2.1) (fun hn_=>(Kd.fresh' (Kd.N_lt (by (with_reducible repeat first|apply Kd.N_alloc|apply Kd.N_drewN|apply Kd.N_drew);exact HO_301000.out)) k_ hn_)),Or.elim hk_ (fun hs_=>hs_.2.2.1) (fun hn_=>(Kd.fresh' (Kd.R_lt (by (with_reducible repeat first|apply Kd.R_alloc|apply Kd.R_drewN|apply Kd.R_drew);exact HO_301001.out)) k_ hn_)),Or.elim hk_ (fun hs_=>hs_.2.2.2.1) (fun hn_=>(Kd.freshB (g:=gb297) (o:=.cells #[u298000] 44 (0,0)) (by (with_reducible repeat first|apply bN|apply bD|apply bA);exact BK297.out) k_ hn_)),Or.elim hk_ (fun hs_=>hs_.2.2.2.2.1) (fun hn_=>(Kd.freshB (g:=gb298) (o:=.cells #[.int .i64 a1_0,.int .i64 a1_1,.slice (some ad309) l1_2.length c1_2] 27 (0,0)) (by (with_reducible repeat first|apply bN|apply bD|apply bA);exact BK298.out) k_ hn_)),Or.elim hk_ (fun hs_=>hs_.2.2.2.2.2.1) (fun hn_=>(Kd.freshB (g:=gb299) (o:=.cells #[.slice none 0 0,.slice none 0 0,.bool x300002_2,.bool x300003_2] 92 (0,0)) (by (with_reducible repeat first|apply bN|apply bD|apply bA);exact BK299.out) k_ hn_)),Or.elim hk_ (fun hs_=>hs_.2.2.2.2.2.2) (fun hn_=>(Kd.freshB (g:=gb300) (o:=.cells #[.slice (some ad311) x301000_2.length co72,.slice Ao42 t303.length co42,.bool true,.bool true] 92 (0,0)) (by (with_reducible repeat first|apply bN|apply bD|apply bA);exact BK300.out) k_ hn_))⟩)) (below_size (by repeat (first|(with_reducible first|exact HB.out|apply bL|apply bM|apply b1|refine bS ?_ GE297.out|refine bS ?_ GE298.out|refine bS ?_ GE299.out|refine bS ?_ GE300.out)|exact HB.out))));have n8_:=aK (bB (by (with_reducible repeat first|apply bN|apply bD|apply bA);exact BK297.out) hb);have n9_:=aK (bB (by (with_reducible repeat first|apply bN|apply bD|apply bA);exact BK298.out) hb);have n10_:=aK (bB (by (with_reducible repeat first|apply bN|apply bD|apply bA);exact BK299.out) hb);have n11_:=aK (bB (by (with_reducible repeat first|apply bN|apply bD|apply bA);exact BK300.out) hb);have n12_:=aK (Kd.C_below (by repeat (first|(with_reducible exact HR311_0.out)|(with_reducible refine Kd.C_alloc ?_ _)|(with_reducible refine Kd.C_drewN ?_ _)|(with_reducible refine Kd.C_drew ?_)|exact HR311_0.out)) hb);have n13_:=aK (below_step (by repeat (first|(with_reducible first|exact HB.out|apply bL|apply bM|apply b1|refine bS ?_ GE297.out|refine bS ?_ GE298.out|refine bS ?_ GE299.out|refine bS ?_ GE300.out)|exact HB.out)) hb);clear HO_30;clear HO_298000;clear HO_299002;clear HO_301000;clear HO_301001;clear HL311_0;clear HO317;clear BK297;clear BK298;clear BK299;clear BK300;clear HR311_0;clear HB;have HO_30:=n0_;have HO_298000:=n1_;have HO_299002:=n2_;have HO_301000:=n3_;have HO_301001:=n4_;have HL311_0:=n5_;have HO317:=n6_;have HO320:=n7_;have BK297:=n8_;have BK298:=n9_;have BK299:=n10_;have BK300:=n11_;have HR311_0:=n12_;have HB:=n13_;clear n0_ n1_ n2_ n3_ n4_ n5_ n6_ n7_ n8_ n9_ n10_ n11_ n12_ n13_;(try clear hb);(try clear hb2);(try clear hk);(try clear hi);(try clear ho0);obtain ⟨Ao78,co78,eo78⟩:=Kd.V_slice HO320.out;subst eo78)|(go_at_call 116;(with_reducible refine (impl_follow.calls k2 (fun k_=>(((P0_0_ k_ ∨ P1_2_ k_) ∨ w.heap.size ≤ k_) ∧ (some k_ ≠ (.slice (some ad311) x301000_2.length co72 : Value).ownBlock ∧ (some k_ ≠ (.slice Ao42 t303.length co42 : Value).ownBlock ∧ (k_ ≠ gb297 ∧ (k_ ≠ gb298 ∧ (k_ ≠ gb299 ∧ k_ ≠ gb300))))))) _ _ (rd_L1 x301000_2 t310) _ _ t318 t321 _ ?side1 ?side2 ?side3 A64.out).mono ?_);(case side1=>exact HL311_0.out);(case side2=>repeat (first|exact (Kd.V_reads' HO320.out).2.2|(with_reducible refine Kd.C_alloc ?_ _)|(with_reducible refine Kd.C_drewN ?_ _)|(with_reducible refine Kd.C_drew ?_)));(case side3=>exact (Kd.V_reads' HO320.out).2.1);rintro e w79 ⟨v322,rfl,ho0,hb⟩;have n0_:=aK (Kd.V_below (by (with_reducible repeat first|apply Kd.V_alloc|apply Kd.V_drewN|apply Kd.V_drew);exact HO_30.out) hb);have n1_:=aK (Kd.V_below (by (with_reducible repeat first|apply Kd.V_alloc|apply Kd.V_drewN|apply Kd.V_drew);exact HO_298000.out) hb);have n2_:=aK (Kd.V_below (by (with_reducible repeat first|apply Kd.V_alloc|apply Kd.V_drewN|apply Kd.V_drew);exact HO_299002.out) hb);have n3_:=aK (Kd.N_below (by (with_reducible repeat first|apply Kd.N_alloc|apply Kd.N_drewN|apply Kd.N_drew);exact HO_301000.out) hb);have n4_:=aK (Kd.R_below (by (with_reducible repeat first|apply Kd.R_alloc|apply Kd.R_drewN|apply Kd.R_drew);exact HO_301001.out) hb);have n5_:=aK (Kd.V_below (by (with_reducible repeat first|apply Kd.V_alloc|apply Kd.V_drewN|apply Kd.V_drew);exact HL311_0.out) hb);have n6_:=aK (Kd.V_below (by (with_reducible repeat first|apply Kd.V_alloc|apply Kd.V_drewN|apply Kd.V_drew);exact HO317.out) hb);have n7_:=aK (Kd.V_below (by (with_reducible repeat first|apply Kd.V_alloc|apply Kd.V_drewN|apply Kd.V_drew);exact HO320.out) hb);have n8_:=aK (Kd.V_lower (Kd.V_mono (ok':=fun k_=>((P0_0_ k_ ∨ P1_2_ k_) ∨ w.heap.size ≤ k_) ∧ some k_ ≠ (.slice (some ad311) x301000_2.length co72 : Value).ownBlock ∧ some k_ ≠ (.slice Ao42 t303.length co42 : Value).ownBlock ∧ k_ ≠ gb297 ∧ k_ ≠ gb298 ∧ k_ ≠ gb299 ∧ k_ ≠ gb300) ho0 (fun k_ hk_=>⟨Or.elim hk_ (fun hs_=>hs_.1) (fun hn_=>(.inr (Nat.le_trans (below_size (by repeat (first|(with_reducible first|exact HB.out|apply bL|apply bM|apply b1|refine bS ?_ GE297.out|refine bS ?_ GE298.out|refine bS ?_ GE299.out|refine bS ?_ GE300.out)|exact HB.out))) hn_))),Or.elim hk_ (fun hs_=>hs_.2.1) (fun hn_=>(Kd.fresh' (Kd.N_lt (by (with_reducible repeat first|apply Kd.N_alloc|apply Kd.N_drewN|apply Kd.N_drew);exact HO_301000.out)) k_ hn_)),Or.elim hk_ (fun hs_=>hs_.2.2.1) (fun hn_=>(Kd.fresh' (Kd.R_lt (by (with_reducible repeat first|apply Kd.R_alloc|apply Kd.R_drewN|apply Kd.R_drew);exact HO_301001.out)) k_ hn_)),Or.elim hk_ (fun hs_=>hs_.2.2.2.1) (fun hn_=>(Kd.freshB (g:=gb297) (o:=.cells #[u298000] 44 (0,0)) (by (with_reducible repeat first|apply bN|apply bD|apply bA);exact BK297.out) k_ hn_)),Or.elim hk_ (fun hs_=>hs_.2.2.2.2.1) (fun hn_=>(Kd.freshB (g:=gb298) (o:=.cells #[.int .i64 a1_0,.int .i64 a1_1,.slice (some ad309) l1_2.length c1_2] 27 (0,0)) (by (with_reducible repeat first|apply bN|apply bD|apply bA);exact BK298.out) k_ hn_)),Or.elim hk_ (fun hs_=>hs_.2.2.2.2.2.1) (fun hn_=>(Kd.freshB (g:=gb299) (o:=.cells #[.slice none 0 0,.slice none 0 0,.bool x300002_2,.bool x300003_2] 92 (0,0)) (by (with_reducible repeat first|apply bN|apply bD|apply bA);exact BK299.out) k_ hn_)),Or.elim hk_ (fun hs_=>hs_.2.2.2.2.2.2) (fun hn_=>(Kd.freshB (g:=gb300) (o:=.cells #[.slice (some ad311) x301000_2.length co72,.slice Ao42 t303.length co42,.bool true,.bool true] 92 (0,0)) (by (with_reducible repeat first|apply bN|apply bD|apply bA);exact BK300.out) k_ hn_))⟩)) (below_size (by repeat (first|(with_reducible first|exact HB.out|apply bL|apply bM|apply b1|refine bS ?_ GE297.out|refine bS ?_ GE298.out|refine bS ?_ GE299.out|refine bS ?_ GE300.out)|exact HB.out))));have n9_:=aK (bB (by (with_reducible repeat first|apply bN|apply bD|apply bA);exact BK297.out) hb);have n10_:=aK (bB (by (with_reducible repeat first|apply bN|apply bD|apply bA);exact BK298.out) hb);have n11_:=aK (bB (by (with_reducible repeat first|apply bN|apply bD|apply bA);exact BK299.out) hb);have n12_:=aK (bB (by (with_reducible repeat first|apply bN|apply bD|apply bA);exact BK300.out) hb);have n13_:=aK (Kd.C_below (by repeat (first|(with_reducible exact HR311_0.out)|(with_reducible refine Kd.C_alloc ?_ _)|(with_reducible refine Kd.C_drewN ?_ _)|(with_reducible refine Kd.C_drew ?_)|exact HR311_0.out)) hb);have n14_:=aK (below_step (by repeat (first|(with_reducible first|exact HB.out|apply bL|apply bM|apply b1|refine bS ?_ GE297.out|refine bS ?_ GE298.out|refine bS ?_ GE299.out|refine bS ?_ GE300.out)|exact HB.out)) hb);clear HO_30;clear HO_298000;clear HO_299002;clear HO_301000;clear HO_301001;clear HL311_0;clear HO317;clear HO320;clear BK297;clear BK298;clear BK299;clear BK300;clear HR311_0;clear HB;have HO_30:=n0_;have HO_298000:=n1_;have HO_299002:=n2_;have HO_301000:=n3_;have HO_301001:=n4_;have HL311_0:=n5_;have HO317:=n6_;have HO320:=n7_;have HO323:=n8_;have BK297:=n9_;have BK298:=n10_;have BK299:=n11_;have BK300:=n12_;have HR311_0:=n13_;have HB:=n14_;clear n0_ n1_ n2_ n3_ n4_ n5_ n6_ n7_ n8_ n9_ n10_ n11_ n12_ n13_ n14_;(try clear hb);(try clear hb2);(try clear hk);(try clear hi);(try clear ho0);obtain ⟨Ao80,co80,eo80⟩:=Kd.V_slice HO323.out;subst eo80)|(go_at_call 122;(with_reducible refine (slices_Contains_int64_int64.calls k2 _ _ t321 (rd l1_2 x32_2) t324 _ ?side1 ?side2 A65.out).mono ?_);(case side1=>repeat (first|exact (Kd.V_reads' HO323.out).2.2|(with_reducible refine Kd.C_alloc ?_ _)|(with_reducible refine Kd.C_drewN ?_ _)|(with_reducible refine Kd.C_drew ?_)));(case side2=>exact (Kd.V_reads' HO323.out).2.1);rintro e w' ⟨rfl,⟨nd,rfl⟩⟩;(try (rw [drewN_self w79];generalize hq_ : World.drewN w79 _ = w79;have n0_ : Aside0 (Kd.V (Kd.int .i64) 2 w79 w.heap.size (fun k_=>((P0_0_ k_ ∨ P1_2_ k_) ∨ w.heap.size ≤ k_) ∧ some k_ ≠ (.slice (some ad311) x301000_2.length co72 : Value).ownBlock ∧ some k_ ≠ (.slice Ao42 t303.length co42 : Value).ownBlock ∧ k_ ≠ gb297 ∧ k_ ≠ gb298 ∧ k_ ≠ gb299 ∧ k_ ≠ gb300) (.slice A311_0 (rd_L1 x301000_2 t310).length c311_0) (rd_L1 x301000_2 t310)):=⟨by rw [← hq_];exact (by (with_reducible repeat first|apply Kd.V_alloc|apply Kd.V_drewN|apply Kd.V_drew);exact HL311_0.out)⟩;have n1_ : Aside0 (Kd.V (Kd.int .i64) 2 w79 w.heap.size (fun k_=>((P0_0_ k_ ∨ P1_2_ k_) ∨ w.heap.size ≤ k_) ∧ some k_ ≠ (.slice (some ad311) x301000_2.length co72 : Value).ownBlock ∧ some k_ ≠ (.slice Ao42 t303.length co42 : Value).ownBlock ∧ k_ ≠ gb297 ∧ k_ ≠ gb298 ∧ k_ ≠ gb299 ∧ k_ ≠ gb300) (.slice (some ad309) y313.length c1_2) y313):=⟨by rw [← hq_];exact (by (with_reducible repeat first|apply Kd.V_alloc|apply Kd.V_drewN|apply Kd.V_drew);exact HO317.out)⟩;have n2_ : Aside0 (Kd.V (Kd.int .i64) 2 w79 w.heap.size (fun k_=>((P0_0_ k_ ∨ P1_2_ k_) ∨ w.heap.size ≤ k_) ∧ some k_ ≠ (.slice (some ad311) x301000_2.length co72 : Value).ownBlock ∧ some k_ ≠ (.slice Ao42 t303.length co42 : Value).ownBlock ∧ k_ ≠ gb297 ∧ k_ ≠ gb298 ∧ k_ ≠ gb299 ∧ k_ ≠ gb300) (.slice Ao78 t318.length co78) t318):=⟨by rw [← hq_];exact (by (with_reducible repeat first|apply Kd.V_alloc|apply Kd.V_drewN|apply Kd.V_drew);exact HO320.out)⟩;have n3_ : Aside0 (Kd.V (Kd.int .i64) 2 w79 w.heap.size (fun k_=>((P0_0_ k_ ∨ P1_2_ k_) ∨ w.heap.size ≤ k_) ∧ some k_ ≠ (.slice (some ad311) x301000_2.length co72 : Value).ownBlock ∧ some k_ ≠ (.slice Ao42 t303.length co42 : Value).ownBlock ∧ k_ ≠ gb297 ∧ k_ ≠ gb298 ∧ k_ ≠ gb299 ∧ k_ ≠ gb300) (.slice Ao80 t321.length co80) t321):=⟨by rw [← hq_];exact (by (with_reducible repeat first|apply Kd.V_alloc|apply Kd.V_drewN|apply Kd.V_drew);exact HO323.out)⟩;have n4_ : Aside0 (Kd.V (Kd.slice 2 (Kd.int .i64)) 22 w79 w.heap.size (fun k_=>((P0_0_ k_ ∨ P1_2_ k_) ∨ w.heap.size ≤ k_) ∧ some k_ ≠ (.slice (some ad311) x301000_2.length co72 : Value).ownBlock ∧ some k_ ≠ (.slice Ao42 t303.length co42 : Value).ownBlock ∧ k_ ≠ gb297 ∧ k_ ≠ gb298 ∧ k_ ≠ gb299 ∧ k_ ≠ gb300) u298000 x298000_2):=⟨by rw [← hq_];exact (by (with_reducible repeat first|apply Kd.V_alloc|apply Kd.V_drewN|apply Kd.V_drew);exact HO_298000.out)⟩;have n5_ : Aside0 (Kd.V (Kd.int .i64) 2 w79 w.heap.size (fun k_=>((P0_0_ k_ ∨ P1_2_ k_) ∨ w.heap.size ≤ k_) ∧ some k_ ≠ (.slice (some ad311) x301000_2.length co72 : Value).ownBlock ∧ some k_ ≠ (.slice Ao42 t303.length co42 : Value).ownBlock ∧ k_ ≠ gb297 ∧ k_ ≠ gb298 ∧ k_ ≠ gb299 ∧ k_ ≠ gb300) (.slice (some ad309) l1_2.length c1_2) l1_2):=⟨by rw [← hq_];exact (by (with_reducible repeat first|apply Kd.V_alloc|apply Kd.V_drewN|apply Kd.V_drew);exact HO_299002.out)⟩;have n6_ : Aside0 (Kd.V (Kd.int .i64) 2 w79 w.heap.size (fun k_=>((P0_0_ k_ ∨ P1_2_ k_) ∨ w.heap.size ≤ k_) ∧ some k_ ≠ (.slice (some ad311) x301000_2.length co72 : Value).ownBlock ∧ some k_ ≠ (.slice Ao42 t303.length co42 : Value).ownBlock ∧ k_ ≠ gb297 ∧ k_ ≠ gb298 ∧ k_ ≠ gb299 ∧ k_ ≠ gb300) (.slice (some ad309) l1_2.length c1_2) l1_2):=⟨by rw [← hq_];exact (by (with_reducible repeat first|apply Kd.V_alloc|apply Kd.V_drewN|apply Kd.V_drew);exact HO_30.out)⟩;have n7_ : Aside0 (Kd.N (Kd.slice 2 (Kd.int .i64)) 22 w79 w.heap.size (fun k_=>((P0_0_ k_ ∨ P1_2_ k_) ∨ w.heap.size ≤ k_) ∧ some k_ ≠ (.slice Ao42 t303.length co42 : Value).ownBlock ∧ k_ ≠ gb297 ∧ k_ ≠ gb298 ∧ k_ ≠ gb299 ∧ k_ ≠ gb300) (.slice (some ad311) x301000_2.length co72) x301000_2):=⟨by rw [← hq_];exact (by (with_reducible repeat first|apply Kd.N_alloc|apply Kd.N_drewN|apply Kd.N_drew);exact HO_301000.out)⟩;have n8_ : Aside0 (Kd.R (Kd.int .i64) 2 w79 w.heap.size (fun k_=>(w.heap.size ≤ k_)) (.slice Ao42 t303.length co42) t303):=⟨by rw [← hq_];exact (by (with_reducible repeat first|apply Kd.R_alloc|apply Kd.R_drewN|apply Kd.R_drew);exact HO_301001.out)⟩;have n9_ : Aside0 (w79.heap[gb297]? = some (.cells #[u298000] 44 (0,0))):=⟨by rw [← hq_];exact (by (with_reducible repeat first|apply bN|apply bD|apply bA);exact BK297.out)⟩;have n10_ : Aside0 (w79.heap[gb298]? = some (.cells #[.int .i64 a1_0,.int .i64 a1_1,.slice (some ad309) l1_2.length c1_2] 27 (0,0))):=⟨by rw [← hq_];exact (by (with_reducible repeat first|apply bN|apply bD|apply bA);exact BK298.out)⟩;have n11_ : Aside0 (w79.heap[gb299]? = some (.cells #[.slice none 0 0,.slice none 0 0,.bool x300002_2,.bool x300003_2] 92 (0,0))):=⟨by rw [← hq_];exact (by (with_reducible repeat first|apply bN|apply bD|apply bA);exact BK299.out)⟩;have n12_ : Aside0 (w79.heap[gb300]? = some (.cells #[.slice (some ad311) x301000_2.length co72,.slice Ao42 t303.length co42,.bool true,.bool true] 92 (0,0))):=⟨by rw [← hq_];exact (by (with_reducible repeat first|apply bN|apply bD|apply bA);exact BK300.out)⟩;have n13_ : Aside0 (Below w.heap.size w w79):=⟨by rw [← hq_];exact (by repeat (first|(with_reducible first|exact HB.out|apply bL|apply bM|apply b1|refine bS ?_ GE297.out|refine bS ?_ GE298.out|refine bS ?_ GE299.out|refine bS ?_ GE300.out)|exact HB.out))⟩;have n14_ : Aside0 (Kd.C (Kd.int .i64) w79 A311_0 (rd_L1 x301000_2 t310).length (rd_L1 x301000_2 t310)):=⟨by rw [← hq_];exact (by repeat (first|(with_reducible exact HR311_0.out)|(with_reducible refine Kd.C_alloc ?_ _)|(with_reducible refine Kd.C_drewN ?_ _)|(with_reducible refine Kd.C_drew ?_)|exact HR311_0.out))⟩;clear HL311_0 HO317 HO320 HO323 HO_298000 HO_299002 HO_30 HO_301000 HO_301001 BK297 BK298 BK299 BK300 HB HR311_0 hq_;have HL311_0:=n0_;have HO317:=n1_;have HO320:=n2_;have HO323:=n3_;have HO_298000:=n4_;have HO_299002:=n5_;have HO_30:=n6_;have HO_301000:=n7_;have HO_301001:=n8_;have BK297:=n9_;have BK298:=n10_;have BK299:=n11_;have BK300:=n12_;have HB:=n13_;have HR311_0:=n14_;clear n0_ n1_ n2_ n3_ n4_ n5_ n6_ n7_ n8_ n9_ n10_ n11_ n12_ n13_ n14_;(try replace hcz71_0:=(bC BK300.out 0).trans (rfl : _ = some _));(try replace hcz71_1:=(bC BK300.out 1).trans (rfl : _ = some _));(try replace hcz71_2:=(bC BK300.out 2).trans (rfl : _ = some _));(try replace hcz71_3:=(bC BK300.out 3).trans (rfl : _ = some _));(try replace hfz71_0:=blk_frozen BK300.out 0);(try replace hfz71_1:=blk_frozen BK300.out 1);(try replace hfz71_2:=blk_frozen BK300.out 2);(try replace hfz71_3:=blk_frozen BK300.out 3)));have hcz81_0 : w79.cell? ⟨gb300,0,none⟩ = some (.slice (some ad311) x301000_2.length co72):=(bC BK300.out 0).trans rfl;have hcz81_1 : w79.cell? ⟨gb300,1,none⟩ = some (.slice Ao42 t303.length co42):=(bC BK300.out 1).trans rfl;have hcz81_2 : w79.cell? ⟨gb300,2,none⟩ = some (.bool true):=(bC BK300.out 2).trans rfl;have hcz81_3 : w79.cell? ⟨gb300,3,none⟩ = some (.bool true):=(bC BK300.out 3).trans rfl;have hfz81_0:=blk_frozen BK300.out 0;have hfz81_1:=blk_frozen BK300.out 1;have hfz81_2:=blk_frozen BK300.out 2;have hfz81_3:=blk_frozen BK300.out 3))
              have n0_ : Aside0 (Kd.V (Kd.int .i64) 2 (w79.setCell ⟨gb300,3,none⟩ (.bool t324)) w.heap.size (fun k_=>((P0_0_ k_ ∨ P1_2_ k_) ∨ w.heap.size ≤ k_) ∧ some k_ ≠ (.slice (some ad311) x301000_2.length co72 : Value).ownBlock ∧ some k_ ≠ (.slice Ao42 t303.length co42 : Value).ownBlock ∧ k_ ≠ gb297 ∧ k_ ≠ gb298 ∧ k_ ≠ gb299 ∧ k_ ≠ gb300) (.slice (some ad309) l1_2.length c1_2) l1_2):=⟨by (with_reducible repeat first|apply Kd.V_alloc|apply Kd.V_drewN|apply Kd.V_drew);exact Kd.V_mono (Kd.V_far (p:=⟨gb300,3,none⟩) (Kd.V_mono HO_30.out (fun k_ hk=>(⟨hk,hk.2.2.2.2.2.2⟩ : _ ∧ k_ ≠ gb300))) (fun _ hk=>hk.2) (.bool t324)) (fun _ hk=>⟨hk.1.1,⟨hk.1.2.1,⟨hk.1.2.2.1,⟨hk.1.2.2.2.1,⟨hk.1.2.2.2.2.1,⟨hk.1.2.2.2.2.2.1,hk.1.2.2.2.2.2.2⟩⟩⟩⟩⟩⟩)⟩
              have n1_ : Aside0 (Kd.V (Kd.slice 2 (Kd.int .i64)) 22 (w79.setCell ⟨gb300,3,none⟩ (.bool t324)) w.heap.size (fun k_=>((P0_0_ k_ ∨ P1_2_ k_) ∨ w.heap.size ≤ k_) ∧ some k_ ≠ (.slice (some ad311) x301000_2.length co72 : Value).ownBlock ∧ some k_ ≠ (.slice Ao42 t303.length co42 : Value).ownBlock ∧ k_ ≠ gb297 ∧ k_ ≠ gb298 ∧ k_ ≠ gb299 ∧ k_ ≠ gb300) u298000 x298000_2):=⟨by (with_reducible repeat first|apply Kd.V_alloc|apply Kd.V_drewN|apply Kd.V_drew);exact Kd.V_mono (Kd.V_far (p:=⟨gb300,3,none⟩) (Kd.V_mono HO_298000.out (fun k_ hk=>(⟨hk,hk.2.2.2.2.2.2⟩ : _ ∧ k_ ≠ gb300))) (fun _ hk=>hk.2) (.bool t324)) (fun _ hk=>⟨hk.1.1,⟨hk.1.2.1,⟨hk.1.2.2.1,⟨hk.1.2.2.2.1,⟨hk.1.2.2.2.2.1,⟨hk.1.2.2.2.2.2.1,hk.1.2.2.2.2.2.2⟩⟩⟩⟩⟩⟩)⟩
              have n2_ : Aside0 (Kd.V (Kd.int .i64) 2 (w79.setCell ⟨gb300,3,none⟩ (.bool t324)) w.heap.size (fun k_=>((P0_0_ k_ ∨ P1_2_ k_) ∨ w.heap.size ≤ k_) ∧ some k_ ≠ (.slice (some ad311) x301000_2.length co72 : Value).ownBlock ∧ some k_ ≠ (.slice Ao42 t303.length co42 : Value).ownBlock ∧ k_ ≠ gb297 ∧ k_ ≠ gb298 ∧ k_ ≠ gb299 ∧ k_ ≠ gb300) (.slice (some ad309) l1_2.length c1_2) l1_2):=⟨by (with_reducible repeat first|apply Kd.V_alloc|apply Kd.V_drewN|apply Kd.V_drew);exact Kd.V_mono (Kd.V_far (p:=⟨gb300,3,none⟩) (Kd.V_mono HO_299002.out (fun k_ hk=>(⟨hk,hk.2.2.2.2.2.2⟩ : _ ∧ k_ ≠ gb300))) (fun _ hk=>hk.2) (.bool t324)) (fun _ hk=>⟨hk.1.1,⟨hk.1.2.1,⟨hk.1.2.2.1,⟨hk.1.2.2.2.1,⟨hk.1.2.2.2.2.1,⟨hk.1.2.2.2.2.2.1,hk.1.2.2.2.2.2.2⟩⟩⟩⟩⟩⟩)⟩
              have n3_ : Aside0 (Kd.N (Kd.slice 2 (Kd.int .i64)) 22 (w79.setCell ⟨gb300,3,none⟩ (.bool t324)) w.heap.size (fun k_=>((P0_0_ k_ ∨ P1_2_ k_) ∨ w.heap.size ≤ k_) ∧ some k_ ≠ (.slice Ao42 t303.length co42 : Value).ownBlock ∧ k_ ≠ gb297 ∧ k_ ≠ gb298 ∧ k_ ≠ gb299 ∧ k_ ≠ gb300) (.slice (some ad311) x301000_2.length co72) x301000_2):=⟨by (with_reducible repeat first|apply Kd.N_alloc|apply Kd.N_drewN|apply Kd.N_drew);exact Kd.N_mono (Kd.N_far (p:=⟨gb300,3,none⟩) (Kd.N_mono HO_301000.out (fun k_ hk=>(⟨hk,hk.2.2.2.2.2⟩ : _ ∧ k_ ≠ gb300))) (fun _ hk=>hk.2) (.bool t324)) (fun _ hk=>⟨hk.1.1,⟨hk.1.2.1,⟨hk.1.2.2.1,⟨hk.1.2.2.2.1,⟨hk.1.2.2.2.2.1,hk.1.2.2.2.2.2⟩⟩⟩⟩⟩)⟩
              have n4_ : Aside0 (Kd.R (Kd.int .i64) 2 (w79.setCell ⟨gb300,3,none⟩ (.bool t324)) w.heap.size (fun k_=>(w.heap.size ≤ k_)) (.slice Ao42 t303.length co42) t303):=⟨by (with_reducible repeat first|apply Kd.R_alloc|apply Kd.R_drewN|apply Kd.R_drew);exact Kd.R_mono (Kd.R_far (p:=⟨gb300,3,none⟩) (Kd.R_types HO_301001.out BK300.out (by decide)) (fun _ hk=>hk.2) (.bool t324)) (fun _ hk=>hk.1)⟩
              have n5_ : Aside0 (Kd.V (Kd.int .i64) 2 (w79.setCell ⟨gb300,3,none⟩ (.bool t324)) w.heap.size (fun k_=>((P0_0_ k_ ∨ P1_2_ k_) ∨ w.heap.size ≤ k_) ∧ some k_ ≠ (.slice (some ad311) x301000_2.length co72 : Value).ownBlock ∧ some k_ ≠ (.slice Ao42 t303.length co42 : Value).ownBlock ∧ k_ ≠ gb297 ∧ k_ ≠ gb298 ∧ k_ ≠ gb299 ∧ k_ ≠ gb300) (.slice A311_0 (rd_L1 x301000_2 t310).length c311_0) (rd_L1 x301000_2 t310)):=⟨by (with_reducible repeat first|apply Kd.V_alloc|apply Kd.V_drewN|apply Kd.V_drew);exact Kd.V_mono (Kd.V_far (p:=⟨gb300,3,none⟩) (Kd.V_mono HL311_0.out (fun k_ hk=>(⟨hk,hk.2.2.2.2.2.2⟩ : _ ∧ k_ ≠ gb300))) (fun _ hk=>hk.2) (.bool t324)) (fun _ hk=>⟨hk.1.1,⟨hk.1.2.1,⟨hk.1.2.2.1,⟨hk.1.2.2.2.1,⟨hk.1.2.2.2.2.1,⟨hk.1.2.2.2.2.2.1,hk.1.2.2.2.2.2.2⟩⟩⟩⟩⟩⟩)⟩
              have n6_ : Aside0 (Kd.V (Kd.int .i64) 2 (w79.setCell ⟨gb300,3,none⟩ (.bool t324)) w.heap.size (fun k_=>((P0_0_ k_ ∨ P1_2_ k_) ∨ w.heap.size ≤ k_) ∧ some k_ ≠ (.slice (some ad311) x301000_2.length co72 : Value).ownBlock ∧ some k_ ≠ (.slice Ao42 t303.length co42 : Value).ownBlock ∧ k_ ≠ gb297 ∧ k_ ≠ gb298 ∧ k_ ≠ gb299 ∧ k_ ≠ gb300) (.slice (some ad309) y313.length c1_2) y313):=⟨by (with_reducible repeat first|apply Kd.V_alloc|apply Kd.V_drewN|apply Kd.V_drew);exact Kd.V_mono (Kd.V_far (p:=⟨gb300,3,none⟩) (Kd.V_mono HO317.out (fun k_ hk=>(⟨hk,hk.2.2.2.2.2.2⟩ : _ ∧ k_ ≠ gb300))) (fun _ hk=>hk.2) (.bool t324)) (fun _ hk=>⟨hk.1.1,⟨hk.1.2.1,⟨hk.1.2.2.1,⟨hk.1.2.2.2.1,⟨hk.1.2.2.2.2.1,⟨hk.1.2.2.2.2.2.1,hk.1.2.2.2.2.2.2⟩⟩⟩⟩⟩⟩)⟩
              have n7_ : Aside0 (Kd.V (Kd.int .i64) 2 (w79.setCell ⟨gb300,3,none⟩ (.bool t324)) w.heap.size (fun k_=>((P0_0_ k_ ∨ P1_2_ k_) ∨ w.heap.size ≤ k_) ∧ some k_ ≠ (.slice (some ad311) x301000_2.length co72 : Value).ownBlock ∧ some k_ ≠ (.slice Ao42 t303.length co42 : Value).ownBlock ∧ k_ ≠ gb297 ∧ k_ ≠ gb298 ∧ k_ ≠ gb299 ∧ k_ ≠ gb300) (.slice Ao78 t318.length co78) t318):=⟨by (with_reducible repeat first|apply Kd.V_alloc|apply Kd.V_drewN|apply Kd.V_drew);exact Kd.V_mono (Kd.V_far (p:=⟨gb300,3,none⟩) (Kd.V_mono HO320.out (fun k_ hk=>(⟨hk,hk.2.2.2.2.2.2⟩ : _ ∧ k_ ≠ gb300))) (fun _ hk=>hk.2) (.bool t324)) (fun _ hk=>⟨hk.1.1,⟨hk.1.2.1,⟨hk.1.2.2.1,⟨hk.1.2.2.2.1,⟨hk.1.2.2.2.2.1,⟨hk.1.2.2.2.2.2.1,hk.1.2.2.2.2.2.2⟩⟩⟩⟩⟩⟩)⟩
              have n8_ : Aside0 (Kd.V (Kd.int .i64) 2 (w79.setCell ⟨gb300,3,none⟩ (.bool t324)) w.heap.size (fun k_=>((P0_0_ k_ ∨ P1_2_ k_) ∨ w.heap.size ≤ k_) ∧ some k_ ≠ (.slice (some ad311) x301000_2.length co72 : Value).ownBlock ∧ some k_ ≠ (.slice Ao42 t303.length co42 : Value).ownBlock ∧ k_ ≠ gb297 ∧ k_ ≠ gb298 ∧ k_ ≠ gb299 ∧ k_ ≠ gb300) (.slice Ao80 t321.length co80) t321):=⟨by (with_reducible repeat first|apply Kd.V_alloc|apply Kd.V_drewN|apply Kd.V_drew);exact Kd.V_mono (Kd.V_far (p:=⟨gb300,3,none⟩) (Kd.V_mono HO323.out (fun k_ hk=>(⟨hk,hk.2.2.2.2.2.2⟩ : _ ∧ k_ ≠ gb300))) (fun _ hk=>hk.2) (.bool t324)) (fun _ hk=>⟨hk.1.1,⟨hk.1.2.1,⟨hk.1.2.2.1,⟨hk.1.2.2.2.1,⟨hk.1.2.2.2.2.1,⟨hk.1.2.2.2.2.2.1,hk.1.2.2.2.2.2.2⟩⟩⟩⟩⟩⟩)⟩
              have n9_ : Aside0 ((w79.setCell ⟨gb300,3,none⟩ (.bool t324)).heap[gb297]? = some (.cells #[u298000] 44 (0,0))):=⟨by (with_reducible repeat first|apply bN|apply bD|apply bA);refine blk_far ?_ NB297_300.out _;(with_reducible repeat first|apply bN|apply bD|apply bA);exact BK297.out⟩
              have n10_ : Aside0 ((w79.setCell ⟨gb300,3,none⟩ (.bool t324)).heap[gb298]? = some (.cells #[.int .i64 a1_0,.int .i64 a1_1,.slice (some ad309) l1_2.length c1_2] 27 (0,0))):=⟨by (with_reducible repeat first|apply bN|apply bD|apply bA);refine blk_far ?_ NB298_300.out _;(with_reducible repeat first|apply bN|apply bD|apply bA);exact BK298.out⟩
              have n11_ : Aside0 ((w79.setCell ⟨gb300,3,none⟩ (.bool t324)).heap[gb299]? = some (.cells #[.slice none 0 0,.slice none 0 0,.bool x300002_2,.bool x300003_2] 92 (0,0))):=⟨by (with_reducible repeat first|apply bN|apply bD|apply bA);refine blk_far ?_ NB299_300.out _;(with_reducible repeat first|apply bN|apply bD|apply bA);exact BK299.out⟩
              have n12_ : Aside0 ((w79.setCell ⟨gb300,3,none⟩ (.bool t324)).heap[gb300]? = some (.cells #[.slice (some ad311) x301000_2.length co72,.slice Ao42 t303.length co42,.bool true,.bool t324] 92 (0,0))):=⟨by (with_reducible repeat first|apply bN|apply bD|apply bA);refine blk_put (cs:=#[.slice (some ad311) x301000_2.length co72,.slice Ao42 t303.length co42,.bool true,.bool true]) ?_ 3 _ rfl;(with_reducible repeat first|apply bN|apply bD|apply bA);exact BK300.out⟩
              have n13_ : Aside0 (Below w.heap.size w (w79.setCell ⟨gb300,3,none⟩ (.bool t324))):=⟨by repeat (first|(with_reducible first|exact HB.out|apply bL|apply bM|apply b1|refine bS ?_ GE297.out|refine bS ?_ GE298.out|refine bS ?_ GE299.out|refine bS ?_ GE300.out)|exact HB.out)⟩
              (try clear HO_30)
              (try clear HO_298000)
              (try clear HO_299002)
              (try clear HO_301000)
              (try clear HO_301001)
              (try clear HL311_0)
              (try clear HO317)
              (try clear HO320)
              (try clear HO323)
              (try clear BK297)
              (try clear BK298)
              (try clear BK299)
              (try clear BK300)
              (try clear HB)
              generalize (w79.setCell ⟨gb300,3,none⟩ (.bool t324)) = w82 at n0_ n1_ n2_ n3_ n4_ n5_ n6_ n7_ n8_ n9_ n10_ n11_ n12_ n13_ ⊢
              have HO_30:=n0_
              have HO_298000:=n1_
              have HO_299002:=n2_
              have HO_301000:=n3_
              have HO_301001:=n4_
              have HL311_0:=n5_
              have HO317:=n6_
              have HO320:=n7_
              have HO323:=n8_
              have BK297:=n9_
              have BK298:=n10_
              have BK299:=n11_
              have BK300:=n12_
              have HB:=n13_
              clear n0_ n1_ n2_ n3_ n4_ n5_ n6_ n7_ n8_ n9_ n10_ n11_ n12_ n13_
              have n0_:=aK (Kd.V_drew HO_30.out)
              have n1_:=aK (Kd.V_drew HO_298000.out)
              have n2_:=aK (Kd.V_drew HO_299002.out)
              have n3_:=aK (Kd.N_drew HO_301000.out)
              have n4_:=aK (Kd.R_drew HO_301001.out)
              have n5_:=aK (Kd.V_drew HL311_0.out)
              have n6_:=aK (Kd.V_drew HO317.out)
              have n7_:=aK (Kd.V_drew HO320.out)
              have n8_:=aK (Kd.V_drew HO323.out)
              have n9_:=aK (bD BK297.out)
              have n10_:=aK (bD BK298.out)
              have n11_:=aK (bD BK299.out)
              have n12_:=aK (bD BK300.out)
              have n13_:=aK (b1 HB.out)
              clear HO_30
              clear HO_298000
              clear HO_299002
              clear HO_301000
              clear HO_301001
              clear HL311_0
              clear HO317
              clear HO320
              clear HO323
              clear BK297
              clear BK298
              clear BK299
              clear BK300
              clear HB
              have HO_30:=n0_
              have HO_298000:=n1_
              have HO_299002:=n2_
              have HO_301000:=n3_
              have HO_301001:=n4_
              have HL311_0:=n5_
              have HO317:=n6_
              have HO320:=n7_
              have HO323:=n8_
              have BK297:=n9_
              have BK298:=n10_
              have BK299:=n11_
              have BK300:=n12_
              have HB:=n13_
              clear n0_ n1_ n2_ n3_ n4_ n5_ n6_ n7_ n8_ n9_ n10_ n11_ n12_ n13_
              refine start_ (n:=8) (S:=fun w'=>w'.cell? ⟨gb300,0,none⟩ = some (.slice (some ad311) x301000_2.length co72) ∧ w'.cell? ⟨gb300,1,none⟩ = some (.slice Ao42 t303.length co42) ∧ w'.cell? ⟨gb300,2,none⟩ = some (.bool true) ∧ w'.cell? ⟨gb300,3,none⟩ = some (.bool t324)) (ds:=[7]) #[false,false,false,false,false,false,false,false] (by kernel_rfl) rfl rfl ⟨(bC BK300.out 0).trans rfl,(bC BK300.out 1).trans rfl,(bC BK300.out 2).trans rfl,(bC BK300.out 3).trans rfl⟩ (fun hHeld=>?_);refine with_tabW impl_recordOf.tab13 impl_recordOf.bits13 (fun HT_ HW_=>?_)
              generalize w82.drew = w83 at HO_30 HO_298000 HO_299002 HO_301000 HO_301001 HL311_0 HO317 HO320 HO323 BK297 BK298 BK299 BK300 HB hHeld ⊢
              refine pure_ (i:=0) (N:=some 65) (v:=?_) (a':=?_) #[true,false,false,false,false,false,false,false] rfl rfl (any_of HT_.out (by kernel_rfl)) (fun _ _ _ h=>h) (Or.inl ⟨by rfl,?_⟩) ?_ ?_
              rotate_left
              ·intro w'
               go_simp
               with_reducible rfl
              rotate_left
              ·simp only [Act.put,lA,l0',lS,i64_w,i32_w]
               rfl
              refine pure_ (i:=2) (N:=some 67) (v:=?_) (a':=?_) #[true,false,true,false,false,false,false,false] rfl rfl (any_of HT_.out (by kernel_rfl)) (fun _ _ _ h=>h) (Or.inl ⟨by rfl,?_⟩) ?_ ?_
              rotate_left
              ·intro w'
               go_simp
               with_reducible rfl
              rotate_left
              ·simp only [Act.put,lA,l0',lS,i64_w,i32_w]
               rfl
              refine pure_ (i:=3) (N:=some 68) (v:=?_) (a':=?_) #[true,false,true,true,false,false,false,false] rfl rfl (any_of HT_.out (by kernel_rfl)) (fun _ _ _ h=>h) (Or.inl ⟨by rfl,?_⟩) ?_ ?_
              rotate_left
              ·intro w'
               go_simp
               with_reducible rfl
              rotate_left
              ·simp only [Act.put,lA,l0',lS,i64_w,i32_w]
               rfl
              refine pure_ (i:=4) (N:=some 69) (v:=?_) (a':=?_) #[true,false,true,true,true,false,false,false] rfl rfl (any_of HT_.out (by kernel_rfl)) (fun _ _ _ h=>h) (Or.inl ⟨by rfl,?_⟩) ?_ ?_
              rotate_left
              ·intro w'
               go_simp
               with_reducible rfl
              rotate_left
              ·simp only [Act.put,lA,l0',lS,i64_w,i32_w]
               rfl
              refine take_ (i:=1) (N:=some 66) (v:=?_) (a':=?_) #[true,true,true,true,true,false,false,false] rfl rfl (take_ofW HT_.out HW_.out (by kernel_rfl)) (fun _ _ _ h=>h) (Or.inl ⟨by rfl,?_⟩) hHeld ?_ ?_
              rotate_left
              ·rintro w' ⟨s0,s1,s2,s3⟩
               go_simp
               with_reducible rfl
              rotate_left
              ·simp only [Act.put,lA,l0',lS,i64_w,i32_w]
               rfl
              refine one_ (i:=5) (N:=some 70) #[true,true,true,true,true,true,false,false] rfl rfl (one_of HT_.out (by kernel_rfl)) (by decide) (fun K hK=>?_)
              refine goes_ Try.func145 (by kernel_rfl) rfl #[.slice A311_0 (rd_L1 x301000_2 t310).length c311_0,.int .i64 (rd l1_2 x32_2)] (by rfl) rfl rfl (by (try simp only [mA,mC,mN]);first|done|rfl) ?_
              with_reducible refine (impl_without.calls _ _ (rd_L1 x301000_2 t310) (rd l1_2 x32_2) t325 _ ?side1 ?side2 A66.out).mono ?_
              (case side1=>repeat (first|exact ((Kd.V_reads' (by (with_reducible repeat first|apply Kd.V_alloc|apply Kd.V_drewN|apply Kd.V_drew);exact HL311_0.out)).2.2)|(with_reducible refine Kd.C_alloc ?_ _)|(with_reducible refine Kd.C_drewN ?_ _)|(with_reducible refine Kd.C_drew ?_)))
              (case side2=>exact HC311_0.out)
              rintro e w84 ⟨v326,rfl,ho0,hb⟩
              refine ⟨_,rfl,?_⟩
              have n0_:=aK (Kd.V_elder' (by (with_reducible repeat first|apply Kd.V_alloc|apply Kd.V_drewN|apply Kd.V_drew);exact HO_30.out) (Kd.R_base ho0) hb)
              have n1_:=aK (Kd.V_elder' (by (with_reducible repeat first|apply Kd.V_alloc|apply Kd.V_drewN|apply Kd.V_drew);exact HO_298000.out) (Kd.R_base ho0) hb)
              have n2_:=aK (Kd.V_elder' (by (with_reducible repeat first|apply Kd.V_alloc|apply Kd.V_drewN|apply Kd.V_drew);exact HO_299002.out) (Kd.R_base ho0) hb)
              have n3_:=aK (Kd.N_elder' (by (with_reducible repeat first|apply Kd.N_alloc|apply Kd.N_drewN|apply Kd.N_drew);exact HO_301000.out) (Kd.R_base ho0) hb)
              have n4_:=aK (Kd.R_elder' (by (with_reducible repeat first|apply Kd.R_alloc|apply Kd.R_drewN|apply Kd.R_drew);exact HO_301001.out) (Kd.R_base ho0) hb)
              have n5_:=aK (Kd.V_elder' (by (with_reducible repeat first|apply Kd.V_alloc|apply Kd.V_drewN|apply Kd.V_drew);exact HL311_0.out) (Kd.R_base ho0) hb)
              have n6_:=aK (Kd.V_elder' (by (with_reducible repeat first|apply Kd.V_alloc|apply Kd.V_drewN|apply Kd.V_drew);exact HO317.out) (Kd.R_base ho0) hb)
              have n7_:=aK (Kd.V_elder' (by (with_reducible repeat first|apply Kd.V_alloc|apply Kd.V_drewN|apply Kd.V_drew);exact HO320.out) (Kd.R_base ho0) hb)
              have n8_:=aK (Kd.V_elder' (by (with_reducible repeat first|apply Kd.V_alloc|apply Kd.V_drewN|apply Kd.V_drew);exact HO323.out) (Kd.R_base ho0) hb)
              have n9_:=aK (Kd.R_lower (Kd.R_new' (Kd.R_newM (M:=fun k_=>(w.heap.size ≤ k_)) ho0 (below_size (by repeat (first|(with_reducible first|exact HB.out|apply bL|apply bM|apply b1|refine bS ?_ GE297.out|refine bS ?_ GE298.out|refine bS ?_ GE299.out|refine bS ?_ GE300.out)|exact HB.out))) (fun k_ h_=>h_)) (Kd.R_lt (by (with_reducible repeat first|apply Kd.R_alloc|apply Kd.R_drewN|apply Kd.R_drew);exact HO_301001.out))) (below_size (by repeat (first|(with_reducible first|exact HB.out|apply bL|apply bM|apply b1|refine bS ?_ GE297.out|refine bS ?_ GE298.out|refine bS ?_ GE299.out|refine bS ?_ GE300.out)|exact HB.out))))
              have n10_:=aK (bB (by (with_reducible repeat first|apply bN|apply bD|apply bA);exact BK297.out) hb)
              have n11_:=aK (bB (by (with_reducible repeat first|apply bN|apply bD|apply bA);exact BK298.out) hb)
              have n12_:=aK (bB (by (with_reducible repeat first|apply bN|apply bD|apply bA);exact BK299.out) hb)
              have n13_:=aK (bB (by (with_reducible repeat first|apply bN|apply bD|apply bA);exact BK300.out) hb)
              have n14_:=aK (below_step (by repeat (first|(with_reducible first|exact HB.out|apply bL|apply bM|apply b1|refine bS ?_ GE297.out|refine bS ?_ GE298.out|refine bS ?_ GE299.out|refine bS ?_ GE300.out)|exact HB.out)) hb)
              clear HO_30
              clear HO_298000
              clear HO_299002
              clear HO_301000
              clear HO_301001
              clear HL311_0
              clear HO317
              clear HO320
              clear HO323
              clear BK297
              clear BK298
              clear BK299
              clear BK300
              clear HB
              have HO_30:=n0_
              have HO_298000:=n1_
              have HO_299002:=n2_
              have HO_301000:=n3_
              have HO_301001:=n4_
              have HL311_0:=n5_
              have HO317:=n6_
              have HO320:=n7_
              have HO323:=n8_
              have HO327:=n9_
              have BK297:=n10_
              have BK298:=n11_
              have BK299:=n12_
              have BK300:=n13_
              have HB:=n14_
              clear n0_ n1_ n2_ n3_ n4_ n5_ n6_ n7_ n8_ n9_ n10_ n11_ n12_ n13_ n14_
              (try clear hb)
              (try clear hb2)
              (try clear hk)
              (try clear hi)
              (try clear ho0)
              have p67 : 0 ≤ (t310 : Int):=of_decide_eq_true (by first|(with_reducible assumption)|assumption)
              have q67 : (t310 : Int) < ((x301000_2.length : Int) : Int):=of_decide_eq_true (by first|(with_reducible assumption)|assumption)
              obtain ⟨go67,co67,eo67,gb67,gl67,cl67,HG67⟩:=Kd.N_form HO_301000.out (by omega)
              (first|cases eo67|(injection eo67 with ea_ en_ ec_;(first|subst ea_|(injection ea_ with ea_;subst ea_));subst ec_;clear en_))
              have GB67:=aK gb67
              have GG67:=aK HG67
              clear gb67 gl67 HG67
              (first|simp only [add_plain] at hx311_0|skip)
              obtain ⟨ce67,hcl67,hM67,hcc67,hfr67⟩:=Kd.N_elem HO_301000.out [] (t310 : Int) p67 q67
              obtain ⟨ua67_0,uc67_0,rfl,ul67_0,ge67_0⟩:=Kd.FK_slice_open hM67
              have hx67_0:=hcc67 0 _ rfl
              have hf67_0:=hfr67 0
              (try simp only [show ((Kd.slice 2 (Kd.int .i64))).sz = 1 from rfl,Nat.mul_one,Nat.add_zero] at hx67_0)
              (try simp only [show ((Kd.slice 2 (Kd.int .i64))).sz = 1 from rfl,Nat.mul_one,Nat.add_zero] at hf67_0)
              (try clear hM67);clear hcl67 hcc67 hfr67
              replace p67:=eq_true p67
              replace q67:=eq_true q67
              have HX85:=aK (show Kd.N (Kd.slice 2 (Kd.int .i64)) 22 _ w.heap.size (fun k_=>((P0_0_ k_ ∨ P1_2_ k_) ∨ w.heap.size ≤ k_) ∧ some k_ ≠ (.slice Ao42 t303.length co42 : Value).ownBlock ∧ some k_ ≠ (v326 : Value).ownBlock ∧ k_ ≠ gb297 ∧ k_ ≠ gb298 ∧ k_ ≠ gb299 ∧ k_ ≠ gb300) (.slice (some ⟨go67,0,none⟩) x301000_2.length co72) x301000_2 from (Kd.N_mono (HO_301000.out) (fun k_ hk=>⟨hk.1.1,⟨hk.1.2.1,⟨hk.2,⟨hk.1.2.2.1,⟨hk.1.2.2.2.1,⟨hk.1.2.2.2.2.1,hk.1.2.2.2.2.2⟩⟩⟩⟩⟩⟩)))
              replace HX85:=aK (show Kd.N (Kd.slice 2 (Kd.int .i64)) 22 _ w.heap.size (fun k_=>((P0_0_ k_ ∨ P1_2_ k_) ∨ w.heap.size ≤ k_) ∧ some k_ ≠ (.slice Ao42 t303.length co42 : Value).ownBlock ∧ k_ ≠ gb297 ∧ k_ ≠ gb298 ∧ k_ ≠ gb299 ∧ k_ ≠ gb300) (.slice (some ⟨go67,0,none⟩) x301000_2.length co72) x301000_2 from Kd.N_mono HX85.out (fun k_ hk=>⟨hk.1,⟨hk.2.1,⟨hk.2.2.2.1,⟨hk.2.2.2.2.1,⟨hk.2.2.2.2.2.1,hk.2.2.2.2.2.2⟩⟩⟩⟩⟩))
              obtain ⟨ce85,hcl85,hM85,hcc85,hfr85⟩:=Kd.N_elem HX85.out [] (t310 : Int) (of_decide_eq_true (by first|(with_reducible assumption)|assumption)) (by have h_ : (t310 : Int) < ((x301000_2.length : Int) : Int):=of_decide_eq_true (by first|(with_reducible assumption)|assumption);first|exact h_|(have e_:=(Kd.N_reads' HO_301000.out).1;omega)|simpa using h_)
              obtain ⟨ua85_0,uc85_0,rfl,ul85_0,ge85_0⟩:=Kd.FK_slice_open hM85
              have HP85:=(Kd.N_seg HX85.out (t310 : Int) (of_decide_eq_true (by first|(with_reducible assumption)|assumption)) (by have h_ : (t310 : Int) < ((x301000_2.length : Int) : Int):=of_decide_eq_true (by first|(with_reducible assumption)|assumption);first|exact h_|(have e_:=(Kd.N_reads' HO_301000.out).1;omega)|simpa using h_) (seg:=[v326]) (j:=0) hcl85 hcc85 (show 1 ≤ 1 from by decide) (x':=t325) (Kd.FK_of_M (Kd.M_row (Kd.R_mono (ok':=(fun k_=>((fun k_=>((P0_0_ k_ ∨ P1_2_ k_) ∨ w.heap.size ≤ k_) ∧ some k_ ≠ (.slice Ao42 t303.length co42 : Value).ownBlock ∧ k_ ≠ gb297 ∧ k_ ≠ gb298 ∧ k_ ≠ gb299 ∧ k_ ≠ gb300)) k_ ∧ k_ ≠ go67)) (Kd.R_types (Kd.R_types (Kd.R_types (Kd.R_types (Kd.R_apart' (HO327.out) (Kd.N_typed HO_301000.out) (by decide)) BK297.out (by decide)) BK298.out (by decide)) BK299.out (by decide)) BK300.out (by decide)) (fun k_ hk=>⟨⟨(.inr (hk.1.1.1.1.1.1.1)),⟨hk.1.1.1.1.1.2,⟨hk.1.1.1.2,⟨hk.1.1.2,⟨hk.1.2,hk.2⟩⟩⟩⟩⟩,fun e_=>(hk.1.1.1.1.2) (by rw [e_];rfl)⟩)))) (fun _ hk=>hk)).1
              (try simp only [show ((Kd.slice 2 (Kd.int .i64))).sz = 1 from rfl,Nat.mul_one,Nat.add_zero] at HP85)
              rw [← Ny328.out] at HP85
              have HQ85:=aK HP85
              (try clear hM85);clear hcl85 hcc85 hfr85 HP85
              refine hK.out _ _ ⟨(bC BK300.out 0).trans rfl,(bC BK300.out 1).trans rfl,(bC BK300.out 2).trans rfl,(bC BK300.out 3).trans rfl⟩ (fun hHeld=>?_)
              clear hK K
              refine norm_ (a':=?_) ?_ ?_
              rotate_left
              ·show Act.put _ (some 70) _ = _
               simp only [Act.put,lA,l0',lS,i64_w,i32_w]
               rfl
              refine pure_ (i:=6) (N:=some 71) (v:=?_) (a':=?_) #[true,true,true,true,true,true,true,false] rfl rfl (any_of HT_.out (by kernel_rfl)) (fun _ _ _ h=>h) (Or.inl ⟨by rfl,?_⟩) ?_ ?_
              rotate_left
              ·intro w'
               go_simp
               with_reducible rfl
              rotate_left
              ·simp only [Act.put,lA,l0',lS,i64_w,i32_w]
               rfl
              refine last_ (i:=7) (N:=none) #[true,true,true,true,true,true,true,true] rfl rfl (one_of HT_.out (by kernel_rfl)) (by decide) (fun K hK=>?_)
              refine skip_ (w1:=(w84.setCell ⟨go67,(t310 : Int).toNat,none⟩ (v326))) (by rfl) rfl ?_ ?_
              ·obtain ⟨Av_,cv_,ev_⟩:=Kd.R_slice HO327.out
               subst ev_
               go_simp
               try rfl
              refine hK.out _ _ ?_
              clear hK K
              refine done_ (done_of HT_.out (by kernel_rfl)) ?_
              try go_wp2
              go_roundg k2
              case measure=>have:=HJ2.out;have:=HK2.out;omega
              case rel=>exact ⟨(wrap64 (x32_2 + 1)),(x298000_2),(x300002_2),(x300003_2),(y328),(t324),(u298000),(.slice (some ⟨go67,0,none⟩) x301000_2.length co72),(by first|rfl|(simp;done)|(simp [*];done)),H',⟨by have:=HJ2.out;have:=HK2.out;omega⟩,⟨by (with_reducible repeat first|apply Kd.V_alloc|apply Kd.V_drewN|apply Kd.V_drew);exact Kd.V_mono (Kd.V_far (p:=⟨go67,(t310 : Int).toNat,none⟩) (Kd.V_mono HO_30.out (fun k_ hk=>(⟨hk,fun e_=>hk.1.2.1 (by rw [e_];rfl)⟩ : _ ∧ k_ ≠ go67))) (fun _ hk=>hk.2) (v326)) (fun _ hk=>⟨hk.1.1.1,⟨hk.1.1.2.1,⟨hk.1.1.2.2.1,⟨hk.1.1.2.2.2.1,⟨hk.1.1.2.2.2.2.1,⟨hk.1.1.2.2.2.2.2.1,hk.1.1.2.2.2.2.2.2⟩⟩⟩⟩⟩⟩)⟩,⟨by (with_reducible repeat first|apply Kd.V_alloc|apply Kd.V_drewN|apply Kd.V_drew);exact Kd.V_mono (Kd.V_far (p:=⟨go67,(t310 : Int).toNat,none⟩) (Kd.V_mono HO_298000.out (fun k_ hk=>(⟨hk,fun e_=>hk.1.2.1 (by rw [e_];rfl)⟩ : _ ∧ k_ ≠ go67))) (fun _ hk=>hk.2) (v326)) (fun _ hk=>⟨hk.1.1.1,⟨hk.1.1.2.1,⟨hk.1.1.2.2.1,⟨hk.1.1.2.2.2.1,⟨hk.1.1.2.2.2.2.1,⟨hk.1.1.2.2.2.2.2.1,hk.1.1.2.2.2.2.2.2⟩⟩⟩⟩⟩⟩)⟩,⟨by (with_reducible repeat first|apply Kd.V_alloc|apply Kd.V_drewN|apply Kd.V_drew);exact Kd.V_mono (Kd.V_far (p:=⟨go67,(t310 : Int).toNat,none⟩) (Kd.V_mono HO_299002.out (fun k_ hk=>(⟨hk,fun e_=>hk.1.2.1 (by rw [e_];rfl)⟩ : _ ∧ k_ ≠ go67))) (fun _ hk=>hk.2) (v326)) (fun _ hk=>⟨hk.1.1.1,⟨hk.1.1.2.1,⟨hk.1.1.2.2.1,⟨hk.1.1.2.2.2.1,⟨hk.1.1.2.2.2.2.1,⟨hk.1.1.2.2.2.2.2.1,hk.1.1.2.2.2.2.2.2⟩⟩⟩⟩⟩⟩)⟩,⟨by (with_reducible repeat first|apply Kd.N_alloc|apply Kd.N_drewN|apply Kd.N_drew);exact HQ85.out⟩,⟨by (with_reducible repeat first|apply Kd.R_alloc|apply Kd.R_drewN|apply Kd.R_drew);exact Kd.R_mono (Kd.R_far (p:=⟨go67,(t310 : Int).toNat,none⟩) (Kd.R_types HO_301001.out GG67.out (by decide)) (fun _ hk=>hk.2) (v326)) (fun _ hk=>hk.1.1)⟩,⟨by (with_reducible repeat first|apply bN|apply bD|apply bA);refine blk_far ?_ (by have h_:=Kd.N_away (g:=gb297) HO_301000.out (fun k_ hk_=>by have h_:=hk_;(try simp only [and_assoc,true_and] at h_);with_reducible first|exact h_.1|exact h_.2.1|exact h_.2.2.1|exact h_.2.2.2.1|exact h_.2.2.2.2.1|exact h_.2.2.2.2.2.1|exact h_.2.2.2.2.2.2.1|exact h_.2.2.2.2.2.2.2.1|exact h_.2.2.2.2.2.2.2.2.1|exact h_.2|exact h_.2.2|exact h_.2.2.2|exact h_.2.2.2.2|exact h_.2.2.2.2.2|exact h_.2.2.2.2.2.2|exact h_.2.2.2.2.2.2.2|exact h_.2.2.2.2.2.2.2.2);intro e_;exact h_ (by rw [e_];rfl)) _;(with_reducible repeat first|apply bN|apply bD|apply bA);exact BK297.out⟩,⟨by (with_reducible repeat first|apply bN|apply bD|apply bA);refine blk_far ?_ (by have h_:=Kd.N_away (g:=gb298) HO_301000.out (fun k_ hk_=>by have h_:=hk_;(try simp only [and_assoc,true_and] at h_);with_reducible first|exact h_.1|exact h_.2.1|exact h_.2.2.1|exact h_.2.2.2.1|exact h_.2.2.2.2.1|exact h_.2.2.2.2.2.1|exact h_.2.2.2.2.2.2.1|exact h_.2.2.2.2.2.2.2.1|exact h_.2.2.2.2.2.2.2.2.1|exact h_.2|exact h_.2.2|exact h_.2.2.2|exact h_.2.2.2.2|exact h_.2.2.2.2.2|exact h_.2.2.2.2.2.2|exact h_.2.2.2.2.2.2.2|exact h_.2.2.2.2.2.2.2.2);intro e_;exact h_ (by rw [e_];rfl)) _;(with_reducible repeat first|apply bN|apply bD|apply bA);exact BK298.out⟩,⟨by (with_reducible repeat first|apply bN|apply bD|apply bA);refine blk_far ?_ (by have h_:=Kd.N_away (g:=gb299) HO_301000.out (fun k_ hk_=>by have h_:=hk_;(try simp only [and_assoc,true_and] at h_);with_reducible first|exact h_.1|exact h_.2.1|exact h_.2.2.1|exact h_.2.2.2.1|exact h_.2.2.2.2.1|exact h_.2.2.2.2.2.1|exact h_.2.2.2.2.2.2.1|exact h_.2.2.2.2.2.2.2.1|exact h_.2.2.2.2.2.2.2.2.1|exact h_.2|exact h_.2.2|exact h_.2.2.2|exact h_.2.2.2.2|exact h_.2.2.2.2.2|exact h_.2.2.2.2.2.2|exact h_.2.2.2.2.2.2.2|exact h_.2.2.2.2.2.2.2.2);intro e_;exact h_ (by rw [e_];rfl)) _;(with_reducible repeat first|apply bN|apply bD|apply bA);exact BK299.out⟩,⟨by (with_reducible repeat first|apply bN|apply bD|apply bA);refine blk_far ?_ (by have h_:=Kd.N_away (g:=gb300) HO_301000.out (fun k_ hk_=>by have h_:=hk_;(try simp only [and_assoc,true_and] at h_);with_reducible first|exact h_.1|exact h_.2.1|exact h_.2.2.1|exact h_.2.2.2.1|exact h_.2.2.2.2.1|exact h_.2.2.2.2.2.1|exact h_.2.2.2.2.2.2.1|exact h_.2.2.2.2.2.2.2.1|exact h_.2.2.2.2.2.2.2.2.1|exact h_.2|exact h_.2.2|exact h_.2.2.2|exact h_.2.2.2.2|exact h_.2.2.2.2.2|exact h_.2.2.2.2.2.2|exact h_.2.2.2.2.2.2.2|exact h_.2.2.2.2.2.2.2.2);intro e_;exact h_ (by rw [e_];rfl)) _;(with_reducible repeat first|apply bN|apply bD|apply bA);exact BK300.out⟩,⟨by repeat (first|(with_reducible first|exact HB.out|apply bL|apply bM|apply b1|refine bS ?_ GB67.out|refine bS ?_ GE297.out|refine bS ?_ GE298.out|refine bS ?_ GE299.out|refine bS ?_ GE300.out)|exact HB.out)⟩⟩
             ·rw [if_neg c62] at H
              exact absurd H (by simp)
            ·replace c60:=Bool.eq_false_iff.mpr c60
             subst c60
             have H1 : ((impl_without.f (rd_L1 x301000_2 t310) (rd l1_2 x32_2)).bind fun t329=>(impl_recordOf.l0 k2 l1_2 (l1_2.length : Int) (wrap64 (x32_2 + 1)) a1_0 a1_1 l1_2 (x301000_2.set (t310 : Int).toNat t329) t303 true false)) = some (r1,r2,r3,r4):=by rw [if_neg (show ¬ (false = true) by decide)] at H;exact H
             clear H
             have H:=H1
             clear H1
             replace H:=Option.bind_eq_some_iff.mp H
             obtain ⟨t329,A860,H⟩:=H
             replace H : (impl_recordOf.l0 k2 l1_2 (l1_2.length : Int) (wrap64 (x32_2 + 1)) a1_0 a1_1 l1_2 (x301000_2.set (t310 : Int).toNat t329) t303 true false) = some (r1,r2,r3,r4):=H
             have A86:=aK A860
             clear A860
             obtain ⟨y332,hy332⟩ : ∃ y_ : List (List Int),y_ = (x301000_2.set (t310 : Int).toNat t329):=⟨_,rfl⟩
             replace H : (impl_recordOf.l0 k2 l1_2 (l1_2.length : Int) (wrap64 (x32_2 + 1)) a1_0 a1_1 l1_2 y332 t303 true false) = some (r1,r2,r3,r4):=by first|(rw [hy332];with_reducible exact H)|(have H2_:=(Option.bind_some _ _).symm.trans H;rw [hy332];with_reducible exact H2_)|(have H2_:=(Option.bind_some _ _).symm.trans H;with_reducible exact H2_)|with_reducible exact H|(rw [hy332];exact H)|exact H
             have Ny332:=aK hy332
             clear hy332
             have H':=aK H
             clear H
             have p309 : 0 ≤ (x32_2 : Int):=of_decide_eq_true (by first|(with_reducible assumption)|assumption)
             have q309 : x32_2 < (l1_2.length : Int):=of_decide_eq_true (by first|(with_reducible assumption)|assumption)
             obtain ⟨ad309,e309,hx309_0⟩:=Kd.at_int (Kd.V_reads' HO_30.out).2.2 x32_2 p309 q309
             cases e309
             replace p309:=eq_true p309
             replace q309:=eq_true q309
             have hnb88:=NB300_297.out
             have hnc88:=NB297_300.out
             have hnb89:=NB300_298.out
             have hnc89:=NB298_300.out
             have hnb90:=NB300_299.out
             have hnc90:=NB299_300.out
             have hcz91_0 : wr.cell? ⟨gb300,0,none⟩ = some (u301000):=(bC BK300.out 0).trans rfl
             have hcz91_1 : wr.cell? ⟨gb300,1,none⟩ = some (.slice Ao42 t303.length co42):=(bC BK300.out 1).trans rfl
             have hcz91_2 : wr.cell? ⟨gb300,2,none⟩ = some (.bool true):=(bC BK300.out 2).trans rfl
             have hcz91_3 : wr.cell? ⟨gb300,3,none⟩ = some (.bool false):=(bC BK300.out 3).trans rfl
             have hfz91_0:=blk_frozen BK300.out 0
             have hfz91_1:=blk_frozen BK300.out 1
             have hfz91_2:=blk_frozen BK300.out 2
             have hfz91_3:=blk_frozen BK300.out 3
             try go_wp2_with (first|((with_reducible refine gate_callee (f:=110) rfl ?_);refine goesL_ (some 40) rfl rfl Try.func110 (by kernel_rfl) rfl #[.slice Ao42 t303.length co42,.int .i64 x32_2] rfl (by (try simp only [mA,mC,mN]);first|done|rfl) ?_;(with_reducible refine (impl_seatOf.calls _ _ t303 x32_2 t310 _ ?side1 ?side2 A55.out).mono ?_);(case side1=>repeat (first|exact (Kd.R_reads' HO_301001.out).2.2|(with_reducible refine Kd.C_alloc ?_ _)|(with_reducible refine Kd.C_drewN ?_ _)|(with_reducible refine Kd.C_drew ?_)));(case side2=>exact (Kd.R_reads' HO_301001.out).2.1);rintro e w' ⟨rfl,⟨nd,rfl⟩⟩;refine ⟨_,rfl,?_⟩;(try (rw [drewN_self wr];generalize hq_ : World.drewN wr _ = wr;have n0_ : Aside0 (Kd.V (Kd.slice 2 (Kd.int .i64)) 22 wr w.heap.size (fun k_=>((P0_0_ k_ ∨ P1_2_ k_) ∨ w.heap.size ≤ k_) ∧ some k_ ≠ (u301000 : Value).ownBlock ∧ some k_ ≠ (.slice Ao42 t303.length co42 : Value).ownBlock ∧ k_ ≠ gb297 ∧ k_ ≠ gb298 ∧ k_ ≠ gb299 ∧ k_ ≠ gb300) u298000 x298000_2):=⟨by rw [← hq_];exact (by (with_reducible repeat first|apply Kd.V_alloc|apply Kd.V_drewN|apply Kd.V_drew);exact HO_298000.out)⟩;have n1_ : Aside0 (Kd.V (Kd.int .i64) 2 wr w.heap.size (fun k_=>((P0_0_ k_ ∨ P1_2_ k_) ∨ w.heap.size ≤ k_) ∧ some k_ ≠ (u301000 : Value).ownBlock ∧ some k_ ≠ (.slice Ao42 t303.length co42 : Value).ownBlock ∧ k_ ≠ gb297 ∧ k_ ≠ gb298 ∧ k_ ≠ gb299 ∧ k_ ≠ gb300) (.slice (some ad309) l1_2.length c1_2) l1_2):=⟨by rw [← hq_];exact (by (with_reducible repeat first|apply Kd.V_alloc|apply Kd.V_drewN|apply Kd.V_drew);exact HO_299002.out)⟩;have n2_ : Aside0 (Kd.V (Kd.int .i64) 2 wr w.heap.size (fun k_=>((P0_0_ k_ ∨ P1_2_ k_) ∨ w.heap.size ≤ k_) ∧ some k_ ≠ (u301000 : Value).ownBlock ∧ some k_ ≠ (.slice Ao42 t303.length co42 : Value).ownBlock ∧ k_ ≠ gb297 ∧ k_ ≠ gb298 ∧ k_ ≠ gb299 ∧ k_ ≠ gb300) (.slice (some ad309) l1_2.length c1_2) l1_2):=⟨by rw [← hq_];exact (by (with_reducible repeat first|apply Kd.V_alloc|apply Kd.V_drewN|apply Kd.V_drew);exact HO_30.out)⟩;have n3_ : Aside0 (Kd.N (Kd.slice 2 (Kd.int .i64)) 22 wr w.heap.size (fun k_=>((P0_0_ k_ ∨ P1_2_ k_) ∨ w.heap.size ≤ k_) ∧ some k_ ≠ (.slice Ao42 t303.length co42 : Value).ownBlock ∧ k_ ≠ gb297 ∧ k_ ≠ gb298 ∧ k_ ≠ gb299 ∧ k_ ≠ gb300) u301000 x301000_2):=⟨by rw [← hq_];exact (by (with_reducible repeat first|apply Kd.N_alloc|apply Kd.N_drewN|apply Kd.N_drew);exact HO_301000.out)⟩;have n4_ : Aside0 (Kd.R (Kd.int .i64) 2 wr w.heap.size (fun k_=>(w.heap.size ≤ k_)) (.slice Ao42 t303.length co42) t303):=⟨by rw [← hq_];exact (by (with_reducible repeat first|apply Kd.R_alloc|apply Kd.R_drewN|apply Kd.R_drew);exact HO_301001.out)⟩;have n5_ : Aside0 (wr.heap[gb297]? = some (.cells #[u298000] 44 (0,0))):=⟨by rw [← hq_];exact (by (with_reducible repeat first|apply bN|apply bD|apply bA);exact BK297.out)⟩;have n6_ : Aside0 (wr.heap[gb298]? = some (.cells #[.int .i64 a1_0,.int .i64 a1_1,.slice (some ad309) l1_2.length c1_2] 27 (0,0))):=⟨by rw [← hq_];exact (by (with_reducible repeat first|apply bN|apply bD|apply bA);exact BK298.out)⟩;have n7_ : Aside0 (wr.heap[gb299]? = some (.cells #[.slice none 0 0,.slice none 0 0,.bool x300002_2,.bool x300003_2] 92 (0,0))):=⟨by rw [← hq_];exact (by (with_reducible repeat first|apply bN|apply bD|apply bA);exact BK299.out)⟩;have n8_ : Aside0 (wr.heap[gb300]? = some (.cells #[u301000,.slice Ao42 t303.length co42,.bool true,.bool false] 92 (0,0))):=⟨by rw [← hq_];exact (by (with_reducible repeat first|apply bN|apply bD|apply bA);exact BK300.out)⟩;have n9_ : Aside0 (Below w.heap.size w wr):=⟨by rw [← hq_];exact (by repeat (first|(with_reducible first|exact HB.out|apply bL|apply bM|apply b1|refine bS ?_ GE297.out|refine bS ?_ GE298.out|refine bS ?_ GE299.out|refine bS ?_ GE300.out)|exact HB.out))⟩;clear HO_298000 HO_299002 HO_30 HO_301000 HO_301001 BK297 BK298 BK299 BK300 HB hq_;have HO_298000:=n0_;have HO_299002:=n1_;have HO_30:=n2_;have HO_301000:=n3_;have HO_301001:=n4_;have BK297:=n5_;have BK298:=n6_;have BK299:=n7_;have BK300:=n8_;have HB:=n9_;clear n0_ n1_ n2_ n3_ n4_ n5_ n6_ n7_ n8_ n9_;(try replace hcz91_0:=(bC BK300.out 0).trans (rfl : _ = some _));(try replace hcz91_1:=(bC BK300.out 1).trans (rfl : _ = some _));(try replace hcz91_2:=(bC BK300.out 2).trans (rfl : _ = some _));(try replace hcz91_3:=(bC BK300.out 3).trans (rfl : _ = some _));(try replace hfz91_0:=blk_frozen BK300.out 0);(try replace hfz91_1:=blk_frozen BK300.out 1);(try replace hfz91_2:=blk_frozen BK300.out 2);(try replace hfz91_3:=blk_frozen BK300.out 3)));obtain ⟨Ao92,co92,eo92⟩:=Kd.N_slice HO_301000.out;subst eo92;have p311 : 0 ≤ (t310 : Int):=of_decide_eq_true (by first|(with_reducible assumption)|assumption);have q311 : t310 < (x301000_2.length : Int):=of_decide_eq_true (by first|(with_reducible assumption)|assumption);obtain ⟨ad311,A311_0,c311_0,e311,hx311_0,hl311_0,hi311_0⟩:=at_L1 (Kd.N_reads' HO_301000.out).2.2 t310 p311 q311;cases e311;obtain ⟨ce311,hce311,hMe311,hcc311⟩:=Kd.N_get HO_301000.out [] t310 p311 (by first|exact q311|exact of_decide_eq_true (by first|(with_reducible assumption)|assumption)|(have e_:=(Kd.N_reads' HO_301000.out).1;omega));obtain ⟨ua311_0,uc311_0,rfl,ul311_0,ge311_0⟩:=Kd.FK_slice_open hMe311;have hv311_0:=hcc311 0 _ rfl;rw [Nat.add_zero,show ((Kd.slice 2 (Kd.int .i64))).sz = 1 from rfl,Nat.mul_one] at hv311_0;replace hv311_0:=Option.some.inj (hv311_0.symm.trans hx311_0);injection hv311_0 with hva_ hvn_ hvc_;rw [hva_] at ge311_0;rw [hvc_] at ul311_0;have HL311_0:=aK (show Kd.V (Kd.int .i64) 2 _ w.heap.size _ _ (rd_L1 x301000_2 t310) from Kd.V_mk ul311_0 ge311_0);clear hva_ hvn_ hvc_ ge311_0 ul311_0;clear hcc311 hce311;have HR311_0:=aK hi311_0;have HC311_0:=aK hl311_0;clear hi311_0 hl311_0;replace p311:=eq_true p311;replace q311:=eq_true q311)|((with_reducible refine gate_callee (f:=122) rfl ?_);refine goesL_ (some 48) rfl rfl Try.func122 (by kernel_rfl) rfl #[.slice A311_0 (rd_L1 x301000_2 t310).length c311_0,.int .i64 (rd l1_2 x32_2)] rfl (by (try simp only [mA,mC,mN]);first|done|rfl) ?_;(with_reducible refine (slices_Contains_int64_int64.calls k2 _ _ (rd_L1 x301000_2 t310) (rd l1_2 x32_2) true _ ?side1 ?side2 A58.out).mono ?_);(case side1=>repeat (first|exact (by repeat (first|(with_reducible exact HR311_0.out)|(with_reducible refine Kd.C_alloc ?_ _)|(with_reducible refine Kd.C_drewN ?_ _)|(with_reducible refine Kd.C_drew ?_)|exact HR311_0.out))|(with_reducible refine Kd.C_alloc ?_ _)|(with_reducible refine Kd.C_drewN ?_ _)|(with_reducible refine Kd.C_drew ?_)));(case side2=>exact HC311_0.out);rintro e w' ⟨rfl,⟨nd,rfl⟩⟩;refine ⟨_,rfl,?_⟩;(try (rw [drewN_self wr];generalize hq_ : World.drewN wr _ = wr;have n0_ : Aside0 (Kd.V (Kd.int .i64) 2 wr w.heap.size (fun k_=>((P0_0_ k_ ∨ P1_2_ k_) ∨ w.heap.size ≤ k_) ∧ some k_ ≠ (.slice (some ad311) x301000_2.length co92 : Value).ownBlock ∧ some k_ ≠ (.slice Ao42 t303.length co42 : Value).ownBlock ∧ k_ ≠ gb297 ∧ k_ ≠ gb298 ∧ k_ ≠ gb299 ∧ k_ ≠ gb300) (.slice A311_0 (rd_L1 x301000_2 t310).length c311_0) (rd_L1 x301000_2 t310)):=⟨by rw [← hq_];exact (by (with_reducible repeat first|apply Kd.V_alloc|apply Kd.V_drewN|apply Kd.V_drew);exact Kd.V_mono HL311_0.out (fun _ hk=>⟨hk.1.1,⟨hk.2,⟨hk.1.2.1,⟨hk.1.2.2.1,⟨hk.1.2.2.2.1,⟨hk.1.2.2.2.2.1,hk.1.2.2.2.2.2⟩⟩⟩⟩⟩⟩))⟩;have n1_ : Aside0 (Kd.V (Kd.slice 2 (Kd.int .i64)) 22 wr w.heap.size (fun k_=>((P0_0_ k_ ∨ P1_2_ k_) ∨ w.heap.size ≤ k_) ∧ some k_ ≠ (.slice (some ad311) x301000_2.length co92 : Value).ownBlock ∧ some k_ ≠ (.slice Ao42 t303.length co42 : Value).ownBlock ∧ k_ ≠ gb297 ∧ k_ ≠ gb298 ∧ k_ ≠ gb299 ∧ k_ ≠ gb300) u298000 x298000_2):=⟨by rw [← hq_];exact (by (with_reducible repeat first|apply Kd.V_alloc|apply Kd.V_drewN|apply Kd.V_drew);exact HO_298000.out)⟩;have n2_ : Aside0 (Kd.V (Kd.int .i64) 2 wr w.heap.size (fun k_=>((P0_0_ k_ ∨ P1_2_ k_) ∨ w.heap.size ≤ k_) ∧ some k_ ≠ (.slice (some ad311) x301000_2.length co92 : Value).ownBlock ∧ some k_ ≠ (.slice Ao42 t303.length co42 : Value).ownBlock ∧ k_ ≠ gb297 ∧ k_ ≠ gb298 ∧ k_ ≠ gb299 ∧ k_ ≠ gb300) (.slice (some ad309) l1_2.length c1_2) l1_2):=⟨by rw [← hq_];exact (by (with_reducible repeat first|apply Kd.V_alloc|apply Kd.V_drewN|apply Kd.V_drew);exact HO_299002.out)⟩;have n3_ : Aside0 (Kd.V (Kd.int .i64) 2 wr w.heap.size (fun k_=>((P0_0_ k_ ∨ P1_2_ k_) ∨ w.heap.size ≤ k_) ∧ some k_ ≠ (.slice (some ad311) x301000_2.length co92 : Value).ownBlock ∧ some k_ ≠ (.slice Ao42 t303.length co42 : Value).ownBlock ∧ k_ ≠ gb297 ∧ k_ ≠ gb298 ∧ k_ ≠ gb299 ∧ k_ ≠ gb300) (.slice (some ad309) l1_2.length c1_2) l1_2):=⟨by rw [← hq_];exact (by (with_reducible repeat first|apply Kd.V_alloc|apply Kd.V_drewN|apply Kd.V_drew);exact HO_30.out)⟩;have n4_ : Aside0 (Kd.N (Kd.slice 2 (Kd.int .i64)) 22 wr w.heap.size (fun k_=>((P0_0_ k_ ∨ P1_2_ k_) ∨ w.heap.size ≤ k_) ∧ some k_ ≠ (.slice Ao42 t303.length co42 : Value).ownBlock ∧ k_ ≠ gb297 ∧ k_ ≠ gb298 ∧ k_ ≠ gb299 ∧ k_ ≠ gb300) (.slice (some ad311) x301000_2.length co92) x301000_2):=⟨by rw [← hq_];exact (by (with_reducible repeat first|apply Kd.N_alloc|apply Kd.N_drewN|apply Kd.N_drew);exact HO_301000.out)⟩;have n5_ : Aside0 (Kd.R (Kd.int .i64) 2 wr w.heap.size (fun k_=>(w.heap.size ≤ k_)) (.slice Ao42 t303.length co42) t303):=⟨by rw [← hq_];exact (by (with_reducible repeat first|apply Kd.R_alloc|apply Kd.R_drewN|apply Kd.R_drew);exact HO_301001.out)⟩;have n6_ : Aside0 (wr.heap[gb297]? = some (.cells #[u298000] 44 (0,0))):=⟨by rw [← hq_];exact (by (with_reducible repeat first|apply bN|apply bD|apply bA);exact BK297.out)⟩;have n7_ : Aside0 (wr.heap[gb298]? = some (.cells #[.int .i64 a1_0,.int .i64 a1_1,.slice (some ad309) l1_2.length c1_2] 27 (0,0))):=⟨by rw [← hq_];exact (by (with_reducible repeat first|apply bN|apply bD|apply bA);exact BK298.out)⟩;have n8_ : Aside0 (wr.heap[gb299]? = some (.cells #[.slice none 0 0,.slice none 0 0,.bool x300002_2,.bool x300003_2] 92 (0,0))):=⟨by rw [← hq_];exact (by (with_reducible repeat first|apply bN|apply bD|apply bA);exact BK299.out)⟩;have n9_ : Aside0 (wr.heap[gb300]? = some (.cells #[.slice (some ad311) x301000_2.length co92,.slice Ao42 t303.length co42,.bool true,.bool false] 92 (0,0))):=⟨by rw [← hq_];exact (by (with_reducible repeat first|apply bN|apply bD|apply bA);exact BK300.out)⟩;have n10_ : Aside0 (Below w.heap.size w wr):=⟨by rw [← hq_];exact (by repeat (first|(with_reducible first|exact HB.out|apply bL|apply bM|apply b1|refine bS ?_ GE297.out|refine bS ?_ GE298.out|refine bS ?_ GE299.out|refine bS ?_ GE300.out)|exact HB.out))⟩;have n11_ : Aside0 (Kd.C (Kd.int .i64) wr A311_0 (rd_L1 x301000_2 t310).length (rd_L1 x301000_2 t310)):=⟨by rw [← hq_];exact (by repeat (first|(with_reducible exact HR311_0.out)|(with_reducible refine Kd.C_alloc ?_ _)|(with_reducible refine Kd.C_drewN ?_ _)|(with_reducible refine Kd.C_drew ?_)|exact HR311_0.out))⟩;clear HL311_0 HO_298000 HO_299002 HO_30 HO_301000 HO_301001 BK297 BK298 BK299 BK300 HB HR311_0 hq_;have HL311_0:=n0_;have HO_298000:=n1_;have HO_299002:=n2_;have HO_30:=n3_;have HO_301000:=n4_;have HO_301001:=n5_;have BK297:=n6_;have BK298:=n7_;have BK299:=n8_;have BK300:=n9_;have HB:=n10_;have HR311_0:=n11_;clear n0_ n1_ n2_ n3_ n4_ n5_ n6_ n7_ n8_ n9_ n10_ n11_;(try replace hcz91_0:=(bC BK300.out 0).trans (rfl : _ = some _));(try replace hcz91_1:=(bC BK300.out 1).trans (rfl : _ = some _));(try replace hcz91_2:=(bC BK300.out 2).trans (rfl : _ = some _));(try replace hcz91_3:=(bC BK300.out 3).trans (rfl : _ = some _));(try replace hfz91_0:=blk_frozen BK300.out 0);(try replace hfz91_1:=blk_frozen BK300.out 1);(try replace hfz91_2:=blk_frozen BK300.out 2);(try replace hfz91_3:=blk_frozen BK300.out 3)))))
             have n0_ : Aside0 (Kd.V (Kd.int .i64) 2 (wr.setCell ⟨gb300,3,none⟩ (.bool false)) w.heap.size (fun k_=>((P0_0_ k_ ∨ P1_2_ k_) ∨ w.heap.size ≤ k_) ∧ some k_ ≠ (.slice (some ad311) x301000_2.length co92 : Value).ownBlock ∧ some k_ ≠ (.slice Ao42 t303.length co42 : Value).ownBlock ∧ k_ ≠ gb297 ∧ k_ ≠ gb298 ∧ k_ ≠ gb299 ∧ k_ ≠ gb300) (.slice (some ad309) l1_2.length c1_2) l1_2):=⟨by (with_reducible repeat first|apply Kd.V_alloc|apply Kd.V_drewN|apply Kd.V_drew);exact Kd.V_mono (Kd.V_far (p:=⟨gb300,3,none⟩) (Kd.V_mono HO_30.out (fun k_ hk=>(⟨hk,hk.2.2.2.2.2.2⟩ : _ ∧ k_ ≠ gb300))) (fun _ hk=>hk.2) (.bool false)) (fun _ hk=>⟨hk.1.1,⟨hk.1.2.1,⟨hk.1.2.2.1,⟨hk.1.2.2.2.1,⟨hk.1.2.2.2.2.1,⟨hk.1.2.2.2.2.2.1,hk.1.2.2.2.2.2.2⟩⟩⟩⟩⟩⟩)⟩
             have n1_ : Aside0 (Kd.V (Kd.slice 2 (Kd.int .i64)) 22 (wr.setCell ⟨gb300,3,none⟩ (.bool false)) w.heap.size (fun k_=>((P0_0_ k_ ∨ P1_2_ k_) ∨ w.heap.size ≤ k_) ∧ some k_ ≠ (.slice (some ad311) x301000_2.length co92 : Value).ownBlock ∧ some k_ ≠ (.slice Ao42 t303.length co42 : Value).ownBlock ∧ k_ ≠ gb297 ∧ k_ ≠ gb298 ∧ k_ ≠ gb299 ∧ k_ ≠ gb300) u298000 x298000_2):=⟨by (with_reducible repeat first|apply Kd.V_alloc|apply Kd.V_drewN|apply Kd.V_drew);exact Kd.V_mono (Kd.V_far (p:=⟨gb300,3,none⟩) (Kd.V_mono HO_298000.out (fun k_ hk=>(⟨hk,hk.2.2.2.2.2.2⟩ : _ ∧ k_ ≠ gb300))) (fun _ hk=>hk.2) (.bool false)) (fun _ hk=>⟨hk.1.1,⟨hk.1.2.1,⟨hk.1.2.2.1,⟨hk.1.2.2.2.1,⟨hk.1.2.2.2.2.1,⟨hk.1.2.2.2.2.2.1,hk.1.2.2.2.2.2.2⟩⟩⟩⟩⟩⟩)⟩
             have n2_ : Aside0 (Kd.V (Kd.int .i64) 2 (wr.setCell ⟨gb300,3,none⟩ (.bool false)) w.heap.size (fun k_=>((P0_0_ k_ ∨ P1_2_ k_) ∨ w.heap.size ≤ k_) ∧ some k_ ≠ (.slice (some ad311) x301000_2.length co92 : Value).ownBlock ∧ some k_ ≠ (.slice Ao42 t303.length co42 : Value).ownBlock ∧ k_ ≠ gb297 ∧ k_ ≠ gb298 ∧ k_ ≠ gb299 ∧ k_ ≠ gb300) (.slice (some ad309) l1_2.length c1_2) l1_2):=⟨by (with_reducible repeat first|apply Kd.V_alloc|apply Kd.V_drewN|apply Kd.V_drew);exact Kd.V_mono (Kd.V_far (p:=⟨gb300,3,none⟩) (Kd.V_mono HO_299002.out (fun k_ hk=>(⟨hk,hk.2.2.2.2.2.2⟩ : _ ∧ k_ ≠ gb300))) (fun _ hk=>hk.2) (.bool false)) (fun _ hk=>⟨hk.1.1,⟨hk.1.2.1,⟨hk.1.2.2.1,⟨hk.1.2.2.2.1,⟨hk.1.2.2.2.2.1,⟨hk.1.2.2.2.2.2.1,hk.1.2.2.2.2.2.2⟩⟩⟩⟩⟩⟩)⟩
             have n3_ : Aside0 (Kd.N (Kd.slice 2 (Kd.int .i64)) 22 (wr.setCell ⟨gb300,3,none⟩ (.bool false)) w.heap.size (fun k_=>((P0_0_ k_ ∨ P1_2_ k_) ∨ w.heap.size ≤ k_) ∧ some k_ ≠ (.slice Ao42 t303.length co42 : Value).ownBlock ∧ k_ ≠ gb297 ∧ k_ ≠ gb298 ∧ k_ ≠ gb299 ∧ k_ ≠ gb300) (.slice (some ad311) x301000_2.length co92) x301000_2):=⟨by (with_reducible repeat first|apply Kd.N_alloc|apply Kd.N_drewN|apply Kd.N_drew);exact Kd.N_mono (Kd.N_far (p:=⟨gb300,3,none⟩) (Kd.N_mono HO_301000.out (fun k_ hk=>(⟨hk,hk.2.2.2.2.2⟩ : _ ∧ k_ ≠ gb300))) (fun _ hk=>hk.2) (.bool false)) (fun _ hk=>⟨hk.1.1,⟨hk.1.2.1,⟨hk.1.2.2.1,⟨hk.1.2.2.2.1,⟨hk.1.2.2.2.2.1,hk.1.2.2.2.2.2⟩⟩⟩⟩⟩)⟩
             have n4_ : Aside0 (Kd.R (Kd.int .i64) 2 (wr.setCell ⟨gb300,3,none⟩ (.bool false)) w.heap.size (fun k_=>(w.heap.size ≤ k_)) (.slice Ao42 t303.length co42) t303):=⟨by (with_reducible repeat first|apply Kd.R_alloc|apply Kd.R_drewN|apply Kd.R_drew);exact Kd.R_mono (Kd.R_far (p:=⟨gb300,3,none⟩) (Kd.R_types HO_301001.out BK300.out (by decide)) (fun _ hk=>hk.2) (.bool false)) (fun _ hk=>hk.1)⟩
             have n5_ : Aside0 (Kd.V (Kd.int .i64) 2 (wr.setCell ⟨gb300,3,none⟩ (.bool false)) w.heap.size (fun k_=>((P0_0_ k_ ∨ P1_2_ k_) ∨ w.heap.size ≤ k_) ∧ some k_ ≠ (.slice (some ad311) x301000_2.length co92 : Value).ownBlock ∧ some k_ ≠ (.slice Ao42 t303.length co42 : Value).ownBlock ∧ k_ ≠ gb297 ∧ k_ ≠ gb298 ∧ k_ ≠ gb299 ∧ k_ ≠ gb300) (.slice A311_0 (rd_L1 x301000_2 t310).length c311_0) (rd_L1 x301000_2 t310)):=⟨by (with_reducible repeat first|apply Kd.V_alloc|apply Kd.V_drewN|apply Kd.V_drew);exact Kd.V_mono (Kd.V_far (p:=⟨gb300,3,none⟩) (Kd.V_mono HL311_0.out (fun k_ hk=>(⟨hk,hk.2.2.2.2.2.2⟩ : _ ∧ k_ ≠ gb300))) (fun _ hk=>hk.2) (.bool false)) (fun _ hk=>⟨hk.1.1,⟨hk.1.2.1,⟨hk.1.2.2.1,⟨hk.1.2.2.2.1,⟨hk.1.2.2.2.2.1,⟨hk.1.2.2.2.2.2.1,hk.1.2.2.2.2.2.2⟩⟩⟩⟩⟩⟩)⟩
             have n6_ : Aside0 ((wr.setCell ⟨gb300,3,none⟩ (.bool false)).heap[gb297]? = some (.cells #[u298000] 44 (0,0))):=⟨by (with_reducible repeat first|apply bN|apply bD|apply bA);refine blk_far ?_ NB297_300.out _;(with_reducible repeat first|apply bN|apply bD|apply bA);exact BK297.out⟩
             have n7_ : Aside0 ((wr.setCell ⟨gb300,3,none⟩ (.bool false)).heap[gb298]? = some (.cells #[.int .i64 a1_0,.int .i64 a1_1,.slice (some ad309) l1_2.length c1_2] 27 (0,0))):=⟨by (with_reducible repeat first|apply bN|apply bD|apply bA);refine blk_far ?_ NB298_300.out _;(with_reducible repeat first|apply bN|apply bD|apply bA);exact BK298.out⟩
             have n8_ : Aside0 ((wr.setCell ⟨gb300,3,none⟩ (.bool false)).heap[gb299]? = some (.cells #[.slice none 0 0,.slice none 0 0,.bool x300002_2,.bool x300003_2] 92 (0,0))):=⟨by (with_reducible repeat first|apply bN|apply bD|apply bA);refine blk_far ?_ NB299_300.out _;(with_reducible repeat first|apply bN|apply bD|apply bA);exact BK299.out⟩
             have n9_ : Aside0 ((wr.setCell ⟨gb300,3,none⟩ (.bool false)).heap[gb300]? = some (.cells #[.slice (some ad311) x301000_2.length co92,.slice Ao42 t303.length co42,.bool true,.bool false] 92 (0,0))):=⟨by (with_reducible repeat first|apply bN|apply bD|apply bA);refine blk_put (cs:=#[.slice (some ad311) x301000_2.length co92,.slice Ao42 t303.length co42,.bool true,.bool false]) ?_ 3 _ rfl;(with_reducible repeat first|apply bN|apply bD|apply bA);exact BK300.out⟩
             have n10_ : Aside0 (Below w.heap.size w (wr.setCell ⟨gb300,3,none⟩ (.bool false))):=⟨by repeat (first|(with_reducible first|exact HB.out|apply bL|apply bM|apply b1|refine bS ?_ GE297.out|refine bS ?_ GE298.out|refine bS ?_ GE299.out|refine bS ?_ GE300.out)|exact HB.out)⟩
             (try clear HO_30)
             (try clear HO_298000)
             (try clear HO_299002)
             (try clear HO_301000)
             (try clear HO_301001)
             (try clear HL311_0)
             (try clear BK297)
             (try clear BK298)
             (try clear BK299)
             (try clear BK300)
             (try clear HB)
             generalize (wr.setCell ⟨gb300,3,none⟩ (.bool false)) = w93 at n0_ n1_ n2_ n3_ n4_ n5_ n6_ n7_ n8_ n9_ n10_ ⊢
             have HO_30:=n0_
             have HO_298000:=n1_
             have HO_299002:=n2_
             have HO_301000:=n3_
             have HO_301001:=n4_
             have HL311_0:=n5_
             have BK297:=n6_
             have BK298:=n7_
             have BK299:=n8_
             have BK300:=n9_
             have HB:=n10_
             clear n0_ n1_ n2_ n3_ n4_ n5_ n6_ n7_ n8_ n9_ n10_
             have n0_:=aK (Kd.V_drew HO_30.out)
             have n1_:=aK (Kd.V_drew HO_298000.out)
             have n2_:=aK (Kd.V_drew HO_299002.out)
             have n3_:=aK (Kd.N_drew HO_301000.out)
             have n4_:=aK (Kd.R_drew HO_301001.out)
             have n5_:=aK (Kd.V_drew HL311_0.out)
             have n6_:=aK (bD BK297.out)
             have n7_:=aK (bD BK298.out)
             have n8_:=aK (bD BK299.out)
             have n9_:=aK (bD BK300.out)
             have n10_:=aK (b1 HB.out)
             clear HO_30
             clear HO_298000
             clear HO_299002
             clear HO_301000
             clear HO_301001
             clear HL311_0
             clear BK297
             clear BK298
             clear BK299
             clear BK300
             clear HB
             have HO_30:=n0_
             have HO_298000:=n1_
             have HO_299002:=n2_
             have HO_301000:=n3_
             have HO_301001:=n4_
             have HL311_0:=n5_
             have BK297:=n6_
             have BK298:=n7_
             have BK299:=n8_
             have BK300:=n9_
             have HB:=n10_
             clear n0_ n1_ n2_ n3_ n4_ n5_ n6_ n7_ n8_ n9_ n10_
             refine start_ (n:=8) (S:=fun w'=>w'.cell? ⟨gb300,0,none⟩ = some (.slice (some ad311) x301000_2.length co92) ∧ w'.cell? ⟨gb300,1,none⟩ = some (.slice Ao42 t303.length co42) ∧ w'.cell? ⟨gb300,2,none⟩ = some (.bool true) ∧ w'.cell? ⟨gb300,3,none⟩ = some (.bool false)) (ds:=[7]) #[false,false,false,false,false,false,false,false] (by kernel_rfl) rfl rfl ⟨(bC BK300.out 0).trans rfl,(bC BK300.out 1).trans rfl,(bC BK300.out 2).trans rfl,(bC BK300.out 3).trans rfl⟩ (fun hHeld=>?_);refine with_tabW impl_recordOf.tab13 impl_recordOf.bits13 (fun HT_ HW_=>?_)
             generalize w93.drew = w94 at HO_30 HO_298000 HO_299002 HO_301000 HO_301001 HL311_0 BK297 BK298 BK299 BK300 HB hHeld ⊢
             refine pure_ (i:=0) (N:=some 65) (v:=?_) (a':=?_) #[true,false,false,false,false,false,false,false] rfl rfl (any_of HT_.out (by kernel_rfl)) (fun _ _ _ h=>h) (Or.inl ⟨by rfl,?_⟩) ?_ ?_
             rotate_left
             ·intro w'
              go_simp
              with_reducible rfl
             rotate_left
             ·simp only [Act.put,lA,l0',lS,i64_w,i32_w]
              rfl
             refine pure_ (i:=2) (N:=some 67) (v:=?_) (a':=?_) #[true,false,true,false,false,false,false,false] rfl rfl (any_of HT_.out (by kernel_rfl)) (fun _ _ _ h=>h) (Or.inl ⟨by rfl,?_⟩) ?_ ?_
             rotate_left
             ·intro w'
              go_simp
              with_reducible rfl
             rotate_left
             ·simp only [Act.put,lA,l0',lS,i64_w,i32_w]
              rfl
             refine pure_ (i:=3) (N:=some 68) (v:=?_) (a':=?_) #[true,false,true,true,false,false,false,false] rfl rfl (any_of HT_.out (by kernel_rfl)) (fun _ _ _ h=>h) (Or.inl ⟨by rfl,?_⟩) ?_ ?_
             rotate_left
             ·intro w'
              go_simp
              with_reducible rfl
             rotate_left
             ·simp only [Act.put,lA,l0',lS,i64_w,i32_w]
              rfl
             refine pure_ (i:=4) (N:=some 69) (v:=?_) (a':=?_) #[true,false,true,true,true,false,false,false] rfl rfl (any_of HT_.out (by kernel_rfl)) (fun _ _ _ h=>h) (Or.inl ⟨by rfl,?_⟩) ?_ ?_
             rotate_left
             ·intro w'
              go_simp
              with_reducible rfl
             rotate_left
             ·simp only [Act.put,lA,l0',lS,i64_w,i32_w]
              rfl
             refine take_ (i:=1) (N:=some 66) (v:=?_) (a':=?_) #[true,true,true,true,true,false,false,false] rfl rfl (take_ofW HT_.out HW_.out (by kernel_rfl)) (fun _ _ _ h=>h) (Or.inl ⟨by rfl,?_⟩) hHeld ?_ ?_
             rotate_left
             ·rintro w' ⟨s0,s1,s2,s3⟩
              go_simp
              with_reducible rfl
             rotate_left
             ·simp only [Act.put,lA,l0',lS,i64_w,i32_w]
              rfl
             refine one_ (i:=5) (N:=some 70) #[true,true,true,true,true,true,false,false] rfl rfl (one_of HT_.out (by kernel_rfl)) (by decide) (fun K hK=>?_)
             refine goes_ Try.func145 (by kernel_rfl) rfl #[.slice A311_0 (rd_L1 x301000_2 t310).length c311_0,.int .i64 (rd l1_2 x32_2)] (by rfl) rfl rfl (by (try simp only [mA,mC,mN]);first|done|rfl) ?_
             with_reducible refine (impl_without.calls _ _ (rd_L1 x301000_2 t310) (rd l1_2 x32_2) t329 _ ?side1 ?side2 A86.out).mono ?_
             (case side1=>repeat (first|exact ((Kd.V_reads' (by (with_reducible repeat first|apply Kd.V_alloc|apply Kd.V_drewN|apply Kd.V_drew);exact HL311_0.out)).2.2)|(with_reducible refine Kd.C_alloc ?_ _)|(with_reducible refine Kd.C_drewN ?_ _)|(with_reducible refine Kd.C_drew ?_)))
             (case side2=>exact HC311_0.out)
             rintro e w95 ⟨v330,rfl,ho0,hb⟩
             refine ⟨_,rfl,?_⟩
             have n0_:=aK (Kd.V_elder' (by (with_reducible repeat first|apply Kd.V_alloc|apply Kd.V_drewN|apply Kd.V_drew);exact HO_30.out) (Kd.R_base ho0) hb)
             have n1_:=aK (Kd.V_elder' (by (with_reducible repeat first|apply Kd.V_alloc|apply Kd.V_drewN|apply Kd.V_drew);exact HO_298000.out) (Kd.R_base ho0) hb)
             have n2_:=aK (Kd.V_elder' (by (with_reducible repeat first|apply Kd.V_alloc|apply Kd.V_drewN|apply Kd.V_drew);exact HO_299002.out) (Kd.R_base ho0) hb)
             have n3_:=aK (Kd.N_elder' (by (with_reducible repeat first|apply Kd.N_alloc|apply Kd.N_drewN|apply Kd.N_drew);exact HO_301000.out) (Kd.R_base ho0) hb)
             have n4_:=aK (Kd.R_elder' (by (with_reducible repeat first|apply Kd.R_alloc|apply Kd.R_drewN|apply Kd.R_drew);exact HO_301001.out) (Kd.R_base ho0) hb)
             have n5_:=aK (Kd.V_elder' (by (with_reducible repeat first|apply Kd.V_alloc|apply Kd.V_drewN|apply Kd.V_drew);exact HL311_0.out) (Kd.R_base ho0) hb)
             have n6_:=aK (Kd.R_lower (Kd.R_new' (Kd.R_newM (M:=fun k_=>(w.heap.size ≤ k_)) ho0 (below_size (by repeat (first|(with_reducible first|exact HB.out|apply bL|apply bM|apply b1|refine bS ?_ GE297.out|refine bS ?_ GE298.out|refine bS ?_ GE299.out|refine bS ?_ GE300.out)|exact HB.out))) (fun k_ h_=>h_)) (Kd.R_lt (by (with_reducible repeat first|apply Kd.R_alloc|apply Kd.R_drewN|apply Kd.R_drew);exact HO_301001.out))) (below_size (by repeat (first|(with_reducible first|exact HB.out|apply bL|apply bM|apply b1|refine bS ?_ GE297.out|refine bS ?_ GE298.out|refine bS ?_ GE299.out|refine bS ?_ GE300.out)|exact HB.out))))
             have n7_:=aK (bB (by (with_reducible repeat first|apply bN|apply bD|apply bA);exact BK297.out) hb)
             have n8_:=aK (bB (by (with_reducible repeat first|apply bN|apply bD|apply bA);exact BK298.out) hb)
             have n9_:=aK (bB (by (with_reducible repeat first|apply bN|apply bD|apply bA);exact BK299.out) hb)
             have n10_:=aK (bB (by (with_reducible repeat first|apply bN|apply bD|apply bA);exact BK300.out) hb)
             have n11_:=aK (below_step (by repeat (first|(with_reducible first|exact HB.out|apply bL|apply bM|apply b1|refine bS ?_ GE297.out|refine bS ?_ GE298.out|refine bS ?_ GE299.out|refine bS ?_ GE300.out)|exact HB.out)) hb)
             clear HO_30
             clear HO_298000
             clear HO_299002
             clear HO_301000
             clear HO_301001
             clear HL311_0
             clear BK297
             clear BK298
             clear BK299
             clear BK300
             clear HB
             have HO_30:=n0_
             have HO_298000:=n1_
             have HO_299002:=n2_
             have HO_301000:=n3_
             have HO_301001:=n4_
             have HL311_0:=n5_
             have HO331:=n6_
             have BK297:=n7_
             have BK298:=n8_
             have BK299:=n9_
             have BK300:=n10_
             have HB:=n11_
             clear n0_ n1_ n2_ n3_ n4_ n5_ n6_ n7_ n8_ n9_ n10_ n11_
             (try clear hb)
             (try clear hb2)
             (try clear hk)
             (try clear hi)
             (try clear ho0)
             have p87 : 0 ≤ (t310 : Int):=of_decide_eq_true (by first|(with_reducible assumption)|assumption)
             have q87 : (t310 : Int) < ((x301000_2.length : Int) : Int):=of_decide_eq_true (by first|(with_reducible assumption)|assumption)
             obtain ⟨go87,co87,eo87,gb87,gl87,cl87,HG87⟩:=Kd.N_form HO_301000.out (by omega)
             (first|cases eo87|(injection eo87 with ea_ en_ ec_;(first|subst ea_|(injection ea_ with ea_;subst ea_));subst ec_;clear en_))
             have GB87:=aK gb87
             have GG87:=aK HG87
             clear gb87 gl87 HG87
             (first|simp only [add_plain] at hx311_0|skip)
             obtain ⟨ce87,hcl87,hM87,hcc87,hfr87⟩:=Kd.N_elem HO_301000.out [] (t310 : Int) p87 q87
             obtain ⟨ua87_0,uc87_0,rfl,ul87_0,ge87_0⟩:=Kd.FK_slice_open hM87
             have hx87_0:=hcc87 0 _ rfl
             have hf87_0:=hfr87 0
             (try simp only [show ((Kd.slice 2 (Kd.int .i64))).sz = 1 from rfl,Nat.mul_one,Nat.add_zero] at hx87_0)
             (try simp only [show ((Kd.slice 2 (Kd.int .i64))).sz = 1 from rfl,Nat.mul_one,Nat.add_zero] at hf87_0)
             (try clear hM87);clear hcl87 hcc87 hfr87
             replace p87:=eq_true p87
             replace q87:=eq_true q87
             have HX96:=aK (show Kd.N (Kd.slice 2 (Kd.int .i64)) 22 _ w.heap.size (fun k_=>((P0_0_ k_ ∨ P1_2_ k_) ∨ w.heap.size ≤ k_) ∧ some k_ ≠ (.slice Ao42 t303.length co42 : Value).ownBlock ∧ some k_ ≠ (v330 : Value).ownBlock ∧ k_ ≠ gb297 ∧ k_ ≠ gb298 ∧ k_ ≠ gb299 ∧ k_ ≠ gb300) (.slice (some ⟨go87,0,none⟩) x301000_2.length co92) x301000_2 from (Kd.N_mono (HO_301000.out) (fun k_ hk=>⟨hk.1.1,⟨hk.1.2.1,⟨hk.2,⟨hk.1.2.2.1,⟨hk.1.2.2.2.1,⟨hk.1.2.2.2.2.1,hk.1.2.2.2.2.2⟩⟩⟩⟩⟩⟩)))
             replace HX96:=aK (show Kd.N (Kd.slice 2 (Kd.int .i64)) 22 _ w.heap.size (fun k_=>((P0_0_ k_ ∨ P1_2_ k_) ∨ w.heap.size ≤ k_) ∧ some k_ ≠ (.slice Ao42 t303.length co42 : Value).ownBlock ∧ k_ ≠ gb297 ∧ k_ ≠ gb298 ∧ k_ ≠ gb299 ∧ k_ ≠ gb300) (.slice (some ⟨go87,0,none⟩) x301000_2.length co92) x301000_2 from Kd.N_mono HX96.out (fun k_ hk=>⟨hk.1,⟨hk.2.1,⟨hk.2.2.2.1,⟨hk.2.2.2.2.1,⟨hk.2.2.2.2.2.1,hk.2.2.2.2.2.2⟩⟩⟩⟩⟩))
             obtain ⟨ce96,hcl96,hM96,hcc96,hfr96⟩:=Kd.N_elem HX96.out [] (t310 : Int) (of_decide_eq_true (by first|(with_reducible assumption)|assumption)) (by have h_ : (t310 : Int) < ((x301000_2.length : Int) : Int):=of_decide_eq_true (by first|(with_reducible assumption)|assumption);first|exact h_|(have e_:=(Kd.N_reads' HO_301000.out).1;omega)|simpa using h_)
             obtain ⟨ua96_0,uc96_0,rfl,ul96_0,ge96_0⟩:=Kd.FK_slice_open hM96
             have HP96:=(Kd.N_seg HX96.out (t310 : Int) (of_decide_eq_true (by first|(with_reducible assumption)|assumption)) (by have h_ : (t310 : Int) < ((x301000_2.length : Int) : Int):=of_decide_eq_true (by first|(with_reducible assumption)|assumption);first|exact h_|(have e_:=(Kd.N_reads' HO_301000.out).1;omega)|simpa using h_) (seg:=[v330]) (j:=0) hcl96 hcc96 (show 1 ≤ 1 from by decide) (x':=t329) (Kd.FK_of_M (Kd.M_row (Kd.R_mono (ok':=(fun k_=>((fun k_=>((P0_0_ k_ ∨ P1_2_ k_) ∨ w.heap.size ≤ k_) ∧ some k_ ≠ (.slice Ao42 t303.length co42 : Value).ownBlock ∧ k_ ≠ gb297 ∧ k_ ≠ gb298 ∧ k_ ≠ gb299 ∧ k_ ≠ gb300)) k_ ∧ k_ ≠ go87)) (Kd.R_types (Kd.R_types (Kd.R_types (Kd.R_types (Kd.R_apart' (HO331.out) (Kd.N_typed HO_301000.out) (by decide)) BK297.out (by decide)) BK298.out (by decide)) BK299.out (by decide)) BK300.out (by decide)) (fun k_ hk=>⟨⟨(.inr (hk.1.1.1.1.1.1.1)),⟨hk.1.1.1.1.1.2,⟨hk.1.1.1.2,⟨hk.1.1.2,⟨hk.1.2,hk.2⟩⟩⟩⟩⟩,fun e_=>(hk.1.1.1.1.2) (by rw [e_];rfl)⟩)))) (fun _ hk=>hk)).1
             (try simp only [show ((Kd.slice 2 (Kd.int .i64))).sz = 1 from rfl,Nat.mul_one,Nat.add_zero] at HP96)
             rw [← Ny332.out] at HP96
             have HQ96:=aK HP96
             (try clear hM96);clear hcl96 hcc96 hfr96 HP96
             refine hK.out _ _ ⟨(bC BK300.out 0).trans rfl,(bC BK300.out 1).trans rfl,(bC BK300.out 2).trans rfl,(bC BK300.out 3).trans rfl⟩ (fun hHeld=>?_)
             clear hK K
             refine norm_ (a':=?_) ?_ ?_
             rotate_left
             ·show Act.put _ (some 70) _ = _
              simp only [Act.put,lA,l0',lS,i64_w,i32_w]
              rfl
             refine pure_ (i:=6) (N:=some 71) (v:=?_) (a':=?_) #[true,true,true,true,true,true,true,false] rfl rfl (any_of HT_.out (by kernel_rfl)) (fun _ _ _ h=>h) (Or.inl ⟨by rfl,?_⟩) ?_ ?_
             rotate_left
             ·intro w'
              go_simp
              with_reducible rfl
             rotate_left
             ·simp only [Act.put,lA,l0',lS,i64_w,i32_w]
              rfl
             refine last_ (i:=7) (N:=none) #[true,true,true,true,true,true,true,true] rfl rfl (one_of HT_.out (by kernel_rfl)) (by decide) (fun K hK=>?_)
             refine skip_ (w1:=(w95.setCell ⟨go87,(t310 : Int).toNat,none⟩ (v330))) (by rfl) rfl ?_ ?_
             ·obtain ⟨Av_,cv_,ev_⟩:=Kd.R_slice HO331.out
              subst ev_
              go_simp
              try rfl
             refine hK.out _ _ ?_
             clear hK K
             refine done_ (done_of HT_.out (by kernel_rfl)) ?_
             try go_wp2
             go_roundg k2
             case measure=>have:=HJ2.out;have:=HK2.out;omega
             case rel=>exact ⟨(wrap64 (x32_2 + 1)),(x298000_2),(x300002_2),(x300003_2),(y332),(false),(u298000),(.slice (some ⟨go87,0,none⟩) x301000_2.length co92),(by first|rfl|(simp;done)|(simp [*];done)),H',⟨by have:=HJ2.out;have:=HK2.out;omega⟩,⟨by (with_reducible repeat first|apply Kd.V_alloc|apply Kd.V_drewN|apply Kd.V_drew);exact Kd.V_mono (Kd.V_far (p:=⟨go87,(t310 : Int).toNat,none⟩) (Kd.V_mono HO_30.out (fun k_ hk=>(⟨hk,fun e_=>hk.1.2.1 (by rw [e_];rfl)⟩ : _ ∧ k_ ≠ go87))) (fun _ hk=>hk.2) (v330)) (fun _ hk=>⟨hk.1.1.1,⟨hk.1.1.2.1,⟨hk.1.1.2.2.1,⟨hk.1.1.2.2.2.1,⟨hk.1.1.2.2.2.2.1,⟨hk.1.1.2.2.2.2.2.1,hk.1.1.2.2.2.2.2.2⟩⟩⟩⟩⟩⟩)⟩,⟨by (with_reducible repeat first|apply Kd.V_alloc|apply Kd.V_drewN|apply Kd.V_drew);exact Kd.V_mono (Kd.V_far (p:=⟨go87,(t310 : Int).toNat,none⟩) (Kd.V_mono HO_298000.out (fun k_ hk=>(⟨hk,fun e_=>hk.1.2.1 (by rw [e_];rfl)⟩ : _ ∧ k_ ≠ go87))) (fun _ hk=>hk.2) (v330)) (fun _ hk=>⟨hk.1.1.1,⟨hk.1.1.2.1,⟨hk.1.1.2.2.1,⟨hk.1.1.2.2.2.1,⟨hk.1.1.2.2.2.2.1,⟨hk.1.1.2.2.2.2.2.1,hk.1.1.2.2.2.2.2.2⟩⟩⟩⟩⟩⟩)⟩,⟨by (with_reducible repeat first|apply Kd.V_alloc|apply Kd.V_drewN|apply Kd.V_drew);exact Kd.V_mono (Kd.V_far (p:=⟨go87,(t310 : Int).toNat,none⟩) (Kd.V_mono HO_299002.out (fun k_ hk=>(⟨hk,fun e_=>hk.1.2.1 (by rw [e_];rfl)⟩ : _ ∧ k_ ≠ go87))) (fun _ hk=>hk.2) (v330)) (fun _ hk=>⟨hk.1.1.1,⟨hk.1.1.2.1,⟨hk.1.1.2.2.1,⟨hk.1.1.2.2.2.1,⟨hk.1.1.2.2.2.2.1,⟨hk.1.1.2.2.2.2.2.1,hk.1.1.2.2.2.2.2.2⟩⟩⟩⟩⟩⟩)⟩,⟨by (with_reducible repeat first|apply Kd.N_alloc|apply Kd.N_drewN|apply Kd.N_drew);exact HQ96.out⟩,⟨by (with_reducible repeat first|apply Kd.R_alloc|apply Kd.R_drewN|apply Kd.R_drew);exact Kd.R_mono (Kd.R_far (p:=⟨go87,(t310 : Int).toNat,none⟩) (Kd.R_types HO_301001.out GG87.out (by decide)) (fun _ hk=>hk.2) (v330)) (fun _ hk=>hk.1.1)⟩,⟨by (with_reducible repeat first|apply bN|apply bD|apply bA);refine blk_far ?_ (by have h_:=Kd.N_away (g:=gb297) HO_301000.out (fun k_ hk_=>by have h_:=hk_;(try simp only [and_assoc,true_and] at h_);with_reducible first|exact h_.1|exact h_.2.1|exact h_.2.2.1|exact h_.2.2.2.1|exact h_.2.2.2.2.1|exact h_.2.2.2.2.2.1|exact h_.2.2.2.2.2.2.1|exact h_.2.2.2.2.2.2.2.1|exact h_.2.2.2.2.2.2.2.2.1|exact h_.2|exact h_.2.2|exact h_.2.2.2|exact h_.2.2.2.2|exact h_.2.2.2.2.2|exact h_.2.2.2.2.2.2|exact h_.2.2.2.2.2.2.2|exact h_.2.2.2.2.2.2.2.2);intro e_;exact h_ (by rw [e_];rfl)) _;(with_reducible repeat first|apply bN|apply bD|apply bA);exact BK297.out⟩,⟨by (with_reducible repeat first|apply bN|apply bD|apply bA);refine blk_far ?_ (by have h_:=Kd.N_away (g:=gb298) HO_301000.out (fun k_ hk_=>by have h_:=hk_;(try simp only [and_assoc,true_and] at h_);with_reducible first|exact h_.1|exact h_.2.1|exact h_.2.2.1|exact h_.2.2.2.1|exact h_.2.2.2.2.1|exact h_.2.2.2.2.2.1|exact h_.2.2.2.2.2.2.1|exact h_.2.2.2.2.2.2.2.1|exact h_.2.2.2.2.2.2.2.2.1|exact h_.2|exact h_.2.2|exact h_.2.2.2|exact h_.2.2.2.2|exact h_.2.2.2.2.2|exact h_.2.2.2.2.2.2|exact h_.2.2.2.2.2.2.2|exact h_.2.2.2.2.2.2.2.2);intro e_;exact h_ (by rw [e_];rfl)) _;(with_reducible repeat first|apply bN|apply bD|apply bA);exact BK298.out⟩,⟨by (with_reducible repeat first|apply bN|apply bD|apply bA);refine blk_far ?_ (by have h_:=Kd.N_away (g:=gb299) HO_301000.out (fun k_ hk_=>by have h_:=hk_;(try simp only [and_assoc,true_and] at h_);with_reducible first|exact h_.1|exact h_.2.1|exact h_.2.2.1|exact h_.2.2.2.1|exact h_.2.2.2.2.1|exact h_.2.2.2.2.2.1|exact h_.2.2.2.2.2.2.1|exact h_.2.2.2.2.2.2.2.1|exact h_.2.2.2.2.2.2.2.2.1|exact h_.2|exact h_.2.2|exact h_.2.2.2|exact h_.2.2.2.2|exact h_.2.2.2.2.2|exact h_.2.2.2.2.2.2|exact h_.2.2.2.2.2.2.2|exact h_.2.2.2.2.2.2.2.2);intro e_;exact h_ (by rw [e_];rfl)) _;(with_reducible repeat first|apply bN|apply bD|apply bA);exact BK299.out⟩,⟨by (with_reducible repeat first|apply bN|apply bD|apply bA);refine blk_far ?_ (by have h_:=Kd.N_away (g:=gb300) HO_301000.out (fun k_ hk_=>by have h_:=hk_;(try simp only [and_assoc,true_and] at h_);with_reducible first|exact h_.1|exact h_.2.1|exact h_.2.2.1|exact h_.2.2.2.1|exact h_.2.2.2.2.1|exact h_.2.2.2.2.2.1|exact h_.2.2.2.2.2.2.1|exact h_.2.2.2.2.2.2.2.1|exact h_.2.2.2.2.2.2.2.2.1|exact h_.2|exact h_.2.2|exact h_.2.2.2|exact h_.2.2.2.2|exact h_.2.2.2.2.2|exact h_.2.2.2.2.2.2|exact h_.2.2.2.2.2.2.2|exact h_.2.2.2.2.2.2.2.2);intro e_;exact h_ (by rw [e_];rfl)) _;(with_reducible repeat first|apply bN|apply bD|apply bA);exact BK300.out⟩,⟨by repeat (first|(with_reducible first|exact HB.out|apply bL|apply bM|apply b1|refine bS ?_ GB87.out|refine bS ?_ GE297.out|refine bS ?_ GE298.out|refine bS ?_ GE299.out|refine bS ?_ GE300.out)|exact HB.out)⟩⟩
           ·replace c59:=Bool.eq_false_iff.mpr c59
            subst c59
            have H1 : (some (([] : List (List Int)),([] : List Int),false,false)) = some (r1,r2,r3,r4):=by rw [if_neg (show ¬ (false = true) by decide)] at H;exact H
            clear H
            have H:=H1
            clear H1
            simp only [Option.some.injEq,Prod.mk.injEq] at H
            obtain ⟨rfl,rfl,rfl,rfl⟩:=H
            have p309 : 0 ≤ (x32_2 : Int):=of_decide_eq_true (by first|(with_reducible assumption)|assumption)
            have q309 : x32_2 < (l1_2.length : Int):=of_decide_eq_true (by first|(with_reducible assumption)|assumption)
            obtain ⟨ad309,e309,hx309_0⟩:=Kd.at_int (Kd.V_reads' HO_30.out).2.2 x32_2 p309 q309
            cases e309
            replace p309:=eq_true p309
            replace q309:=eq_true q309
            have hnb97:=NB300_297.out
            have hnc97:=NB297_300.out
            have hnb98:=NB300_298.out
            have hnc98:=NB298_300.out
            have hnb99:=NB300_299.out
            have hnc99:=NB299_300.out
            have hcz100_0 : wr.cell? ⟨gb300,0,none⟩ = some (u301000):=(bC BK300.out 0).trans rfl
            have hcz100_1 : wr.cell? ⟨gb300,1,none⟩ = some (.slice Ao42 t303.length co42):=(bC BK300.out 1).trans rfl
            have hcz100_2 : wr.cell? ⟨gb300,2,none⟩ = some (.bool true):=(bC BK300.out 2).trans rfl
            have hcz100_3 : wr.cell? ⟨gb300,3,none⟩ = some (.bool x301003_2):=(bC BK300.out 3).trans rfl
            have hfz100_0:=blk_frozen BK300.out 0
            have hfz100_1:=blk_frozen BK300.out 1
            have hfz100_2:=blk_frozen BK300.out 2
            have hfz100_3:=blk_frozen BK300.out 3
            go_wp2_with (first|((with_reducible refine gate_callee (f:=110) rfl ?_);refine goesL_ (some 40) rfl rfl Try.func110 (by kernel_rfl) rfl #[.slice Ao42 t303.length co42,.int .i64 x32_2] rfl (by (try simp only [mA,mC,mN]);first|done|rfl) ?_;(with_reducible refine (impl_seatOf.calls _ _ t303 x32_2 t310 _ ?side1 ?side2 A55.out).mono ?_);(case side1=>repeat (first|exact (Kd.R_reads' HO_301001.out).2.2|(with_reducible refine Kd.C_alloc ?_ _)|(with_reducible refine Kd.C_drewN ?_ _)|(with_reducible refine Kd.C_drew ?_)));(case side2=>exact (Kd.R_reads' HO_301001.out).2.1);rintro e w' ⟨rfl,⟨nd,rfl⟩⟩;refine ⟨_,rfl,?_⟩;(try (rw [drewN_self wr];generalize hq_ : World.drewN wr _ = wr;have n0_ : Aside0 (Kd.V (Kd.slice 2 (Kd.int .i64)) 22 wr w.heap.size (fun k_=>((P0_0_ k_ ∨ P1_2_ k_) ∨ w.heap.size ≤ k_) ∧ some k_ ≠ (u301000 : Value).ownBlock ∧ some k_ ≠ (.slice Ao42 t303.length co42 : Value).ownBlock ∧ k_ ≠ gb297 ∧ k_ ≠ gb298 ∧ k_ ≠ gb299 ∧ k_ ≠ gb300) u298000 x298000_2):=⟨by rw [← hq_];exact (by (with_reducible repeat first|apply Kd.V_alloc|apply Kd.V_drewN|apply Kd.V_drew);exact HO_298000.out)⟩;have n1_ : Aside0 (Kd.V (Kd.int .i64) 2 wr w.heap.size (fun k_=>((P0_0_ k_ ∨ P1_2_ k_) ∨ w.heap.size ≤ k_) ∧ some k_ ≠ (u301000 : Value).ownBlock ∧ some k_ ≠ (.slice Ao42 t303.length co42 : Value).ownBlock ∧ k_ ≠ gb297 ∧ k_ ≠ gb298 ∧ k_ ≠ gb299 ∧ k_ ≠ gb300) (.slice (some ad309) l1_2.length c1_2) l1_2):=⟨by rw [← hq_];exact (by (with_reducible repeat first|apply Kd.V_alloc|apply Kd.V_drewN|apply Kd.V_drew);exact HO_299002.out)⟩;have n2_ : Aside0 (Kd.V (Kd.int .i64) 2 wr w.heap.size (fun k_=>((P0_0_ k_ ∨ P1_2_ k_) ∨ w.heap.size ≤ k_) ∧ some k_ ≠ (u301000 : Value).ownBlock ∧ some k_ ≠ (.slice Ao42 t303.length co42 : Value).ownBlock ∧ k_ ≠ gb297 ∧ k_ ≠ gb298 ∧ k_ ≠ gb299 ∧ k_ ≠ gb300) (.slice (some ad309) l1_2.length c1_2) l1_2):=⟨by rw [← hq_];exact (by (with_reducible repeat first|apply Kd.V_alloc|apply Kd.V_drewN|apply Kd.V_drew);exact HO_30.out)⟩;have n3_ : Aside0 (Kd.N (Kd.slice 2 (Kd.int .i64)) 22 wr w.heap.size (fun k_=>((P0_0_ k_ ∨ P1_2_ k_) ∨ w.heap.size ≤ k_) ∧ some k_ ≠ (.slice Ao42 t303.length co42 : Value).ownBlock ∧ k_ ≠ gb297 ∧ k_ ≠ gb298 ∧ k_ ≠ gb299 ∧ k_ ≠ gb300) u301000 x301000_2):=⟨by rw [← hq_];exact (by (with_reducible repeat first|apply Kd.N_alloc|apply Kd.N_drewN|apply Kd.N_drew);exact HO_301000.out)⟩;have n4_ : Aside0 (Kd.R (Kd.int .i64) 2 wr w.heap.size (fun k_=>(w.heap.size ≤ k_)) (.slice Ao42 t303.length co42) t303):=⟨by rw [← hq_];exact (by (with_reducible repeat first|apply Kd.R_alloc|apply Kd.R_drewN|apply Kd.R_drew);exact HO_301001.out)⟩;have n5_ : Aside0 (wr.heap[gb297]? = some (.cells #[u298000] 44 (0,0))):=⟨by rw [← hq_];exact (by (with_reducible repeat first|apply bN|apply bD|apply bA);exact BK297.out)⟩;have n6_ : Aside0 (wr.heap[gb298]? = some (.cells #[.int .i64 a1_0,.int .i64 a1_1,.slice (some ad309) l1_2.length c1_2] 27 (0,0))):=⟨by rw [← hq_];exact (by (with_reducible repeat first|apply bN|apply bD|apply bA);exact BK298.out)⟩;have n7_ : Aside0 (wr.heap[gb299]? = some (.cells #[.slice none 0 0,.slice none 0 0,.bool x300002_2,.bool x300003_2] 92 (0,0))):=⟨by rw [← hq_];exact (by (with_reducible repeat first|apply bN|apply bD|apply bA);exact BK299.out)⟩;have n8_ : Aside0 (wr.heap[gb300]? = some (.cells #[u301000,.slice Ao42 t303.length co42,.bool true,.bool x301003_2] 92 (0,0))):=⟨by rw [← hq_];exact (by (with_reducible repeat first|apply bN|apply bD|apply bA);exact BK300.out)⟩;have n9_ : Aside0 (Below w.heap.size w wr):=⟨by rw [← hq_];exact (by repeat (first|(with_reducible first|exact HB.out|apply bL|apply bM|apply b1|refine bS ?_ GE297.out|refine bS ?_ GE298.out|refine bS ?_ GE299.out|refine bS ?_ GE300.out)|exact HB.out))⟩;clear HO_298000 HO_299002 HO_30 HO_301000 HO_301001 BK297 BK298 BK299 BK300 HB hq_;have HO_298000:=n0_;have HO_299002:=n1_;have HO_30:=n2_;have HO_301000:=n3_;have HO_301001:=n4_;have BK297:=n5_;have BK298:=n6_;have BK299:=n7_;have BK300:=n8_;have HB:=n9_;clear n0_ n1_ n2_ n3_ n4_ n5_ n6_ n7_ n8_ n9_;(try replace hcz100_0:=(bC BK300.out 0).trans (rfl : _ = some _));(try replace hcz100_1:=(bC BK300.out 1).trans (rfl : _ = some _));(try replace hcz100_2:=(bC BK300.out 2).trans (rfl : _ = some _));(try replace hcz100_3:=(bC BK300.out 3).trans (rfl : _ = some _));(try replace hfz100_0:=blk_frozen BK300.out 0);(try replace hfz100_1:=blk_frozen BK300.out 1);(try replace hfz100_2:=blk_frozen BK300.out 2);(try replace hfz100_3:=blk_frozen BK300.out 3)));obtain ⟨Ao101,co101,eo101⟩:=Kd.N_slice HO_301000.out;subst eo101;have p311 : 0 ≤ (t310 : Int):=of_decide_eq_true (by first|(with_reducible assumption)|assumption);have q311 : t310 < (x301000_2.length : Int):=of_decide_eq_true (by first|(with_reducible assumption)|assumption);obtain ⟨ad311,A311_0,c311_0,e311,hx311_0,hl311_0,hi311_0⟩:=at_L1 (Kd.N_reads' HO_301000.out).2.2 t310 p311 q311;cases e311;obtain ⟨ce311,hce311,hMe311,hcc311⟩:=Kd.N_get HO_301000.out [] t310 p311 (by first|exact q311|exact of_decide_eq_true (by first|(with_reducible assumption)|assumption)|(have e_:=(Kd.N_reads' HO_301000.out).1;omega));obtain ⟨ua311_0,uc311_0,rfl,ul311_0,ge311_0⟩:=Kd.FK_slice_open hMe311;have hv311_0:=hcc311 0 _ rfl;rw [Nat.add_zero,show ((Kd.slice 2 (Kd.int .i64))).sz = 1 from rfl,Nat.mul_one] at hv311_0;replace hv311_0:=Option.some.inj (hv311_0.symm.trans hx311_0);injection hv311_0 with hva_ hvn_ hvc_;rw [hva_] at ge311_0;rw [hvc_] at ul311_0;have HL311_0:=aK (show Kd.V (Kd.int .i64) 2 _ w.heap.size _ _ (rd_L1 x301000_2 t310) from Kd.V_mk ul311_0 ge311_0);clear hva_ hvn_ hvc_ ge311_0 ul311_0;clear hcc311 hce311;have HR311_0:=aK hi311_0;have HC311_0:=aK hl311_0;clear hi311_0 hl311_0;replace p311:=eq_true p311;replace q311:=eq_true q311)|((with_reducible refine gate_callee (f:=122) rfl ?_);refine goesL_ (some 48) rfl rfl Try.func122 (by kernel_rfl) rfl #[.slice A311_0 (rd_L1 x301000_2 t310).length c311_0,.int .i64 (rd l1_2 x32_2)] rfl (by (try simp only [mA,mC,mN]);first|done|rfl) ?_;(with_reducible refine (slices_Contains_int64_int64.calls k2 _ _ (rd_L1 x301000_2 t310) (rd l1_2 x32_2) false _ ?side1 ?side2 A58.out).mono ?_);(case side1=>repeat (first|exact (by repeat (first|(with_reducible exact HR311_0.out)|(with_reducible refine Kd.C_alloc ?_ _)|(with_reducible refine Kd.C_drewN ?_ _)|(with_reducible refine Kd.C_drew ?_)|exact HR311_0.out))|(with_reducible refine Kd.C_alloc ?_ _)|(with_reducible refine Kd.C_drewN ?_ _)|(with_reducible refine Kd.C_drew ?_)));(case side2=>exact HC311_0.out);rintro e w' ⟨rfl,⟨nd,rfl⟩⟩;refine ⟨_,rfl,?_⟩;(try (rw [drewN_self wr];generalize hq_ : World.drewN wr _ = wr;have n0_ : Aside0 (Kd.V (Kd.int .i64) 2 wr w.heap.size (fun k_=>((P0_0_ k_ ∨ P1_2_ k_) ∨ w.heap.size ≤ k_) ∧ some k_ ≠ (.slice (some ad311) x301000_2.length co101 : Value).ownBlock ∧ some k_ ≠ (.slice Ao42 t303.length co42 : Value).ownBlock ∧ k_ ≠ gb297 ∧ k_ ≠ gb298 ∧ k_ ≠ gb299 ∧ k_ ≠ gb300) (.slice A311_0 (rd_L1 x301000_2 t310).length c311_0) (rd_L1 x301000_2 t310)):=⟨by rw [← hq_];exact (by (with_reducible repeat first|apply Kd.V_alloc|apply Kd.V_drewN|apply Kd.V_drew);exact Kd.V_mono HL311_0.out (fun _ hk=>⟨hk.1.1,⟨hk.2,⟨hk.1.2.1,⟨hk.1.2.2.1,⟨hk.1.2.2.2.1,⟨hk.1.2.2.2.2.1,hk.1.2.2.2.2.2⟩⟩⟩⟩⟩⟩))⟩;have n1_ : Aside0 (Kd.V (Kd.slice 2 (Kd.int .i64)) 22 wr w.heap.size (fun k_=>((P0_0_ k_ ∨ P1_2_ k_) ∨ w.heap.size ≤ k_) ∧ some k_ ≠ (.slice (some ad311) x301000_2.length co101 : Value).ownBlock ∧ some k_ ≠ (.slice Ao42 t303.length co42 : Value).ownBlock ∧ k_ ≠ gb297 ∧ k_ ≠ gb298 ∧ k_ ≠ gb299 ∧ k_ ≠ gb300) u298000 x298000_2):=⟨by rw [← hq_];exact (by (with_reducible repeat first|apply Kd.V_alloc|apply Kd.V_drewN|apply Kd.V_drew);exact HO_298000.out)⟩;have n2_ : Aside0 (Kd.V (Kd.int .i64) 2 wr w.heap.size (fun k_=>((P0_0_ k_ ∨ P1_2_ k_) ∨ w.heap.size ≤ k_) ∧ some k_ ≠ (.slice (some ad311) x301000_2.length co101 : Value).ownBlock ∧ some k_ ≠ (.slice Ao42 t303.length co42 : Value).ownBlock ∧ k_ ≠ gb297 ∧ k_ ≠ gb298 ∧ k_ ≠ gb299 ∧ k_ ≠ gb300) (.slice (some ad309) l1_2.length c1_2) l1_2):=⟨by rw [← hq_];exact (by (with_reducible repeat first|apply Kd.V_alloc|apply Kd.V_drewN|apply Kd.V_drew);exact HO_299002.out)⟩;have n3_ : Aside0 (Kd.V (Kd.int .i64) 2 wr w.heap.size (fun k_=>((P0_0_ k_ ∨ P1_2_ k_) ∨ w.heap.size ≤ k_) ∧ some k_ ≠ (.slice (some ad311) x301000_2.length co101 : Value).ownBlock ∧ some k_ ≠ (.slice Ao42 t303.length co42 : Value).ownBlock ∧ k_ ≠ gb297 ∧ k_ ≠ gb298 ∧ k_ ≠ gb299 ∧ k_ ≠ gb300) (.slice (some ad309) l1_2.length c1_2) l1_2):=⟨by rw [← hq_];exact (by (with_reducible repeat first|apply Kd.V_alloc|apply Kd.V_drewN|apply Kd.V_drew);exact HO_30.out)⟩;have n4_ : Aside0 (Kd.N (Kd.slice 2 (Kd.int .i64)) 22 wr w.heap.size (fun k_=>((P0_0_ k_ ∨ P1_2_ k_) ∨ w.heap.size ≤ k_) ∧ some k_ ≠ (.slice Ao42 t303.length co42 : Value).ownBlock ∧ k_ ≠ gb297 ∧ k_ ≠ gb298 ∧ k_ ≠ gb299 ∧ k_ ≠ gb300) (.slice (some ad311) x301000_2.length co101) x301000_2):=⟨by rw [← hq_];exact (by (with_reducible repeat first|apply Kd.N_alloc|apply Kd.N_drewN|apply Kd.N_drew);exact HO_301000.out)⟩;have n5_ : Aside0 (Kd.R (Kd.int .i64) 2 wr w.heap.size (fun k_=>(w.heap.size ≤ k_)) (.slice Ao42 t303.length co42) t303):=⟨by rw [← hq_];exact (by (with_reducible repeat first|apply Kd.R_alloc|apply Kd.R_drewN|apply Kd.R_drew);exact HO_301001.out)⟩;have n6_ : Aside0 (wr.heap[gb297]? = some (.cells #[u298000] 44 (0,0))):=⟨by rw [← hq_];exact (by (with_reducible repeat first|apply bN|apply bD|apply bA);exact BK297.out)⟩;have n7_ : Aside0 (wr.heap[gb298]? = some (.cells #[.int .i64 a1_0,.int .i64 a1_1,.slice (some ad309) l1_2.length c1_2] 27 (0,0))):=⟨by rw [← hq_];exact (by (with_reducible repeat first|apply bN|apply bD|apply bA);exact BK298.out)⟩;have n8_ : Aside0 (wr.heap[gb299]? = some (.cells #[.slice none 0 0,.slice none 0 0,.bool x300002_2,.bool x300003_2] 92 (0,0))):=⟨by rw [← hq_];exact (by (with_reducible repeat first|apply bN|apply bD|apply bA);exact BK299.out)⟩;have n9_ : Aside0 (wr.heap[gb300]? = some (.cells #[.slice (some ad311) x301000_2.length co101,.slice Ao42 t303.length co42,.bool true,.bool x301003_2] 92 (0,0))):=⟨by rw [← hq_];exact (by (with_reducible repeat first|apply bN|apply bD|apply bA);exact BK300.out)⟩;have n10_ : Aside0 (Below w.heap.size w wr):=⟨by rw [← hq_];exact (by repeat (first|(with_reducible first|exact HB.out|apply bL|apply bM|apply b1|refine bS ?_ GE297.out|refine bS ?_ GE298.out|refine bS ?_ GE299.out|refine bS ?_ GE300.out)|exact HB.out))⟩;have n11_ : Aside0 (Kd.C (Kd.int .i64) wr A311_0 (rd_L1 x301000_2 t310).length (rd_L1 x301000_2 t310)):=⟨by rw [← hq_];exact (by repeat (first|(with_reducible exact HR311_0.out)|(with_reducible refine Kd.C_alloc ?_ _)|(with_reducible refine Kd.C_drewN ?_ _)|(with_reducible refine Kd.C_drew ?_)|exact HR311_0.out))⟩;clear HL311_0 HO_298000 HO_299002 HO_30 HO_301000 HO_301001 BK297 BK298 BK299 BK300 HB HR311_0 hq_;have HL311_0:=n0_;have HO_298000:=n1_;have HO_299002:=n2_;have HO_30:=n3_;have HO_301000:=n4_;have HO_301001:=n5_;have BK297:=n6_;have BK298:=n7_;have BK299:=n8_;have BK300:=n9_;have HB:=n10_;have HR311_0:=n11_;clear n0_ n1_ n2_ n3_ n4_ n5_ n6_ n7_ n8_ n9_ n10_ n11_;(try replace hcz100_0:=(bC BK300.out 0).trans (rfl : _ = some _));(try replace hcz100_1:=(bC BK300.out 1).trans (rfl : _ = some _));(try replace hcz100_2:=(bC BK300.out 2).trans (rfl : _ = some _));(try replace hcz100_3:=(bC BK300.out 3).trans (rfl : _ = some _));(try replace hfz100_0:=blk_frozen BK300.out 0);(try replace hfz100_1:=blk_frozen BK300.out 1);(try replace hfz100_2:=blk_frozen BK300.out 2);(try replace hfz100_3:=blk_frozen BK300.out 3)));have hnb102:=NB299_297.out;have hnc102:=NB297_299.out;have hnb103:=NB299_298.out;have hnc103:=NB298_299.out;have hcz104_0 : wr.cell? ⟨gb299,0,none⟩ = some (.slice none 0 0):=(bC BK299.out 0).trans rfl;have hcz104_1 : wr.cell? ⟨gb299,1,none⟩ = some (.slice none 0 0):=(bC BK299.out 1).trans rfl;have hcz104_2 : wr.cell? ⟨gb299,2,none⟩ = some (.bool x300002_2):=(bC BK299.out 2).trans rfl;have hcz104_3 : wr.cell? ⟨gb299,3,none⟩ = some (.bool x300003_2):=(bC BK299.out 3).trans rfl;have hfz104_0:=blk_frozen BK299.out 0;have hfz104_1:=blk_frozen BK299.out 1;have hfz104_2:=blk_frozen BK299.out 2;have hfz104_3:=blk_frozen BK299.out 3))
            refine bodyPost_ret (results_cell_row rfl _ _ gb299 92 #[.slice none 0 0,.slice none 0 0,.bool false,.bool false] (0,0) _ rfl (by (with_reducible repeat first|apply bN|apply bD|apply bA);refine blk_put (cs:=#[.slice none 0 0,.slice none 0 0,.bool false,.bool x300003_2]) ?_ 3 _ rfl;(with_reducible repeat first|apply bN|apply bD|apply bA);refine blk_put (cs:=#[.slice none 0 0,.slice none 0 0,.bool x300002_2,.bool x300003_2]) ?_ 2 _ rfl;(with_reducible repeat first|apply bN|apply bD|apply bA);refine blk_put (cs:=#[.slice none 0 0,.slice none 0 0,.bool x300002_2,.bool x300003_2]) ?_ 1 _ rfl;(with_reducible repeat first|apply bN|apply bD|apply bA);refine blk_put (cs:=#[.slice none 0 0,.slice none 0 0,.bool x300002_2,.bool x300003_2]) ?_ 0 _ rfl;(with_reducible repeat first|apply bN|apply bD|apply bA);exact BK299.out) Try.underlying92 rfl (by kernel_rfl)) rfl ?_
            exact ⟨_,_,by first|rfl|(simp [errW_none,errW_some] <;> rfl)|(simp [*,errW_none,errW_some] <;> rfl),by first|exact Kd.S_nil _ _ _ _ _|exact Kd.N_nil _ _ _ _ _|exact Kd.V_nil _ _ _ _ _|exact Kd.Q_nil _ _ _ _ _|exact Kd.R_nil _ _ _ _ _,by first|exact Kd.R_nil _ _ _ _ _|exact Kd.N_nil _ _ _ _ _|exact Kd.V_nil _ _ _ _ _|exact Kd.Q_nil _ _ _ _ _|exact Kd.S_nil _ _ _ _ _,by repeat (first|(with_reducible first|exact HB.out|apply bL|apply bM|apply b1|refine bS ?_ GE297.out|refine bS ?_ GE298.out|refine bS ?_ GE299.out|refine bS ?_ GE300.out)|exact HB.out)⟩
          ·rw [if_neg c57] at H
           exact absurd H (by simp)
         ·rw [if_neg c56] at H
          exact absurd H (by simp)
        ·rw [if_neg c54] at H
         exact absurd H (by simp)
       ·rw [if_neg c53] at H
        exact absurd H (by simp)
      ·rw [if_neg c52] at H
       have c52b0 : decide (x32_2 < (l1_2.length : Int)) = false:=decide_eq_false c52
       clear c52
       simp only [Option.some.injEq,Prod.mk.injEq] at H
       obtain ⟨rfl,rfl,rfl,rfl⟩:=H
       have hnb105:=NB300_297.out
       have hnc105:=NB297_300.out
       have hnb106:=NB300_298.out
       have hnc106:=NB298_300.out
       have hnb107:=NB300_299.out
       have hnc107:=NB299_300.out
       have hcz108_0 : wr.cell? ⟨gb300,0,none⟩ = some (u301000):=(bC BK300.out 0).trans rfl
       have hcz108_1 : wr.cell? ⟨gb300,1,none⟩ = some (.slice Ao42 t303.length co42):=(bC BK300.out 1).trans rfl
       have hcz108_2 : wr.cell? ⟨gb300,2,none⟩ = some (.bool true):=(bC BK300.out 2).trans rfl
       have hcz108_3 : wr.cell? ⟨gb300,3,none⟩ = some (.bool x301003_2):=(bC BK300.out 3).trans rfl
       have hfz108_0:=blk_frozen BK300.out 0
       have hfz108_1:=blk_frozen BK300.out 1
       have hfz108_2:=blk_frozen BK300.out 2
       have hfz108_3:=blk_frozen BK300.out 3
       obtain ⟨Ao109,co109,eo109⟩:=Kd.N_slice HO_301000.out
       subst eo109
       have hnb110:=NB299_297.out
       have hnc110:=NB297_299.out
       have hnb111:=NB299_298.out
       have hnc111:=NB298_299.out
       have hcz112_0 : wr.cell? ⟨gb299,0,none⟩ = some (.slice none 0 0):=(bC BK299.out 0).trans rfl
       have hcz112_1 : wr.cell? ⟨gb299,1,none⟩ = some (.slice none 0 0):=(bC BK299.out 1).trans rfl
       have hcz112_2 : wr.cell? ⟨gb299,2,none⟩ = some (.bool x300002_2):=(bC BK299.out 2).trans rfl
       have hcz112_3 : wr.cell? ⟨gb299,3,none⟩ = some (.bool x300003_2):=(bC BK299.out 3).trans rfl
       have hfz112_0:=blk_frozen BK299.out 0
       have hfz112_1:=blk_frozen BK299.out 1
       have hfz112_2:=blk_frozen BK299.out 2
       have hfz112_3:=blk_frozen BK299.out 3
       go_wp2
       refine bodyPost_ret (results_cell_row rfl _ _ gb299 92 #[.slice Ao109 x301000_2.length co109,.slice Ao42 t303.length co42,.bool true,.bool x301003_2] (0,0) _ rfl (by (with_reducible repeat first|apply bN|apply bD|apply bA);refine blk_put (cs:=#[.slice Ao109 x301000_2.length co109,.slice Ao42 t303.length co42,.bool true,.bool x300003_2]) ?_ 3 _ rfl;(with_reducible repeat first|apply bN|apply bD|apply bA);refine blk_put (cs:=#[.slice Ao109 x301000_2.length co109,.slice Ao42 t303.length co42,.bool x300002_2,.bool x300003_2]) ?_ 2 _ rfl;(with_reducible repeat first|apply bN|apply bD|apply bA);refine blk_put (cs:=#[.slice Ao109 x301000_2.length co109,.slice none 0 0,.bool x300002_2,.bool x300003_2]) ?_ 1 _ rfl;(with_reducible repeat first|apply bN|apply bD|apply bA);refine blk_put (cs:=#[.slice none 0 0,.slice none 0 0,.bool x300002_2,.bool x300003_2]) ?_ 0 _ rfl;(with_reducible repeat first|apply bN|apply bD|apply bA);exact BK299.out) Try.underlying92 rfl (by kernel_rfl)) rfl ?_
       exact ⟨_,_,by first|rfl|(simp [errW_none,errW_some] <;> rfl)|(simp [*,errW_none,errW_some] <;> rfl),by (with_reducible repeat first|apply Kd.N_alloc|apply Kd.N_drewN|apply Kd.N_drew);exact Kd.N_mono (Kd.N_far (p:=⟨gb299,3,none⟩) (Kd.N_far (p:=⟨gb299,2,none⟩) (Kd.N_far (p:=⟨gb299,1,none⟩) (Kd.N_far (p:=⟨gb299,0,none⟩) (Kd.N_mono HO_301000.out (fun k_ hk=>(⟨hk,hk.2.2.2.2.1⟩ : _ ∧ k_ ≠ gb299))) (fun _ hk=>hk.2) (.slice Ao109 x301000_2.length co109)) (fun _ hk=>hk.2) (.slice Ao42 t303.length co42)) (fun _ hk=>hk.2) (.bool true)) (fun _ hk=>hk.2) (.bool x301003_2)) (fun _ hk=>⟨hk.1.1,hk.1.2.1⟩),by (with_reducible repeat first|apply Kd.R_alloc|apply Kd.R_drewN|apply Kd.R_drew);exact Kd.R_mono (Kd.R_far (p:=⟨gb299,3,none⟩) (Kd.R_far (p:=⟨gb299,2,none⟩) (Kd.R_far (p:=⟨gb299,1,none⟩) (Kd.R_far (p:=⟨gb299,0,none⟩) (Kd.R_types HO_301001.out BK299.out (by decide)) (fun _ hk=>hk.2) (.slice Ao109 x301000_2.length co109)) (fun _ hk=>hk.2) (.slice Ao42 t303.length co42)) (fun _ hk=>hk.2) (.bool true)) (fun _ hk=>hk.2) (.bool x301003_2)) (fun _ hk=>hk.1),by repeat (first|(with_reducible first|exact HB.out|apply bL|apply bM|apply b1|refine bS ?_ GE297.out|refine bS ?_ GE298.out|refine bS ?_ GE299.out|refine bS ?_ GE300.out)|exact HB.out)⟩

end Go.Proofs.Ytakepkjcmgcepaa.QFnExactTurnOf
