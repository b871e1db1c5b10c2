/- The functions that the law FnExactIsPlay reaches, as plain functions, and the walks that show that the machine's calls answer so. Written by a program of this session (wip/myprint.py) on the kit's print. -/
import Derived.Test.YtakepkjcmgcepaaQFnExactIsPlayx0
import Derived.Test.YtakepkjcmgcepaaQFnExactIsPlayx9
namespace Go.Proofs.Ytakepkjcmgcepaa.QFnExactIsPlay
open Go.RowKit Go.Proofs.YtakepkjcmgcepaaW.PrintWords Go.Proofs.YtakepkjcmgcepaaW.PrintLast Go.Proofs.YtakepkjcmgcepaaW.PrintMore
attribute [local go_sem] max2_int min2_int max_two min_two max_three min_three max_four min_four   -- for this text's walks alone
set_option linter.unusedVariables false
set_option linter.unusedSimpArgs false

/-! ### impl_IsPlay: function 46 -/
def impl_IsPlay.f (k : Nat) (l0_0 : List (List Int)) (a1_0 : Int) (a1_1 : Int) (l1_2 : List Int) : Option (Bool) := (impl_recordOf.f k l0_0 a1_0 a1_1 l1_2).bind fun bt327 => (some bt327.2.2.2)
theorem impl_IsPlay.mono : ∀ a0 a1 a2 a3 k, LeO (impl_IsPlay.f k a0 a1 a2 a3) (impl_IsPlay.f (k + 1) a0 a1 a2 a3) := by
 intro a0 a1 a2 a3 k
 unfold impl_IsPlay.f
 repeat' first
   | (with_reducible exact impl_recordOf.mono _ _ _ _ _)
   | (with_reducible exact LeO.refl _)
   | (with_reducible exact LeO.none _)
   | (with_reducible refine LeO.ite ?_ ?_)
   | (with_reducible refine LeO.bind ?_ (fun _=>?_))
   | exact impl_recordOf.mono _ _ _ _ _
   | exact LeO.none _
   | refine LeO.ite ?_ ?_
   | refine LeO.bind ?_ (fun _=>?_)
set_option maxHeartbeats 8000000 in
set_option maxRecDepth 100000 in
theorem impl_IsPlay.calls (k : Nat) (A0_0 : Option Addr) (c0_0 : Nat) (l0_0 : List (List Int)) (a1_0 : Int) (a1_1 : Int) (A1_2 : Option Addr) (c1_2 : Nat) (l1_2 : List Int) (r : Bool) (w : World) (hr0_0 : Kd.C (Kd.slice 2 (Kd.int .i64)) w A0_0 l0_0.length l0_0) (hc0_0 : l0_0.length ≤ c0_0) (hr1_2 : Kd.C (Kd.int .i64) w A1_2 l1_2.length l1_2) (hc1_2 : l1_2.length ≤ c1_2) (h : impl_IsPlay.f k l0_0 a1_0 a1_1 l1_2 = some r) :
  Calls Try.prog 46 #[.agg #[.slice A0_0 l0_0.length c0_0],.agg #[.int .i64 a1_0,.int .i64 a1_1,.slice A1_2 l1_2.length c1_2]] w fun e w'=>e = .returned (.bool r) ∧ Below w.heap.size w w':=by
 have hu92:=Try.underlying92
 have hfd2 : ∀ (w : World) (a b : Value) (x y : Bool),(Instr.field 92 (.agg #[a,b,.bool x,.bool y]) 2).run Try.prog w = .ok (.bool x) w:=fun _ _ _ _ _=>by kernel_rfl
 have hfd3 : ∀ (w : World) (a b : Value) (x y : Bool),(Instr.field 92 (.agg #[a,b,.bool x,.bool y]) 3).run Try.prog w = .ok (.bool y) w:=fun _ _ _ _ _=>by kernel_rfl
 have hu44:=Try.underlying44
 have hu27:=Try.underlying27
 have HR0_0:=aK hr0_0
 have HC0_0:=aK hc0_0
 clear hr0_0 hc0_0
 have HR1_2:=aK hr1_2
 have HC1_2:=aK hc1_2
 clear hr1_2 hc1_2
 have HB:=aK (Below.refl w.heap.size w)
 have H : ((impl_recordOf.f k l0_0 a1_0 a1_1 l1_2).bind fun bt327=>(some bt327.2.2.2)) = some r:=h
 clear h
 replace H:=Option.bind_eq_some_iff.mp H
 obtain ⟨⟨t327,t330,t333,t334⟩,A30,H⟩:=H
 replace H : (some t334) = some r:=H
 have A3:=aK A30
 clear A30
 obtain rfl:=Option.some.inj H
 go_enter Try.func46,Try.ntmps46
 go_wp2_with (first|((with_reducible refine gate_dst (N:=2) rfl ?_);refine box_event ?hg (N:=2) ?hd (cs:=#[.slice A0_0 l0_0.length c0_0]) (t:=44) ?hr ?_;(case hd=>rfl);(case hg=>rfl);(case hr=>first|(go_simp;done)|(go_simp;rfl));intro gb325 hg w4 hbox hb;have n0_:=aK (below_step (by repeat (first|(with_reducible first|exact HB.out|apply bL|apply bM|apply b1)|exact HB.out)) hb);have n1_:=aK (hbox);have n2_:=aK ((by rw [hg];exact (below_size (by repeat (first|(with_reducible first|exact HB.out|apply bL|apply bM|apply b1)|exact HB.out))) : w.heap.size ≤ gb325));have n3_:=aK ((by rw [hg];exact (below_size (by repeat (first|(with_reducible first|exact HB.out|apply bL|apply bM|apply b1)|exact HB.out))) : w.heap.size ≤ gb325));clear HB;have HB:=n0_;have BK325:=n1_;have GW325:=n2_;have GE325:=n3_;clear n0_ n1_ n2_ n3_;clear hb hbox hg)|((with_reducible refine gate_dst (N:=3) rfl ?_);refine box_event ?hg (N:=3) ?hd (cs:=#[.int .i64 a1_0,.int .i64 a1_1,.slice A1_2 l1_2.length c1_2]) (t:=27) ?hr ?_;(case hd=>rfl);(case hg=>rfl);(case hr=>first|(go_simp;done)|(go_simp;rfl));intro gb326 hg w5 hbox hb;have n0_:=aK (bB (by (with_reducible repeat (first|apply bN|apply bD|apply bA));exact BK325.out) hb);have n1_:=aK (below_step (by repeat (first|(with_reducible first|exact HB.out|apply bL|apply bM|apply b1|refine bS ?_ GE325.out)|exact HB.out)) hb);have n2_:=aK (hbox);have n3_:=aK ((by rw [hg];exact (below_size (by repeat (first|(with_reducible first|exact HB.out|apply bL|apply bM|apply b1|refine bS ?_ GE325.out)|exact HB.out))) : w.heap.size ≤ gb326));have n4_:=aK ((by rw [hg];exact (below_size (by repeat (first|(with_reducible first|exact HB.out|apply bL|apply bM|apply b1|refine bS ?_ GE325.out)|exact HB.out))) : w.heap.size ≤ gb326));have n5_:=aK ((by rw [hg];exact Nat.ne_of_lt (blk_lt (by (with_reducible repeat (first|apply bN|apply bD|apply bA));exact BK325.out)) : gb325 ≠ gb326));have n6_:=aK ((by rw [hg];exact Nat.ne_of_gt (blk_lt (by (with_reducible repeat (first|apply bN|apply bD|apply bA));exact BK325.out)) : gb326 ≠ gb325));clear BK325;clear HB;have BK325:=n0_;have HB:=n1_;have BK326:=n2_;have GW326:=n3_;have GE326:=n4_;have NB325_326:=n5_;have NB326_325:=n6_;clear n0_ n1_ n2_ n3_ n4_ n5_ n6_;clear hb hbox hg;have hnb6:=NB325_326.out;have hnc6:=NB326_325.out;have hcz7_0 : w5.cell? ⟨gb325,0,none⟩ = some (.slice A0_0 l0_0.length c0_0):=(bC BK325.out 0).trans rfl;have hfz7_0:=blk_frozen BK325.out 0;have hcz8_0 : w5.cell? ⟨gb326,0,none⟩ = some (.int .i64 a1_0):=(bC BK326.out 0).trans rfl;have hcz8_1 : w5.cell? ⟨gb326,1,none⟩ = some (.int .i64 a1_1):=(bC BK326.out 1).trans rfl;have hcz8_2 : w5.cell? ⟨gb326,2,none⟩ = some (.slice A1_2 l1_2.length c1_2):=(bC BK326.out 2).trans rfl;have hfz8_0:=blk_frozen BK326.out 0;have hfz8_1:=blk_frozen BK326.out 1;have hfz8_2:=blk_frozen BK326.out 2)|((with_reducible refine gate_callee (f:=106) rfl ?_);refine goesL_ (some 7) rfl rfl Try.func106 (by kernel_rfl) rfl #[.agg #[.slice A0_0 l0_0.length c0_0],.agg #[.int .i64 a1_0,.int .i64 a1_1,.slice A1_2 l1_2.length c1_2]] rfl (by (try simp only [mA,mC,mN]);first|done|rfl) ?_;(with_reducible refine (impl_recordOf.calls k (fun k_=>k_ < w.heap.size) _ _ l0_0 a1_0 a1_1 (fun k_=>k_ < w.heap.size) _ _ l1_2 t327 t330 t333 t334 _ ?side1 ?side2 A3.out).mono ?_);(case side1=>exact Kd.V_mk HC0_0.out (Kd.F_below (Kd.C_F (Kd.heap_slice 2 (Kd.heap_int .i64)) HR0_0.out) (by repeat (first|(with_reducible first|exact HB.out|apply bL|apply bM|apply b1|refine bS ?_ GE325.out|refine bS ?_ GE326.out)|exact HB.out))));(case side2=>exact Kd.V_mk HC1_2.out (Kd.F_below (Kd.C_F (Kd.heap_int .i64) HR1_2.out) (by repeat (first|(with_reducible first|exact HB.out|apply bL|apply bM|apply b1|refine bS ?_ GE325.out|refine bS ?_ GE326.out)|exact HB.out))));rintro e w9 ⟨v328,v331,rfl,ho0,ho1,hb⟩;refine ⟨_,rfl,?_⟩;have n0_:=aK (Kd.N_lower (Kd.N_mono (ok':=fun k_=>some k_ ≠ (v331 : Value).ownBlock ∧ k_ ≠ gb325 ∧ k_ ≠ gb326) ho0 (fun k_ hk_=>⟨hk_.2,Or.elim hk_.1 (fun hs_=>Or.elim hs_ (fun hs_=>fun e_=>Nat.not_le.2 hs_ (by rw [e_];exact GW325.out)) (fun hs_=>fun e_=>Nat.not_le.2 hs_ (by rw [e_];exact GW325.out))) (fun hn_=>(Kd.freshB (g:=gb325) (o:=.cells #[.slice A0_0 l0_0.length c0_0] 44 (0,0)) (by (with_reducible repeat (first|apply bN|apply bD|apply bA));exact BK325.out) k_ hn_)),Or.elim hk_.1 (fun hs_=>Or.elim hs_ (fun hs_=>fun e_=>Nat.not_le.2 hs_ (by rw [e_];exact GW326.out)) (fun hs_=>fun e_=>Nat.not_le.2 hs_ (by rw [e_];exact GW326.out))) (fun hn_=>(Kd.freshB (g:=gb326) (o:=.cells #[.int .i64 a1_0,.int .i64 a1_1,.slice A1_2 l1_2.length c1_2] 27 (0,0)) (by (with_reducible repeat (first|apply bN|apply bD|apply bA));exact BK326.out) k_ hn_))⟩)) (below_size (by repeat (first|(with_reducible first|exact HB.out|apply bL|apply bM|apply b1|refine bS ?_ GE325.out|refine bS ?_ GE326.out)|exact HB.out))));have n1_:=aK (Kd.R_lower (Kd.R_mono (ok':=fun k_=>True) ho1 (fun _ hk_=>trivial)) (below_size (by repeat (first|(with_reducible first|exact HB.out|apply bL|apply bM|apply b1|refine bS ?_ GE325.out|refine bS ?_ GE326.out)|exact HB.out))));have n2_:=aK (bB (by (with_reducible repeat (first|apply bN|apply bD|apply bA));exact BK325.out) hb);have n3_:=aK (bB (by (with_reducible repeat (first|apply bN|apply bD|apply bA));exact BK326.out) hb);have n4_:=aK (below_step (by repeat (first|(with_reducible first|exact HB.out|apply bL|apply bM|apply b1|refine bS ?_ GE325.out|refine bS ?_ GE326.out)|exact HB.out)) hb);clear BK325;clear BK326;clear HB;have HO329:=n0_;have HO332:=n1_;have BK325:=n2_;have BK326:=n3_;have HB:=n4_;clear n0_ n1_ n2_ n3_ n4_;(try clear hb);(try clear hb2);(try clear hk);(try clear hi);(try clear ho0);(try clear ho1)))
 go_ret
 exact ⟨by first|rfl|(simp [errW_none,errW_some] <;> rfl)|(simp [*,errW_none,errW_some] <;> rfl),by repeat (first|(with_reducible first|exact HB.out|apply bL|apply bM|apply b1|refine bS ?_ GE325.out|refine bS ?_ GE326.out)|exact HB.out)⟩

end Go.Proofs.Ytakepkjcmgcepaa.QFnExactIsPlay
