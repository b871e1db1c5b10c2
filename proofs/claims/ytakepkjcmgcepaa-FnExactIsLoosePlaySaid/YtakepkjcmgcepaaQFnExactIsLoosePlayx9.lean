/- The functions that the law FnExactIsLoosePlay reaches, as plain functions, and the walks that show that the machine's calls answer so. Written by a program of this session (wip/myprint.py) on the kit's print. -/
import Derived.Test.YtakepkjcmgcepaaQFnExactIsLoosePlayx0
import Derived.Test.YtakepkjcmgcepaaQFnExactIsLoosePlayx6
import Derived.Test.YtakepkjcmgcepaaQFnExactIsLoosePlayx7
import Derived.Test.YtakepkjcmgcepaaQFnExactIsLoosePlayx8
namespace Go.Proofs.Ytakepkjcmgcepaa.QFnExactIsLoosePlay
open Go.RowKit Go.Proofs.YtakepkjcmgcepaaW.PrintWords Go.Proofs.YtakepkjcmgcepaaW.PrintLast Go.Proofs.YtakepkjcmgcepaaW.PrintMore
attribute [local go_sem] max2_int min2_int max_two min_two max_three min_three max_four min_four   -- for this text's walks alone
set_option linter.unusedVariables false
set_option linter.unusedSimpArgs false

/-! ### impl_recordOf: function 106 -/
mutual
def impl_recordOf.j0 : Nat → Bool → List (List Int) → Int → Int → List Int → Bool → Bool → Option ((List (List Int)) × List Int × Bool × Bool)
 | 0, _, _, _, _, _, _, _ => none
 | k + 1, x18, x251000, x252000, x252001, x252002, x254002, x254003 => if x18 = true then (some (([] : List (List Int)), ([] : List Int), x254002, x254003)) else ((impl_leaders.f k x252000 x252001 x252002).bind fun t256 => ((slices_Clone_int64_int64_144.f x251000).bind fun t259 => (impl_recordOf.l0 k x252002 (x252002.length : Int) 0 x252000 x252001 x252002 t259 t256 true true)))
def impl_recordOf.l0 : Nat → List Int → Int → Int → Int → Int → List Int → List (List Int) → List Int → Bool → Bool → Option ((List (List Int)) × List Int × Bool × Bool)
 | 0, _, _, _, _, _, _, _, _, _, _ => none
 | k + 1, x30, x31, x32, x252000, x252001, x252002, x254000, x254001, x254002, x254003 => if x32 < x31 then (if 0 ≤ x32 then (if x32 < (x30.length : Int) then ((impl_seatOf.f x254001 x32).bind fun t263 => (if 0 ≤ t263 then (if t263 < (x254000.length : Int) then ((slices_Contains_int64_int64.f k (rd_L1 x254000 t263) (rd x30 x32)).bind fun t265 => (if t265 = true then (if x254003 = true then (if x32 ≤ (x252002.length : Int) then ((impl_trickAt.f (x252002.take (x32 : Int).toNat)).bind fun t271 => ((impl_follow.f k (rd_L1 x254000 t263) t271).bind fun t274 => ((slices_Contains_int64_int64.f k t274 (rd x30 x32)).bind fun t277 => ((impl_without.f (rd_L1 x254000 t263) (rd x30 x32)).bind fun t278 => (impl_recordOf.l0 k x30 x31 (wrap64 (x32 + 1)) x252000 x252001 x252002 (x254000.set (t263 : Int).toNat t278) x254001 x254002 t277))))) else (none)) else ((impl_without.f (rd_L1 x254000 t263) (rd x30 x32)).bind fun t282 => (impl_recordOf.l0 k x30 x31 (wrap64 (x32 + 1)) x252000 x252001 x252002 (x254000.set (t263 : Int).toNat t282) x254001 x254002 false))) else (some (([] : List (List Int)), ([] : List Int), false, false)))) else (none)) else (none))) else (none)) else (none)) else (some (x254000, x254001, x254002, x254003))
end
def impl_recordOf.f (k : Nat) (l0_0 : List (List Int)) (a1_0 : Int) (a1_1 : Int) (l1_2 : List Int) : Option ((List (List Int)) × List Int × Bool × Bool) := (impl_IsDeal.f l0_0).bind fun t254 => (if t254 = true then ((impl_IsPlainPlay.f a1_0 a1_1 l1_2).bind fun t255 => (impl_recordOf.j0 k (!t255) l0_0 a1_0 a1_1 l1_2 false false)) else (impl_recordOf.j0 k true l0_0 a1_0 a1_1 l1_2 false false))
theorem impl_recordOf.mono_l : ∀ k, (∀ y0 y1 y2 y3 y4 y5 y6, LeO (impl_recordOf.j0 k y0 y1 y2 y3 y4 y5 y6) (impl_recordOf.j0 (k + 1) y0 y1 y2 y3 y4 y5 y6)) ∧ (∀ y0 y1 y2 y3 y4 y5 y6 y7 y8 y9, LeO (impl_recordOf.l0 k y0 y1 y2 y3 y4 y5 y6 y7 y8 y9) (impl_recordOf.l0 (k + 1) y0 y1 y2 y3 y4 y5 y6 y7 y8 y9))
 | 0 => ⟨fun _ _ _ _ _ _ _ r h => by simp [impl_recordOf.j0] at h, fun _ _ _ _ _ _ _ _ _ _ r h => by simp [impl_recordOf.l0] at h⟩
 | k + 1 => by
  obtain ⟨ih0, ih1⟩ := impl_recordOf.mono_l k
  refine ⟨?_, ?_⟩
  ·intro y0 y1 y2 y3 y4 y5 y6
   unfold impl_recordOf.j0
   repeat' first
   | (with_reducible exact ih0 _ _ _ _ _ _ _)
   | (with_reducible exact ih1 _ _ _ _ _ _ _ _ _ _)
   | (with_reducible exact impl_follow.mono _ _ _)
   | (with_reducible exact impl_leaders.mono _ _ _ _)
   | (with_reducible exact slices_Contains_int64_int64.mono _ _ _)
   | (with_reducible exact LeO.refl _)
   | (with_reducible exact LeO.none _)
   | (with_reducible refine LeO.ite ?_ ?_)
   | (with_reducible refine LeO.bind ?_ (fun _ => ?_))
   | exact ih0 _ _ _ _ _ _ _
   | exact ih1 _ _ _ _ _ _ _ _ _ _
   | exact impl_follow.mono _ _ _
   | exact impl_leaders.mono _ _ _ _
   | exact slices_Contains_int64_int64.mono _ _ _
   | exact LeO.none _
   | refine LeO.ite ?_ ?_
   | refine LeO.bind ?_ (fun _ => ?_)
  ·intro y0 y1 y2 y3 y4 y5 y6 y7 y8 y9
   unfold impl_recordOf.l0
   repeat' first
   | (with_reducible exact ih0 _ _ _ _ _ _ _)
   | (with_reducible exact ih1 _ _ _ _ _ _ _ _ _ _)
   | (with_reducible exact impl_follow.mono _ _ _)
   | (with_reducible exact impl_leaders.mono _ _ _ _)
   | (with_reducible exact slices_Contains_int64_int64.mono _ _ _)
   | (with_reducible exact LeO.refl _)
   | (with_reducible exact LeO.none _)
   | (with_reducible refine LeO.ite ?_ ?_)
   | (with_reducible refine LeO.bind ?_ (fun _ => ?_))
   | exact ih0 _ _ _ _ _ _ _
   | exact ih1 _ _ _ _ _ _ _ _ _ _
   | exact impl_follow.mono _ _ _
   | exact impl_leaders.mono _ _ _ _
   | exact slices_Contains_int64_int64.mono _ _ _
   | exact LeO.none _
   | refine LeO.ite ?_ ?_
   | refine LeO.bind ?_ (fun _ => ?_)
theorem impl_recordOf.mono : ∀ a0 a1 a2 a3 k, LeO (impl_recordOf.f k a0 a1 a2 a3) (impl_recordOf.f (k + 1) a0 a1 a2 a3) := by
 intro a0 a1 a2 a3 k
 obtain ⟨ih0, ih1⟩ := impl_recordOf.mono_l k
 unfold impl_recordOf.f
 repeat' first
   | (with_reducible exact ih0 _ _ _ _ _ _ _)
   | (with_reducible exact ih1 _ _ _ _ _ _ _ _ _ _)
   | (with_reducible exact impl_follow.mono _ _ _)
   | (with_reducible exact impl_leaders.mono _ _ _ _)
   | (with_reducible exact slices_Contains_int64_int64.mono _ _ _)
   | (with_reducible exact LeO.refl _)
   | (with_reducible exact LeO.none _)
   | (with_reducible refine LeO.ite ?_ ?_)
   | (with_reducible refine LeO.bind ?_ (fun _ => ?_))
   | exact ih0 _ _ _ _ _ _ _
   | exact ih1 _ _ _ _ _ _ _ _ _ _
   | exact impl_follow.mono _ _ _
   | exact impl_leaders.mono _ _ _ _
   | exact slices_Contains_int64_int64.mono _ _ _
   | exact LeO.none _
   | refine LeO.ite ?_ ?_
   | refine LeO.bind ?_ (fun _ => ?_)
def impl_recordOf.T4 : Bool × List (List Nat × List Nat) := (true, [([], []), ([0], [0]), ([], []), ([2], [2]), ([3, 1], [3]), ([0, 1], []), ([5, 1, 4, 0, 1], [1, 5]), ([0, 1, 2, 3, 4, 5, 6], []), ([7, 4, 6, 0, 1, 2, 3, 4, 5, 6], [4, 7]), ([0, 1, 2, 3, 4, 5, 6, 7, 8], []), ([9, 8, 0, 1, 2, 3, 4, 5, 6, 7, 8], [9]), ([0, 1, 2, 3, 4, 5, 6, 7, 8, 9, 10], []), ([11, 10, 0, 1, 2, 3, 4, 5, 6, 7, 8, 9, 10], [11])])
def impl_recordOf.B4 : List Nat := [0, 1, 0, 4, 15, 3, 63, 127, 255, 511, 1023, 2047, 4095]
theorem impl_recordOf.tab4 : rtab .any (opsOf Try.f106 4) = impl_recordOf.T4 := by kernel_rfl
theorem impl_recordOf.bits4 : waitsOk impl_recordOf.T4.2 impl_recordOf.B4 = true := by kernel_rfl
def impl_recordOf.T13 : Bool × List (List Nat × List Nat) := (true, [([], []), ([0], [0]), ([], []), ([], []), ([], []), ([3, 4], [3, 4]), ([1, 2, 0, 1, 2, 3, 4, 5], [1, 2]), ([6, 5, 5, 0, 1, 2, 3, 4, 5], [5, 6])])
def impl_recordOf.B13 : List Nat := [0, 1, 0, 0, 0, 24, 63, 127]
theorem impl_recordOf.tab13 : rtab .any (opsOf Try.f106 13) = impl_recordOf.T13 := by kernel_rfl
theorem impl_recordOf.bits13 : waitsOk impl_recordOf.T13.2 impl_recordOf.B13 = true := by kernel_rfl
set_option maxHeartbeats 8000000 in
set_option maxRecDepth 100000 in
theorem impl_recordOf.calls (k : Nat) (P0_0_ : Nat → Prop) (A0_0 : Option Addr) (c0_0 : Nat) (l0_0 : List (List Int)) (a1_0 : Int) (a1_1 : Int) (P1_2_ : Nat → Prop) (A1_2 : Option Addr) (c1_2 : Nat) (l1_2 : List Int) (r1 : List (List Int)) (r2 : List Int) (r3 : Bool) (r4 : Bool) (w : World) (hs0_0 : Kd.V (Kd.slice 2 (Kd.int .i64)) 22 w w.heap.size (fun k_ => P0_0_ k_) (.slice A0_0 l0_0.length c0_0) l0_0) (hs1_2 : Kd.V (Kd.int .i64) 2 w w.heap.size (fun k_ => P1_2_ k_) (.slice A1_2 l1_2.length c1_2) l1_2) (h : impl_recordOf.f k l0_0 a1_0 a1_1 l1_2 = some (r1, r2, r3, r4)) :
  Calls Try.prog 106 #[.agg #[.slice A0_0 l0_0.length c0_0], .agg #[.int .i64 a1_0, .int .i64 a1_1, .slice A1_2 l1_2.length c1_2]] w fun e w' => ∃ v0_ v1_ : Value, e = .returned (.agg #[v0_, v1_, .bool r3, .bool r4]) ∧ Kd.N (Kd.slice 2 (Kd.int .i64)) 22 w' w.heap.size (fun k_ => ((P0_0_ k_ ∨ P1_2_ k_) ∨ w.heap.size ≤ k_) ∧ some k_ ≠ (v1_ : Value).ownBlock) v0_ r1 ∧ Kd.R (Kd.int .i64) 2 w' w.heap.size (fun k_ => (w.heap.size ≤ k_)) v1_ r2 ∧ Below w.heap.size w w' := by
 have hu44 := Try.underlying44
 have hu27 := Try.underlying27
 have hu92 := Try.underlying92
 have HO0_0 := Aside0.mk (show Kd.V (Kd.slice 2 (Kd.int .i64)) 22 w w.heap.size (fun k_ => ((P0_0_ k_ ∨ P1_2_ k_) ∨ w.heap.size ≤ k_)) (.slice A0_0 l0_0.length c0_0) l0_0 from Kd.V_mono hs0_0 (fun k_ hk => .inl (.inl hk)))
 have HO1_2 := Aside0.mk (show Kd.V (Kd.int .i64) 2 w w.heap.size (fun k_ => ((P0_0_ k_ ∨ P1_2_ k_) ∨ w.heap.size ≤ k_)) (.slice A1_2 l1_2.length c1_2) l1_2 from Kd.V_mono hs1_2 (fun k_ hk => .inl (.inr hk)))
 have HB := Aside0.mk (Below.refl w.heap.size w)
 have H : ((impl_IsDeal.f l0_0).bind fun t254 => (if t254 = true then ((impl_IsPlainPlay.f a1_0 a1_1 l1_2).bind fun t255 => (impl_recordOf.j0 k (!t255) l0_0 a1_0 a1_1 l1_2 false false)) else (impl_recordOf.j0 k true l0_0 a1_0 a1_1 l1_2 false false))) = some (r1, r2, r3, r4) := h
 clear h
 have HC3 := Aside0.mk H
 clear H
 go_enter Try.func106, Try.ntmps106
 go_upto_region 2 with (first | ((with_reducible refine gate_dst (N := 2) rfl ?_); refine box_event ?hg (N := 2) ?hd (cs := #[.slice A0_0 l0_0.length c0_0]) (t := 44) ?hr ?_; (case hd => rfl); (case hg => rfl); (case hr => first | (go_simp; done) | (go_simp; rfl)); intro gb250 hg w4 hbox hb; have n0_ := Aside0.mk (Kd.V_below (Kd.V_elderB (by (with_reducible repeat (first | apply Kd.V_alloc | apply Kd.V_drewN | apply Kd.V_drew)); exact HO0_0.out) gb250 (Nat.le_of_eq hg.symm)) hb); have n1_ := Aside0.mk (Kd.V_below (Kd.V_elderB (by (with_reducible repeat (first | apply Kd.V_alloc | apply Kd.V_drewN | apply Kd.V_drew)); exact HO1_2.out) gb250 (Nat.le_of_eq hg.symm)) hb); have n2_ := Aside0.mk (below_step (by repeat (first | (with_reducible first | exact HB.out | apply below_alloc | apply pw_below_drewN | apply below_drew1) | exact HB.out)) hb); have n3_ := Aside0.mk (hbox); have n4_ := Aside0.mk ((by rw [hg]; exact (below_size (by repeat (first | (with_reducible first | exact HB.out | apply below_alloc | apply pw_below_drewN | apply below_drew1) | exact HB.out))) : w.heap.size ≤ gb250)); have n5_ := Aside0.mk ((by rw [hg]; exact (below_size (by repeat (first | (with_reducible first | exact HB.out | apply below_alloc | apply pw_below_drewN | apply below_drew1) | exact HB.out))) : w.heap.size ≤ gb250)); clear HO0_0; clear HO1_2; clear HB; have HO0_0 := n0_; have HO1_2 := n1_; have HB := n2_; have BK250 := n3_; have GW250 := n4_; have GE250 := n5_; clear n0_ n1_ n2_ n3_ n4_ n5_; clear hb hbox hg) | ((with_reducible refine gate_dst (N := 3) rfl ?_); refine box_event ?hg (N := 3) ?hd (cs := #[.int .i64 a1_0, .int .i64 a1_1, .slice A1_2 l1_2.length c1_2]) (t := 27) ?hr ?_; (case hd => rfl); (case hg => rfl); (case hr => first | (go_simp; done) | (go_simp; rfl)); intro gb251 hg w5 hbox hb; have n0_ := Aside0.mk (Kd.V_below (Kd.V_elderB (by (with_reducible repeat (first | apply Kd.V_alloc | apply Kd.V_drewN | apply Kd.V_drew)); exact HO0_0.out) gb251 (Nat.le_of_eq hg.symm)) hb); have n1_ := Aside0.mk (Kd.V_below (Kd.V_elderB (by (with_reducible repeat (first | apply Kd.V_alloc | apply Kd.V_drewN | apply Kd.V_drew)); exact HO1_2.out) gb251 (Nat.le_of_eq hg.symm)) hb); have n2_ := Aside0.mk (blk_below (g := gb250) (o := .cells #[.slice A0_0 l0_0.length c0_0] 44 (0, 0)) (by (with_reducible repeat (first | refine blk_drewN ?_ _ | refine blk_drew ?_ | refine blk_alloc ?_ _)); exact BK250.out) hb); have n3_ := Aside0.mk (below_step (by repeat (first | (with_reducible first | exact HB.out | apply below_alloc | apply pw_below_drewN | apply below_drew1 | refine below_set ?_ GE250.out) | exact HB.out)) hb); have n4_ := Aside0.mk (hbox); have n5_ := Aside0.mk ((by rw [hg]; exact (below_size (by repeat (first | (with_reducible first | exact HB.out | apply below_alloc | apply pw_below_drewN | apply below_drew1 | refine below_set ?_ GE250.out) | exact HB.out))) : w.heap.size ≤ gb251)); have n6_ := Aside0.mk ((by rw [hg]; exact (below_size (by repeat (first | (with_reducible first | exact HB.out | apply below_alloc | apply pw_below_drewN | apply below_drew1 | refine below_set ?_ GE250.out) | exact HB.out))) : w.heap.size ≤ gb251)); have n7_ := Aside0.mk ((by rw [hg]; exact Nat.ne_of_lt (blk_lt (g := gb250) (o := .cells #[.slice A0_0 l0_0.length c0_0] 44 (0, 0)) (by (with_reducible repeat (first | refine blk_drewN ?_ _ | refine blk_drew ?_ | refine blk_alloc ?_ _)); exact BK250.out)) : gb250 ≠ gb251)); have n8_ := Aside0.mk ((by rw [hg]; exact Nat.ne_of_gt (blk_lt (g := gb250) (o := .cells #[.slice A0_0 l0_0.length c0_0] 44 (0, 0)) (by (with_reducible repeat (first | refine blk_drewN ?_ _ | refine blk_drew ?_ | refine blk_alloc ?_ _)); exact BK250.out)) : gb251 ≠ gb250)); clear HO0_0; clear HO1_2; clear BK250; clear HB; have HO0_0 := n0_; have HO1_2 := n1_; have BK250 := n2_; have HB := n3_; have BK251 := n4_; have GW251 := n5_; have GE251 := n6_; have NB250_251 := n7_; have NB251_250 := n8_; clear n0_ n1_ n2_ n3_ n4_ n5_ n6_ n7_ n8_; clear hb hbox hg) | ((with_reducible refine gate_dst (N := 4) rfl ?_); refine box_event ?hg (N := 4) ?hd (cs := #[.slice none 0 0, .slice none 0 0, .bool false, .bool false]) (t := 92) ?hr ?_; (case hd => rfl); (case hg => rfl); (case hr => first | (go_simp; done) | (go_simp; rfl)); intro gb252 hg w6 hbox hb; have n0_ := Aside0.mk (Kd.V_below (Kd.V_elderB (by (with_reducible repeat (first | apply Kd.V_alloc | apply Kd.V_drewN | apply Kd.V_drew)); exact HO0_0.out) gb252 (Nat.le_of_eq hg.symm)) hb); have n1_ := Aside0.mk (Kd.V_below (Kd.V_elderB (by (with_reducible repeat (first | apply Kd.V_alloc | apply Kd.V_drewN | apply Kd.V_drew)); exact HO1_2.out) gb252 (Nat.le_of_eq hg.symm)) hb); have n2_ := Aside0.mk (blk_below (g := gb250) (o := .cells #[.slice A0_0 l0_0.length c0_0] 44 (0, 0)) (by (with_reducible repeat (first | refine blk_drewN ?_ _ | refine blk_drew ?_ | refine blk_alloc ?_ _)); exact BK250.out) hb); have n3_ := Aside0.mk (blk_below (g := gb251) (o := .cells #[.int .i64 a1_0, .int .i64 a1_1, .slice A1_2 l1_2.length c1_2] 27 (0, 0)) (by (with_reducible repeat (first | refine blk_drewN ?_ _ | refine blk_drew ?_ | refine blk_alloc ?_ _)); exact BK251.out) hb); have n4_ := Aside0.mk (below_step (by repeat (first | (with_reducible first | exact HB.out | apply below_alloc | apply pw_below_drewN | apply below_drew1 | refine below_set ?_ GE250.out | refine below_set ?_ GE251.out) | exact HB.out)) hb); have n5_ := Aside0.mk (hbox); have n6_ := Aside0.mk ((by rw [hg]; exact (below_size (by repeat (first | (with_reducible first | exact HB.out | apply below_alloc | apply pw_below_drewN | apply below_drew1 | refine below_set ?_ GE250.out | refine below_set ?_ GE251.out) | exact HB.out))) : w.heap.size ≤ gb252)); have n7_ := Aside0.mk ((by rw [hg]; exact (below_size (by repeat (first | (with_reducible first | exact HB.out | apply below_alloc | apply pw_below_drewN | apply below_drew1 | refine below_set ?_ GE250.out | refine below_set ?_ GE251.out) | exact HB.out))) : w.heap.size ≤ gb252)); have n8_ := Aside0.mk ((by rw [hg]; exact Nat.ne_of_lt (blk_lt (g := gb250) (o := .cells #[.slice A0_0 l0_0.length c0_0] 44 (0, 0)) (by (with_reducible repeat (first | refine blk_drewN ?_ _ | refine blk_drew ?_ | refine blk_alloc ?_ _)); exact BK250.out)) : gb250 ≠ gb252)); have n9_ := Aside0.mk ((by rw [hg]; exact Nat.ne_of_gt (blk_lt (g := gb250) (o := .cells #[.slice A0_0 l0_0.length c0_0] 44 (0, 0)) (by (with_reducible repeat (first | refine blk_drewN ?_ _ | refine blk_drew ?_ | refine blk_alloc ?_ _)); exact BK250.out)) : gb252 ≠ gb250)); have n10_ := Aside0.mk ((by rw [hg]; exact Nat.ne_of_lt (blk_lt (g := gb251) (o := .cells #[.int .i64 a1_0, .int .i64 a1_1, .slice A1_2 l1_2.length c1_2] 27 (0, 0)) (by (with_reducible repeat (first | refine blk_drewN ?_ _ | refine blk_drew ?_ | refine blk_alloc ?_ _)); exact BK251.out)) : gb251 ≠ gb252)); have n11_ := Aside0.mk ((by rw [hg]; exact Nat.ne_of_gt (blk_lt (g := gb251) (o := .cells #[.int .i64 a1_0, .int .i64 a1_1, .slice A1_2 l1_2.length c1_2] 27 (0, 0)) (by (with_reducible repeat (first | refine blk_drewN ?_ _ | refine blk_drew ?_ | refine blk_alloc ?_ _)); exact BK251.out)) : gb252 ≠ gb251)); clear HO0_0; clear HO1_2; clear BK250; clear BK251; clear HB; have HO0_0 := n0_; have HO1_2 := n1_; have BK250 := n2_; have BK251 := n3_; have HB := n4_; have BK252 := n5_; have GW252 := n6_; have GE252 := n7_; have NB250_252 := n8_; have NB252_250 := n9_; have NB251_252 := n10_; have NB252_251 := n11_; clear n0_ n1_ n2_ n3_ n4_ n5_ n6_ n7_ n8_ n9_ n10_ n11_; clear hb hbox hg) | ((with_reducible refine gate_dst (N := 5) rfl ?_); refine box_event ?hg (N := 5) ?hd (cs := #[.slice none 0 0, .slice none 0 0, .bool false, .bool false]) (t := 92) ?hr ?_; (case hd => rfl); (case hg => rfl); (case hr => first | (go_simp; done) | (go_simp; rfl)); intro gb253 hg w7 hbox hb; have n0_ := Aside0.mk (Kd.V_below (Kd.V_elderB (by (with_reducible repeat (first | apply Kd.V_alloc | apply Kd.V_drewN | apply Kd.V_drew)); exact HO0_0.out) gb253 (Nat.le_of_eq hg.symm)) hb); have n1_ := Aside0.mk (Kd.V_below (Kd.V_elderB (by (with_reducible repeat (first | apply Kd.V_alloc | apply Kd.V_drewN | apply Kd.V_drew)); exact HO1_2.out) gb253 (Nat.le_of_eq hg.symm)) hb); have n2_ := Aside0.mk (blk_below (g := gb250) (o := .cells #[.slice A0_0 l0_0.length c0_0] 44 (0, 0)) (by (with_reducible repeat (first | refine blk_drewN ?_ _ | refine blk_drew ?_ | refine blk_alloc ?_ _)); exact BK250.out) hb); have n3_ := Aside0.mk (blk_below (g := gb251) (o := .cells #[.int .i64 a1_0, .int .i64 a1_1, .slice A1_2 l1_2.length c1_2] 27 (0, 0)) (by (with_reducible repeat (first | refine blk_drewN ?_ _ | refine blk_drew ?_ | refine blk_alloc ?_ _)); exact BK251.out) hb); have n4_ := Aside0.mk (blk_below (g := gb252) (o := .cells #[.slice none 0 0, .slice none 0 0, .bool false, .bool false] 92 (0, 0)) (by (with_reducible repeat (first | refine blk_drewN ?_ _ | refine blk_drew ?_ | refine blk_alloc ?_ _)); exact BK252.out) hb); have n5_ := Aside0.mk (below_step (by repeat (first | (with_reducible first | exact HB.out | apply below_alloc | apply pw_below_drewN | apply below_drew1 | refine below_set ?_ GE250.out | refine below_set ?_ GE251.out | refine below_set ?_ GE252.out) | exact HB.out)) hb); have n6_ := Aside0.mk (hbox); have n7_ := Aside0.mk ((by rw [hg]; exact (below_size (by repeat (first | (with_reducible first | exact HB.out | apply below_alloc | apply pw_below_drewN | apply below_drew1 | refine below_set ?_ GE250.out | refine below_set ?_ GE251.out | refine below_set ?_ GE252.out) | exact HB.out))) : w.heap.size ≤ gb253)); have n8_ := Aside0.mk ((by rw [hg]; exact (below_size (by repeat (first | (with_reducible first | exact HB.out | apply below_alloc | apply pw_below_drewN | apply below_drew1 | refine below_set ?_ GE250.out | refine below_set ?_ GE251.out | refine below_set ?_ GE252.out) | exact HB.out))) : w.heap.size ≤ gb253)); have n9_ := Aside0.mk ((by rw [hg]; exact Nat.ne_of_lt (blk_lt (g := gb250) (o := .cells #[.slice A0_0 l0_0.length c0_0] 44 (0, 0)) (by (with_reducible repeat (first | refine blk_drewN ?_ _ | refine blk_drew ?_ | refine blk_alloc ?_ _)); exact BK250.out)) : gb250 ≠ gb253)); have n10_ := Aside0.mk ((by rw [hg]; exact Nat.ne_of_gt (blk_lt (g := gb250) (o := .cells #[.slice A0_0 l0_0.length c0_0] 44 (0, 0)) (by (with_reducible repeat (first | refine blk_drewN ?_ _ | refine blk_drew ?_ | refine blk_alloc ?_ _)); exact BK250.out)) : gb253 ≠ gb250)); have n11_ := Aside0.mk ((by rw [hg]; exact Nat.ne_of_lt (blk_lt (g := gb251) (o := .cells #[.int .i64 a1_0, .int .i64 a1_1, .slice A1_2 l1_2.length c1_2] 27 (0, 0)) (by (with_reducible repeat (first | refine blk_drewN ?_ _ | refine blk_drew ?_ | refine blk_alloc ?_ _)); exact BK251.out)) : gb251 ≠ gb253)); have n12_ := Aside0.mk ((by rw [hg]; exact Nat.ne_of_gt (blk_lt (g := gb251) (o := .cells #[.int .i64 a1_0, .int .i64 a1_1, .slice A1_2 l1_2.length c1_2] 27 (0, 0)) (by (with_reducible repeat (first | refine blk_drewN ?_ _ | refine blk_drew ?_ | refine blk_alloc ?_ _)); exact BK251.out)) : gb253 ≠ gb251)); have n13_ := Aside0.mk ((by rw [hg]; exact Nat.ne_of_lt (blk_lt (g := gb252) (o := .cells #[.slice none 0 0, .slice none 0 0, .bool false, .bool false] 92 (0, 0)) (by (with_reducible repeat (first | refine blk_drewN ?_ _ | refine blk_drew ?_ | refine blk_alloc ?_ _)); exact BK252.out)) : gb252 ≠ gb253)); have n14_ := Aside0.mk ((by rw [hg]; exact Nat.ne_of_gt (blk_lt (g := gb252) (o := .cells #[.slice none 0 0, .slice none 0 0, .bool false, .bool false] 92 (0, 0)) (by (with_reducible repeat (first | refine blk_drewN ?_ _ | refine blk_drew ?_ | refine blk_alloc ?_ _)); exact BK252.out)) : gb253 ≠ gb252)); clear HO0_0; clear HO1_2; clear BK250; clear BK251; clear BK252; clear HB; have HO0_0 := n0_; have HO1_2 := n1_; have BK250 := n2_; have BK251 := n3_; have BK252 := n4_; have HB := n5_; have BK253 := n6_; have GW253 := n7_; have GE253 := n8_; have NB250_253 := n9_; have NB253_250 := n10_; have NB251_253 := n11_; have NB253_251 := n12_; have NB252_253 := n13_; have NB253_252 := n14_; clear n0_ n1_ n2_ n3_ n4_ n5_ n6_ n7_ n8_ n9_ n10_ n11_ n12_ n13_ n14_; clear hb hbox hg; have hnb8 := NB253_250.out; have hnc8 := NB250_253.out; have hnb9 := NB253_251.out; have hnc9 := NB251_253.out; have hnb10 := NB253_252.out; have hnc10 := NB252_253.out; have hcz11_0 : w7.cell? ⟨gb253, 0, none⟩ = some (.slice none 0 0) := (blk_cell BK253.out 0).trans rfl; have hcz11_1 : w7.cell? ⟨gb253, 1, none⟩ = some (.slice none 0 0) := (blk_cell BK253.out 1).trans rfl; have hcz11_2 : w7.cell? ⟨gb253, 2, none⟩ = some (.bool false) := (blk_cell BK253.out 2).trans rfl; have hcz11_3 : w7.cell? ⟨gb253, 3, none⟩ = some (.bool false) := (blk_cell BK253.out 3).trans rfl; have hfz11_0 := blk_frozen BK253.out 0; have hfz11_1 := blk_frozen BK253.out 1; have hfz11_2 := blk_frozen BK253.out 2; have hfz11_3 := blk_frozen BK253.out 3))
 (try simp only [Act.put, List.setIfInBounds_toArray, List.set_cons_zero, List.set_cons_succ])
 go_cut [18] (fun v18 wc => ∃ (kq : Nat) (x18_2 : Bool), v18 = .bool x18_2 ∧ Aside0 (impl_recordOf.j0 kq x18_2 l0_0 a1_0 a1_1 l1_2 false false = some (r1, r2, r3, r4)) ∧ Aside0 (kq ≤ k) ∧ Aside0 (Kd.V (Kd.slice 2 (Kd.int .i64)) 22 wc w.heap.size (fun k_ => ((P0_0_ k_ ∨ P1_2_ k_) ∨ w.heap.size ≤ k_) ∧ k_ ≠ gb250 ∧ k_ ≠ gb251 ∧ k_ ≠ gb252 ∧ k_ ≠ gb253) (.slice A0_0 l0_0.length c0_0) l0_0) ∧ Aside0 (Kd.V (Kd.int .i64) 2 wc w.heap.size (fun k_ => ((P0_0_ k_ ∨ P1_2_ k_) ∨ w.heap.size ≤ k_) ∧ k_ ≠ gb250 ∧ k_ ≠ gb251 ∧ k_ ≠ gb252 ∧ k_ ≠ gb253) (.slice A1_2 l1_2.length c1_2) l1_2) ∧ Aside0 (wc.heap[gb250]? = some (.cells #[(.slice A0_0 l0_0.length c0_0)] 44 (0, 0))) ∧ Aside0 (wc.heap[gb251]? = some (.cells #[.int .i64 a1_0, .int .i64 a1_1, (.slice A1_2 l1_2.length c1_2)] 27 (0, 0))) ∧ Aside0 (wc.heap[gb252]? = some (.cells #[(.slice none 0 0), (.slice none 0 0), .bool false, .bool false] 92 (0, 0))) ∧ Aside0 (wc.heap[gb253]? = some (.cells #[(.slice none 0 0), (.slice none 0 0), .bool false, .bool false] 92 (0, 0))) ∧ Aside0 (Below w.heap.size w wc))
 case first =>
  have H := HC3.out
  clear HC3
  replace H := Option.bind_eq_some_iff.mp H
  obtain ⟨t254, A120, H⟩ := H
  replace H : (if t254 = true then ((impl_IsPlainPlay.f a1_0 a1_1 l1_2).bind fun t255 => (impl_recordOf.j0 k (!t255) l0_0 a1_0 a1_1 l1_2 false false)) else (impl_recordOf.j0 k true l0_0 a1_0 a1_1 l1_2 false false)) = some (r1, r2, r3, r4) := H
  have A12 := Aside0.mk A120
  clear A120
  by_cases c13 : t254 = true
  ·subst c13
   have H1 : ((impl_IsPlainPlay.f a1_0 a1_1 l1_2).bind fun t255 => (impl_recordOf.j0 k (!t255) l0_0 a1_0 a1_1 l1_2 false false)) = some (r1, r2, r3, r4) := by rw [if_pos rfl] at H; exact H
   clear H
   have H := H1
   clear H1
   replace H := Option.bind_eq_some_iff.mp H
   obtain ⟨t255, A140, H⟩ := H
   replace H : (impl_recordOf.j0 k (!t255) l0_0 a1_0 a1_1 l1_2 false false) = some (r1, r2, r3, r4) := H
   have A14 := Aside0.mk A140
   clear A140
   have H' := Aside0.mk H
   clear H
   have hnb15 := NB250_251.out
   have hnc15 := NB251_250.out
   have hnb16 := NB250_252.out
   have hnc16 := NB252_250.out
   have hnb17 := NB250_253.out
   have hnc17 := NB253_250.out
   have hcz18_0 : w7.cell? ⟨gb250, 0, none⟩ = some (.slice A0_0 l0_0.length c0_0) := (blk_cell BK250.out 0).trans rfl
   have hfz18_0 := blk_frozen BK250.out 0
   go_wp2_with (first | ((with_reducible refine gate_callee (f := 143) rfl ?_); refine goesL_ (some 12) rfl rfl Try.func143 (by kernel_rfl) rfl #[.agg #[.slice A0_0 l0_0.length c0_0]] rfl (by (try simp only [List.map_toArray, List.map_cons, List.map_nil]); first | done | rfl | (simp only [List.length_drop, List.length_take]; rfl)) ?_; (with_reducible refine (impl_IsDeal.calls _ _ l0_0 true _ ?side1 ?side2 A12.out).mono ?_); (case side1 => refine (Kd.V_reads' (e := 22) (base := w.heap.size) (ok := fun k_ => ((((((P0_0_ k_ ∨ P1_2_ k_) ∨ w.heap.size ≤ k_) ∧ k_ ≠ gb250) ∧ k_ ≠ gb251) ∧ k_ ≠ gb252) ∧ k_ ≠ gb253)) (n := l0_0.length) (c := c0_0) ?_).2.2; exact (by (with_reducible repeat (first | apply Kd.V_alloc | apply Kd.V_drewN | apply Kd.V_drew)); exact (Kd.V_mono (Kd.V_far (p := ⟨gb253, 3, none⟩) (Kd.V_far (p := ⟨gb253, 2, none⟩) (Kd.V_far (p := ⟨gb253, 1, none⟩) (Kd.V_far (p := ⟨gb253, 0, none⟩) (Kd.V_mono HO0_0.out (fun k_ hk => (⟨hk, hk.2⟩ : _ ∧ k_ ≠ gb253))) (fun _ hk => hk.2) (.slice none 0 0)) (fun _ hk => hk.2) (.slice none 0 0)) (fun _ hk => hk.2) (.bool false)) (fun _ hk => hk.2) (.bool false)) (fun _ h_ => h_.1)))); (case side2 => exact (Kd.V_reads' HO0_0.out).2.1); rintro e w19 ⟨rfl, hb⟩; refine ⟨_, rfl, ?_⟩; have n0_ := Aside0.mk (Kd.V_below (by (with_reducible repeat (first | apply Kd.V_alloc | apply Kd.V_drewN | apply Kd.V_drew)); exact (Kd.V_mono (Kd.V_far (p := ⟨gb253, 3, none⟩) (Kd.V_far (p := ⟨gb253, 2, none⟩) (Kd.V_far (p := ⟨gb253, 1, none⟩) (Kd.V_far (p := ⟨gb253, 0, none⟩) (Kd.V_mono HO0_0.out (fun k_ hk => (⟨hk, hk.2⟩ : _ ∧ k_ ≠ gb253))) (fun _ hk => hk.2) (.slice none 0 0)) (fun _ hk => hk.2) (.slice none 0 0)) (fun _ hk => hk.2) (.bool false)) (fun _ hk => hk.2) (.bool false)) (fun _ h_ => h_.1))) hb); have n1_ := Aside0.mk (Kd.V_below (by (with_reducible repeat (first | apply Kd.V_alloc | apply Kd.V_drewN | apply Kd.V_drew)); exact (Kd.V_mono (Kd.V_far (p := ⟨gb253, 3, none⟩) (Kd.V_far (p := ⟨gb253, 2, none⟩) (Kd.V_far (p := ⟨gb253, 1, none⟩) (Kd.V_far (p := ⟨gb253, 0, none⟩) (Kd.V_mono HO1_2.out (fun k_ hk => (⟨hk, hk.2⟩ : _ ∧ k_ ≠ gb253))) (fun _ hk => hk.2) (.slice none 0 0)) (fun _ hk => hk.2) (.slice none 0 0)) (fun _ hk => hk.2) (.bool false)) (fun _ hk => hk.2) (.bool false)) (fun _ h_ => h_.1))) hb); have n2_ := Aside0.mk (blk_below (g := gb250) (o := .cells #[.slice A0_0 l0_0.length c0_0] 44 (0, 0)) (by (with_reducible repeat (first | refine blk_drewN ?_ _ | refine blk_drew ?_ | refine blk_alloc ?_ _)); refine blk_far ?_ NB250_253.out _; (with_reducible repeat (first | refine blk_drewN ?_ _ | refine blk_drew ?_ | refine blk_alloc ?_ _)); refine blk_far ?_ NB250_253.out _; (with_reducible repeat (first | refine blk_drewN ?_ _ | refine blk_drew ?_ | refine blk_alloc ?_ _)); refine blk_far ?_ NB250_253.out _; (with_reducible repeat (first | refine blk_drewN ?_ _ | refine blk_drew ?_ | refine blk_alloc ?_ _)); refine blk_far ?_ NB250_253.out _; (with_reducible repeat (first | refine blk_drewN ?_ _ | refine blk_drew ?_ | refine blk_alloc ?_ _)); exact BK250.out) hb); have n3_ := Aside0.mk (blk_below (g := gb251) (o := .cells #[.int .i64 a1_0, .int .i64 a1_1, .slice A1_2 l1_2.length c1_2] 27 (0, 0)) (by (with_reducible repeat (first | refine blk_drewN ?_ _ | refine blk_drew ?_ | refine blk_alloc ?_ _)); refine blk_far ?_ NB251_253.out _; (with_reducible repeat (first | refine blk_drewN ?_ _ | refine blk_drew ?_ | refine blk_alloc ?_ _)); refine blk_far ?_ NB251_253.out _; (with_reducible repeat (first | refine blk_drewN ?_ _ | refine blk_drew ?_ | refine blk_alloc ?_ _)); refine blk_far ?_ NB251_253.out _; (with_reducible repeat (first | refine blk_drewN ?_ _ | refine blk_drew ?_ | refine blk_alloc ?_ _)); refine blk_far ?_ NB251_253.out _; (with_reducible repeat (first | refine blk_drewN ?_ _ | refine blk_drew ?_ | refine blk_alloc ?_ _)); exact BK251.out) hb); have n4_ := Aside0.mk (blk_below (g := gb252) (o := .cells #[.slice none 0 0, .slice none 0 0, .bool false, .bool false] 92 (0, 0)) (by (with_reducible repeat (first | refine blk_drewN ?_ _ | refine blk_drew ?_ | refine blk_alloc ?_ _)); refine blk_far ?_ NB252_253.out _; (with_reducible repeat (first | refine blk_drewN ?_ _ | refine blk_drew ?_ | refine blk_alloc ?_ _)); refine blk_far ?_ NB252_253.out _; (with_reducible repeat (first | refine blk_drewN ?_ _ | refine blk_drew ?_ | refine blk_alloc ?_ _)); refine blk_far ?_ NB252_253.out _; (with_reducible repeat (first | refine blk_drewN ?_ _ | refine blk_drew ?_ | refine blk_alloc ?_ _)); refine blk_far ?_ NB252_253.out _; (with_reducible repeat (first | refine blk_drewN ?_ _ | refine blk_drew ?_ | refine blk_alloc ?_ _)); exact BK252.out) hb); have n5_ := Aside0.mk (blk_below (g := gb253) (o := .cells #[.slice none 0 0, .slice none 0 0, .bool false, .bool false] 92 (0, 0)) (by (with_reducible repeat (first | refine blk_drewN ?_ _ | refine blk_drew ?_ | refine blk_alloc ?_ _)); refine blk_put (cs := #[.slice none 0 0, .slice none 0 0, .bool false, .bool false]) ?_ 3 _ rfl; (with_reducible repeat (first | refine blk_drewN ?_ _ | refine blk_drew ?_ | refine blk_alloc ?_ _)); refine blk_put (cs := #[.slice none 0 0, .slice none 0 0, .bool false, .bool false]) ?_ 2 _ rfl; (with_reducible repeat (first | refine blk_drewN ?_ _ | refine blk_drew ?_ | refine blk_alloc ?_ _)); refine blk_put (cs := #[.slice none 0 0, .slice none 0 0, .bool false, .bool false]) ?_ 1 _ rfl; (with_reducible repeat (first | refine blk_drewN ?_ _ | refine blk_drew ?_ | refine blk_alloc ?_ _)); refine blk_put (cs := #[.slice none 0 0, .slice none 0 0, .bool false, .bool false]) ?_ 0 _ rfl; (with_reducible repeat (first | refine blk_drewN ?_ _ | refine blk_drew ?_ | refine blk_alloc ?_ _)); exact BK253.out) hb); have n6_ := Aside0.mk (below_step (by repeat (first | (with_reducible first | exact HB.out | apply below_alloc | apply pw_below_drewN | apply below_drew1 | refine below_set ?_ GE250.out | refine below_set ?_ GE251.out | refine below_set ?_ GE252.out | refine below_set ?_ GE253.out) | exact HB.out)) hb); clear HO0_0; clear HO1_2; clear BK250; clear BK251; clear BK252; clear BK253; clear HB; have HO0_0 := n0_; have HO1_2 := n1_; have BK250 := n2_; have BK251 := n3_; have BK252 := n4_; have BK253 := n5_; have HB := n6_; clear n0_ n1_ n2_ n3_ n4_ n5_ n6_; (try clear hb); (try clear hb2); (try clear hk); (try clear hi); have hnb20 := NB251_252.out; have hnc20 := NB252_251.out; have hnb21 := NB251_253.out; have hnc21 := NB253_251.out; have hcz22_0 : w19.cell? ⟨gb251, 0, none⟩ = some (.int .i64 a1_0) := (blk_cell BK251.out 0).trans rfl; have hcz22_1 : w19.cell? ⟨gb251, 1, none⟩ = some (.int .i64 a1_1) := (blk_cell BK251.out 1).trans rfl; have hcz22_2 : w19.cell? ⟨gb251, 2, none⟩ = some (.slice A1_2 l1_2.length c1_2) := (blk_cell BK251.out 2).trans rfl; have hfz22_0 := blk_frozen BK251.out 0; have hfz22_1 := blk_frozen BK251.out 1; have hfz22_2 := blk_frozen BK251.out 2) | (go_at_call 25; (with_reducible refine (impl_IsPlainPlay.calls a1_0 a1_1 _ _ l1_2 t255 _ ?side1 ?side2 A14.out).mono ?_); (case side1 => repeat (first | exact (Kd.V_reads' HO1_2.out).2.2 | (with_reducible refine Kd.C_alloc ?_ _) | (with_reducible refine Kd.C_drewN ?_ _) | (with_reducible refine Kd.C_drew ?_))); (case side2 => exact (Kd.V_reads' HO1_2.out).2.1); rintro e w23 ⟨rfl, hb⟩; have n0_ := Aside0.mk (Kd.V_below (by (with_reducible repeat (first | apply Kd.V_alloc | apply Kd.V_drewN | apply Kd.V_drew)); exact HO0_0.out) hb); have n1_ := Aside0.mk (Kd.V_below (by (with_reducible repeat (first | apply Kd.V_alloc | apply Kd.V_drewN | apply Kd.V_drew)); exact HO1_2.out) hb); have n2_ := Aside0.mk (blk_below (g := gb250) (o := .cells #[.slice A0_0 l0_0.length c0_0] 44 (0, 0)) (by (with_reducible repeat (first | refine blk_drewN ?_ _ | refine blk_drew ?_ | refine blk_alloc ?_ _)); exact BK250.out) hb); have n3_ := Aside0.mk (blk_below (g := gb251) (o := .cells #[.int .i64 a1_0, .int .i64 a1_1, .slice A1_2 l1_2.length c1_2] 27 (0, 0)) (by (with_reducible repeat (first | refine blk_drewN ?_ _ | refine blk_drew ?_ | refine blk_alloc ?_ _)); exact BK251.out) hb); have n4_ := Aside0.mk (blk_below (g := gb252) (o := .cells #[.slice none 0 0, .slice none 0 0, .bool false, .bool false] 92 (0, 0)) (by (with_reducible repeat (first | refine blk_drewN ?_ _ | refine blk_drew ?_ | refine blk_alloc ?_ _)); exact BK252.out) hb); have n5_ := Aside0.mk (blk_below (g := gb253) (o := .cells #[.slice none 0 0, .slice none 0 0, .bool false, .bool false] 92 (0, 0)) (by (with_reducible repeat (first | refine blk_drewN ?_ _ | refine blk_drew ?_ | refine blk_alloc ?_ _)); exact BK253.out) hb); have n6_ := Aside0.mk (below_step (by repeat (first | (with_reducible first | exact HB.out | apply below_alloc | apply pw_below_drewN | apply below_drew1 | refine below_set ?_ GE250.out | refine below_set ?_ GE251.out | refine below_set ?_ GE252.out | refine below_set ?_ GE253.out) | exact HB.out)) hb); clear HO0_0; clear HO1_2; clear BK250; clear BK251; clear BK252; clear BK253; clear HB; have HO0_0 := n0_; have HO1_2 := n1_; have BK250 := n2_; have BK251 := n3_; have BK252 := n4_; have BK253 := n5_; have HB := n6_; clear n0_ n1_ n2_ n3_ n4_ n5_ n6_; (try clear hb); (try clear hb2); (try clear hk); (try clear hi)))
   go_meet
   case rel => exact ⟨_, (!t255), (by first | rfl | (simp; done) | (simp [*]; done)), H', ⟨by first | omega | exact Nat.le_refl _⟩, ⟨by (with_reducible repeat (first | apply Kd.V_alloc | apply Kd.V_drewN | apply Kd.V_drew)); exact Kd.V_mono HO0_0.out (fun _ hk => ⟨hk.1.1.1.1, ⟨hk.1.1.1.2, ⟨hk.1.1.2, ⟨hk.1.2, hk.2⟩⟩⟩⟩)⟩, ⟨by (with_reducible repeat (first | apply Kd.V_alloc | apply Kd.V_drewN | apply Kd.V_drew)); exact Kd.V_mono HO1_2.out (fun _ hk => ⟨hk.1.1.1.1, ⟨hk.1.1.1.2, ⟨hk.1.1.2, ⟨hk.1.2, hk.2⟩⟩⟩⟩)⟩, ⟨by (with_reducible repeat (first | refine blk_drewN ?_ _ | refine blk_drew ?_ | refine blk_alloc ?_ _)); exact BK250.out⟩, ⟨by (with_reducible repeat (first | refine blk_drewN ?_ _ | refine blk_drew ?_ | refine blk_alloc ?_ _)); exact BK251.out⟩, ⟨by (with_reducible repeat (first | refine blk_drewN ?_ _ | refine blk_drew ?_ | refine blk_alloc ?_ _)); exact BK252.out⟩, ⟨by (with_reducible repeat (first | refine blk_drewN ?_ _ | refine blk_drew ?_ | refine blk_alloc ?_ _)); exact BK253.out⟩, ⟨by repeat (first | (with_reducible first | exact HB.out | apply below_alloc | apply pw_below_drewN | apply below_drew1 | refine below_set ?_ GE250.out | refine below_set ?_ GE251.out | refine below_set ?_ GE252.out | refine below_set ?_ GE253.out) | exact HB.out)⟩⟩
  ·replace c13 := Bool.eq_false_iff.mpr c13
   subst c13
   have H1 : (impl_recordOf.j0 k true l0_0 a1_0 a1_1 l1_2 false false) = some (r1, r2, r3, r4) := by rw [if_neg (show ¬ (false = true) by decide)] at H; exact H
   clear H
   have H := H1
   clear H1
   have H' := Aside0.mk H
   clear H
   have hnb24 := NB250_251.out
   have hnc24 := NB251_250.out
   have hnb25 := NB250_252.out
   have hnc25 := NB252_250.out
   have hnb26 := NB250_253.out
   have hnc26 := NB253_250.out
   have hcz27_0 : w7.cell? ⟨gb250, 0, none⟩ = some (.slice A0_0 l0_0.length c0_0) := (blk_cell BK250.out 0).trans rfl
   have hfz27_0 := blk_frozen BK250.out 0
   go_wp2_with (first | ((with_reducible refine gate_callee (f := 143) rfl ?_); refine goesL_ (some 12) rfl rfl Try.func143 (by kernel_rfl) rfl #[.agg #[.slice A0_0 l0_0.length c0_0]] rfl (by (try simp only [List.map_toArray, List.map_cons, List.map_nil]); first | done | rfl | (simp only [List.length_drop, List.length_take]; rfl)) ?_; (with_reducible refine (impl_IsDeal.calls _ _ l0_0 false _ ?side1 ?side2 A12.out).mono ?_); (case side1 => refine (Kd.V_reads' (e := 22) (base := w.heap.size) (ok := fun k_ => ((((((P0_0_ k_ ∨ P1_2_ k_) ∨ w.heap.size ≤ k_) ∧ k_ ≠ gb250) ∧ k_ ≠ gb251) ∧ k_ ≠ gb252) ∧ k_ ≠ gb253)) (n := l0_0.length) (c := c0_0) ?_).2.2; exact (by (with_reducible repeat (first | apply Kd.V_alloc | apply Kd.V_drewN | apply Kd.V_drew)); exact (Kd.V_mono (Kd.V_far (p := ⟨gb253, 3, none⟩) (Kd.V_far (p := ⟨gb253, 2, none⟩) (Kd.V_far (p := ⟨gb253, 1, none⟩) (Kd.V_far (p := ⟨gb253, 0, none⟩) (Kd.V_mono HO0_0.out (fun k_ hk => (⟨hk, hk.2⟩ : _ ∧ k_ ≠ gb253))) (fun _ hk => hk.2) (.slice none 0 0)) (fun _ hk => hk.2) (.slice none 0 0)) (fun _ hk => hk.2) (.bool false)) (fun _ hk => hk.2) (.bool false)) (fun _ h_ => h_.1)))); (case side2 => exact (Kd.V_reads' HO0_0.out).2.1); rintro e w28 ⟨rfl, hb⟩; refine ⟨_, rfl, ?_⟩; have n0_ := Aside0.mk (Kd.V_below (by (with_reducible repeat (first | apply Kd.V_alloc | apply Kd.V_drewN | apply Kd.V_drew)); exact (Kd.V_mono (Kd.V_far (p := ⟨gb253, 3, none⟩) (Kd.V_far (p := ⟨gb253, 2, none⟩) (Kd.V_far (p := ⟨gb253, 1, none⟩) (Kd.V_far (p := ⟨gb253, 0, none⟩) (Kd.V_mono HO0_0.out (fun k_ hk => (⟨hk, hk.2⟩ : _ ∧ k_ ≠ gb253))) (fun _ hk => hk.2) (.slice none 0 0)) (fun _ hk => hk.2) (.slice none 0 0)) (fun _ hk => hk.2) (.bool false)) (fun _ hk => hk.2) (.bool false)) (fun _ h_ => h_.1))) hb); have n1_ := Aside0.mk (Kd.V_below (by (with_reducible repeat (first | apply Kd.V_alloc | apply Kd.V_drewN | apply Kd.V_drew)); exact (Kd.V_mono (Kd.V_far (p := ⟨gb253, 3, none⟩) (Kd.V_far (p := ⟨gb253, 2, none⟩) (Kd.V_far (p := ⟨gb253, 1, none⟩) (Kd.V_far (p := ⟨gb253, 0, none⟩) (Kd.V_mono HO1_2.out (fun k_ hk => (⟨hk, hk.2⟩ : _ ∧ k_ ≠ gb253))) (fun _ hk => hk.2) (.slice none 0 0)) (fun _ hk => hk.2) (.slice none 0 0)) (fun _ hk => hk.2) (.bool false)) (fun _ hk => hk.2) (.bool false)) (fun _ h_ => h_.1))) hb); have n2_ := Aside0.mk (blk_below (g := gb250) (o := .cells #[.slice A0_0 l0_0.length c0_0] 44 (0, 0)) (by (with_reducible repeat (first | refine blk_drewN ?_ _ | refine blk_drew ?_ | refine blk_alloc ?_ _)); refine blk_far ?_ NB250_253.out _; (with_reducible repeat (first | refine blk_drewN ?_ _ | refine blk_drew ?_ | refine blk_alloc ?_ _)); refine blk_far ?_ NB250_253.out _; (with_reducible repeat (first | refine blk_drewN ?_ _ | refine blk_drew ?_ | refine blk_alloc ?_ _)); refine blk_far ?_ NB250_253.out _; (with_reducible repeat (first | refine blk_drewN ?_ _ | refine blk_drew ?_ | refine blk_alloc ?_ _)); refine blk_far ?_ NB250_253.out _; (with_reducible repeat (first | refine blk_drewN ?_ _ | refine blk_drew ?_ | refine blk_alloc ?_ _)); exact BK250.out) hb); have n3_ := Aside0.mk (blk_below (g := gb251) (o := .cells #[.int .i64 a1_0, .int .i64 a1_1, .slice A1_2 l1_2.length c1_2] 27 (0, 0)) (by (with_reducible repeat (first | refine blk_drewN ?_ _ | refine blk_drew ?_ | refine blk_alloc ?_ _)); refine blk_far ?_ NB251_253.out _; (with_reducible repeat (first | refine blk_drewN ?_ _ | refine blk_drew ?_ | refine blk_alloc ?_ _)); refine blk_far ?_ NB251_253.out _; (with_reducible repeat (first | refine blk_drewN ?_ _ | refine blk_drew ?_ | refine blk_alloc ?_ _)); refine blk_far ?_ NB251_253.out _; (with_reducible repeat (first | refine blk_drewN ?_ _ | refine blk_drew ?_ | refine blk_alloc ?_ _)); refine blk_far ?_ NB251_253.out _; (with_reducible repeat (first | refine blk_drewN ?_ _ | refine blk_drew ?_ | refine blk_alloc ?_ _)); exact BK251.out) hb); have n4_ := Aside0.mk (blk_below (g := gb252) (o := .cells #[.slice none 0 0, .slice none 0 0, .bool false, .bool false] 92 (0, 0)) (by (with_reducible repeat (first | refine blk_drewN ?_ _ | refine blk_drew ?_ | refine blk_alloc ?_ _)); refine blk_far ?_ NB252_253.out _; (with_reducible repeat (first | refine blk_drewN ?_ _ | refine blk_drew ?_ | refine blk_alloc ?_ _)); refine blk_far ?_ NB252_253.out _; (with_reducible repeat (first | refine blk_drewN ?_ _ | refine blk_drew ?_ | refine blk_alloc ?_ _)); refine blk_far ?_ NB252_253.out _; (with_reducible repeat (first | refine blk_drewN ?_ _ | refine blk_drew ?_ | refine blk_alloc ?_ _)); refine blk_far ?_ NB252_253.out _; (with_reducible repeat (first | refine blk_drewN ?_ _ | refine blk_drew ?_ | refine blk_alloc ?_ _)); exact BK252.out) hb); have n5_ := Aside0.mk (blk_below (g := gb253) (o := .cells #[.slice none 0 0, .slice none 0 0, .bool false, .bool false] 92 (0, 0)) (by (with_reducible repeat (first | refine blk_drewN ?_ _ | refine blk_drew ?_ | refine blk_alloc ?_ _)); refine blk_put (cs := #[.slice none 0 0, .slice none 0 0, .bool false, .bool false]) ?_ 3 _ rfl; (with_reducible repeat (first | refine blk_drewN ?_ _ | refine blk_drew ?_ | refine blk_alloc ?_ _)); refine blk_put (cs := #[.slice none 0 0, .slice none 0 0, .bool false, .bool false]) ?_ 2 _ rfl; (with_reducible repeat (first | refine blk_drewN ?_ _ | refine blk_drew ?_ | refine blk_alloc ?_ _)); refine blk_put (cs := #[.slice none 0 0, .slice none 0 0, .bool false, .bool false]) ?_ 1 _ rfl; (with_reducible repeat (first | refine blk_drewN ?_ _ | refine blk_drew ?_ | refine blk_alloc ?_ _)); refine blk_put (cs := #[.slice none 0 0, .slice none 0 0, .bool false, .bool false]) ?_ 0 _ rfl; (with_reducible repeat (first | refine blk_drewN ?_ _ | refine blk_drew ?_ | refine blk_alloc ?_ _)); exact BK253.out) hb); have n6_ := Aside0.mk (below_step (by repeat (first | (with_reducible first | exact HB.out | apply below_alloc | apply pw_below_drewN | apply below_drew1 | refine below_set ?_ GE250.out | refine below_set ?_ GE251.out | refine below_set ?_ GE252.out | refine below_set ?_ GE253.out) | exact HB.out)) hb); clear HO0_0; clear HO1_2; clear BK250; clear BK251; clear BK252; clear BK253; clear HB; have HO0_0 := n0_; have HO1_2 := n1_; have BK250 := n2_; have BK251 := n3_; have BK252 := n4_; have BK253 := n5_; have HB := n6_; clear n0_ n1_ n2_ n3_ n4_ n5_ n6_; (try clear hb); (try clear hb2); (try clear hk); (try clear hi)))
   go_meet
   case rel => exact ⟨_, (true), (by first | rfl | (simp; done) | (simp [*]; done)), H', ⟨by first | omega | exact Nat.le_refl _⟩, ⟨by (with_reducible repeat (first | apply Kd.V_alloc | apply Kd.V_drewN | apply Kd.V_drew)); exact Kd.V_mono HO0_0.out (fun _ hk => ⟨hk.1.1.1.1, ⟨hk.1.1.1.2, ⟨hk.1.1.2, ⟨hk.1.2, hk.2⟩⟩⟩⟩)⟩, ⟨by (with_reducible repeat (first | apply Kd.V_alloc | apply Kd.V_drewN | apply Kd.V_drew)); exact Kd.V_mono HO1_2.out (fun _ hk => ⟨hk.1.1.1.1, ⟨hk.1.1.1.2, ⟨hk.1.1.2, ⟨hk.1.2, hk.2⟩⟩⟩⟩)⟩, ⟨by (with_reducible repeat (first | refine blk_drewN ?_ _ | refine blk_drew ?_ | refine blk_alloc ?_ _)); exact BK250.out⟩, ⟨by (with_reducible repeat (first | refine blk_drewN ?_ _ | refine blk_drew ?_ | refine blk_alloc ?_ _)); exact BK251.out⟩, ⟨by (with_reducible repeat (first | refine blk_drewN ?_ _ | refine blk_drew ?_ | refine blk_alloc ?_ _)); exact BK252.out⟩, ⟨by (with_reducible repeat (first | refine blk_drewN ?_ _ | refine blk_drew ?_ | refine blk_alloc ?_ _)); exact BK253.out⟩, ⟨by repeat (first | (with_reducible first | exact HB.out | apply below_alloc | apply pw_below_drewN | apply below_drew1 | refine below_set ?_ GE250.out | refine below_set ?_ GE251.out | refine below_set ?_ GE252.out | refine below_set ?_ GE253.out) | exact HB.out)⟩⟩
 case rest =>
  clear HC3
  try clear c1
  try clear c2
  try clear p2
  try clear c8
  try clear c9
  try clear c10
  try clear c13
  try clear c14
  try clear c15
  try clear c16
  try clear c17
  try clear c20
  try clear c21
  try clear c24
  try clear c25
  try clear c26
  try clear hcz11_0
  try clear hcz11_1
  try clear hcz11_2
  try clear hcz11_3
  try clear hcz18_0
  try clear hcz22_0
  try clear hcz22_1
  try clear hcz22_2
  try clear hcz27_0
  try clear hfz11_0
  try clear hfz11_1
  try clear hfz11_2
  try clear hfz11_3
  try clear hfz18_0
  try clear hfz22_0
  try clear hfz22_1
  try clear hfz22_2
  try clear hfz27_0
  obtain ⟨kq, x18_2, rfl, HA, HJ2, HO_251000, HO_252002, BK250, BK251, BK252, BK253, HB⟩ := hcut
  cases kq with
  | zero => exact absurd HA.out (by simp [impl_recordOf.j0])
  | succ kj2 =>
   have H := HA.out
   clear HA
   simp only [impl_recordOf.j0] at H
   by_cases c29 : x18_2 = true
   ·subst c29
    have H1 : (some (([] : List (List Int)), ([] : List Int), false, false)) = some (r1, r2, r3, r4) := by rw [if_pos rfl] at H; exact H
    clear H
    have H := H1
    clear H1
    simp only [Option.some.injEq, Prod.mk.injEq] at H
    obtain ⟨rfl, rfl, rfl, rfl⟩ := H
    have hnb30 := NB253_250.out
    have hnc30 := NB250_253.out
    have hnb31 := NB253_251.out
    have hnc31 := NB251_253.out
    have hnb32 := NB253_252.out
    have hnc32 := NB252_253.out
    have hcz33_0 : wc.cell? ⟨gb253, 0, none⟩ = some (.slice none 0 0) := (blk_cell BK253.out 0).trans rfl
    have hcz33_1 : wc.cell? ⟨gb253, 1, none⟩ = some (.slice none 0 0) := (blk_cell BK253.out 1).trans rfl
    have hcz33_2 : wc.cell? ⟨gb253, 2, none⟩ = some (.bool false) := (blk_cell BK253.out 2).trans rfl
    have hcz33_3 : wc.cell? ⟨gb253, 3, none⟩ = some (.bool false) := (blk_cell BK253.out 3).trans rfl
    have hfz33_0 := blk_frozen BK253.out 0
    have hfz33_1 := blk_frozen BK253.out 1
    have hfz33_2 := blk_frozen BK253.out 2
    have hfz33_3 := blk_frozen BK253.out 3
    have hnb34 := NB252_250.out
    have hnc34 := NB250_252.out
    have hnb35 := NB252_251.out
    have hnc35 := NB251_252.out
    have hcz36_0 : wc.cell? ⟨gb252, 0, none⟩ = some (.slice none 0 0) := (blk_cell BK252.out 0).trans rfl
    have hcz36_1 : wc.cell? ⟨gb252, 1, none⟩ = some (.slice none 0 0) := (blk_cell BK252.out 1).trans rfl
    have hcz36_2 : wc.cell? ⟨gb252, 2, none⟩ = some (.bool false) := (blk_cell BK252.out 2).trans rfl
    have hcz36_3 : wc.cell? ⟨gb252, 3, none⟩ = some (.bool false) := (blk_cell BK252.out 3).trans rfl
    have hfz36_0 := blk_frozen BK252.out 0
    have hfz36_1 := blk_frozen BK252.out 1
    have hfz36_2 := blk_frozen BK252.out 2
    have hfz36_3 := blk_frozen BK252.out 3
    go_wp2
    refine bodyPost_ret (results_cell_row rfl _ _ gb252 92 #[.slice none 0 0, .slice none 0 0, .bool false, .bool false] (0, 0) _ rfl (by (with_reducible repeat (first | refine blk_drewN ?_ _ | refine blk_drew ?_ | refine blk_alloc ?_ _)); refine blk_put (cs := #[.slice none 0 0, .slice none 0 0, .bool false, .bool false]) ?_ 3 _ rfl; (with_reducible repeat (first | refine blk_drewN ?_ _ | refine blk_drew ?_ | refine blk_alloc ?_ _)); refine blk_put (cs := #[.slice none 0 0, .slice none 0 0, .bool false, .bool false]) ?_ 2 _ rfl; (with_reducible repeat (first | refine blk_drewN ?_ _ | refine blk_drew ?_ | refine blk_alloc ?_ _)); refine blk_put (cs := #[.slice none 0 0, .slice none 0 0, .bool false, .bool false]) ?_ 1 _ rfl; (with_reducible repeat (first | refine blk_drewN ?_ _ | refine blk_drew ?_ | refine blk_alloc ?_ _)); refine blk_put (cs := #[.slice none 0 0, .slice none 0 0, .bool false, .bool false]) ?_ 0 _ rfl; (with_reducible repeat (first | refine blk_drewN ?_ _ | refine blk_drew ?_ | refine blk_alloc ?_ _)); exact BK252.out) Try.underlying92 rfl (by kernel_rfl)) rfl ?_
    exact ⟨_, _, by first | rfl | (simp [errW_none, errW_some] <;> rfl) | (simp [*, errW_none, errW_some] <;> rfl), by first | exact Kd.S_nil _ _ _ _ _ | exact Kd.N_nil _ _ _ _ _ | exact Kd.V_nil _ _ _ _ _ | exact Kd.Q_nil _ _ _ _ _ | exact Kd.R_nil _ _ _ _ _, by first | exact Kd.R_nil _ _ _ _ _ | exact Kd.N_nil _ _ _ _ _ | exact Kd.V_nil _ _ _ _ _ | exact Kd.Q_nil _ _ _ _ _ | exact Kd.S_nil _ _ _ _ _, by repeat (first | (with_reducible first | exact HB.out | apply below_alloc | apply pw_below_drewN | apply below_drew1 | refine below_set ?_ GE250.out | refine below_set ?_ GE251.out | refine below_set ?_ GE252.out | refine below_set ?_ GE253.out) | exact HB.out)⟩
   ·replace c29 := Bool.eq_false_iff.mpr c29
    subst c29
    have H1 : ((impl_leaders.f kj2 a1_0 a1_1 l1_2).bind fun t256 => ((slices_Clone_int64_int64_144.f l0_0).bind fun t259 => (impl_recordOf.l0 kj2 l1_2 (l1_2.length : Int) 0 a1_0 a1_1 l1_2 t259 t256 true true))) = some (r1, r2, r3, r4) := by rw [if_neg (show ¬ (false = true) by decide)] at H; exact H
    clear H
    have H := H1
    clear H1
    replace H := Option.bind_eq_some_iff.mp H
    obtain ⟨t256, A370, H⟩ := H
    replace H : ((slices_Clone_int64_int64_144.f l0_0).bind fun t259 => (impl_recordOf.l0 kj2 l1_2 (l1_2.length : Int) 0 a1_0 a1_1 l1_2 t259 t256 true true)) = some (r1, r2, r3, r4) := H
    have A37 := Aside0.mk A370
    clear A370
    replace H := Option.bind_eq_some_iff.mp H
    obtain ⟨t259, A380, H⟩ := H
    replace H : (impl_recordOf.l0 kj2 l1_2 (l1_2.length : Int) 0 a1_0 a1_1 l1_2 t259 t256 true true) = some (r1, r2, r3, r4) := H
    have A38 := Aside0.mk A380
    clear A380
    have H' := Aside0.mk H
    clear H
    try go_wp2
    have n0_ := Aside0.mk (Kd.V_drew HO_251000.out)
    have n1_ := Aside0.mk (Kd.V_drew HO_252002.out)
    have n2_ := Aside0.mk (blk_drew BK250.out)
    have n3_ := Aside0.mk (blk_drew BK251.out)
    have n4_ := Aside0.mk (blk_drew BK252.out)
    have n5_ := Aside0.mk (blk_drew BK253.out)
    have n6_ := Aside0.mk (below_drew1 HB.out)
    clear HO_251000
    clear HO_252002
    clear BK250
    clear BK251
    clear BK252
    clear BK253
    clear HB
    have HO_251000 := n0_
    have HO_252002 := n1_
    have BK250 := n2_
    have BK251 := n3_
    have BK252 := n4_
    have BK253 := n5_
    have HB := n6_
    clear n0_ n1_ n2_ n3_ n4_ n5_ n6_
    refine start_ (n := 13) (S := fun w' => w'.cell? ⟨gb251, 0, none⟩ = some (.int .i64 a1_0) ∧ w'.cell? ⟨gb251, 1, none⟩ = some (.int .i64 a1_1) ∧ w'.cell? ⟨gb251, 2, none⟩ = some (.slice A1_2 l1_2.length c1_2) ∧ w'.cell? ⟨gb250, 0, none⟩ = some (.slice A0_0 l0_0.length c0_0)) (ds := []) #[false, false, false, false, false, false, false, false, false, false, false, false, false] (by kernel_rfl) rfl rfl ⟨(blk_cell BK251.out 0).trans rfl, (blk_cell BK251.out 1).trans rfl, (blk_cell BK251.out 2).trans rfl, (blk_cell BK250.out 0).trans rfl⟩ (fun hHeld => ?_); refine with_tabW impl_recordOf.tab4 impl_recordOf.bits4 (fun HT_ HW_ => ?_)
    generalize wc.drew = w39 at HO_251000 HO_252002 BK250 BK251 BK252 BK253 HB hHeld ⊢
    refine pure_ (i := 2) (N := some 22) (v := ?_) (a' := ?_) #[false, false, true, false, false, false, false, false, false, false, false, false, false] rfl rfl (any_of HT_.out (by kernel_rfl)) (fun _ _ _ h => h) (Or.inl ⟨by rfl, ?_⟩) ?_ ?_
    rotate_left
    ·intro w'
     go_simp
     with_reducible rfl
    rotate_left
    ·simp only [Act.put, List.setIfInBounds_toArray, List.set_cons_zero, List.set_cons_succ, i64_w, i32_w]
     rfl
    refine take_ (i := 0) (N := some 20) (v := ?_) (a' := ?_) #[true, false, true, false, false, false, false, false, false, false, false, false, false] rfl rfl (take_ofW HT_.out HW_.out (by kernel_rfl)) (fun _ _ _ h => h) (Or.inl ⟨by rfl, ?_⟩) hHeld ?_ ?_
    rotate_left
    ·rintro w' ⟨s0, s1, s2, s3⟩
     go_simp
     with_reducible rfl
    rotate_left
    ·simp only [Act.put, List.setIfInBounds_toArray, List.set_cons_zero, List.set_cons_succ, i64_w, i32_w]
     rfl
    refine take_ (i := 3) (N := some 23) (v := ?_) (a' := ?_) #[true, false, true, true, false, false, false, false, false, false, false, false, false] rfl rfl (take_ofW HT_.out HW_.out (by kernel_rfl)) (fun _ _ _ h => h) (Or.inl ⟨by rfl, ?_⟩) hHeld ?_ ?_
    rotate_left
    ·rintro w' ⟨s0, s1, s2, s3⟩
     go_simp
     with_reducible rfl
    rotate_left
    ·simp only [Act.put, List.setIfInBounds_toArray, List.set_cons_zero, List.set_cons_succ, i64_w, i32_w]
     rfl
    refine one_ (i := 1) (N := some 21) #[true, true, true, true, false, false, false, false, false, false, false, false, false] rfl rfl (one_of HT_.out (by kernel_rfl)) (by decide) (fun K hK => ?_)
    refine goes_ Try.func93 (by kernel_rfl) rfl #[.agg #[.int .i64 a1_0, .int .i64 a1_1, .slice A1_2 l1_2.length c1_2]] (by rfl) rfl rfl (by (try simp only [List.map_toArray, List.map_cons, List.map_nil]); first | done | rfl | (simp only [List.length_drop, List.length_take]; rfl)) ?_
    with_reducible refine (impl_leaders.calls kj2 a1_0 a1_1 _ _ l1_2 t256 _ ?side1 ?side2 A37.out).mono ?_
    (case side1 => repeat (first | exact (Kd.V_reads' HO_252002.out).2.2 | (with_reducible refine Kd.C_alloc ?_ _) | (with_reducible refine Kd.C_drewN ?_ _) | (with_reducible refine Kd.C_drew ?_)))
    (case side2 => exact (Kd.V_reads' HO_252002.out).2.1)
    rintro e w40 ⟨v257, rfl, ho0, hb⟩
    refine ⟨_, rfl, ?_⟩
    have n0_ := Aside0.mk (Kd.V_elder' (by (with_reducible repeat (first | apply Kd.V_alloc | apply Kd.V_drewN | apply Kd.V_drew)); exact HO_251000.out) (Kd.R_base ho0) hb)
    have n1_ := Aside0.mk (Kd.V_elder' (by (with_reducible repeat (first | apply Kd.V_alloc | apply Kd.V_drewN | apply Kd.V_drew)); exact HO_252002.out) (Kd.R_base ho0) hb)
    have n2_ := Aside0.mk (Kd.R_lower (Kd.R_newM (M := fun k_ => (w.heap.size ≤ k_)) ho0 (below_size (by repeat (first | (with_reducible first | exact HB.out | apply below_alloc | apply pw_below_drewN | apply below_drew1 | refine below_set ?_ GE250.out | refine below_set ?_ GE251.out | refine below_set ?_ GE252.out | refine below_set ?_ GE253.out) | exact HB.out))) (fun k_ h_ => h_)) (below_size (by repeat (first | (with_reducible first | exact HB.out | apply below_alloc | apply pw_below_drewN | apply below_drew1 | refine below_set ?_ GE250.out | refine below_set ?_ GE251.out | refine below_set ?_ GE252.out | refine below_set ?_ GE253.out) | exact HB.out))))
    have n3_ := Aside0.mk (blk_below (g := gb250) (o := .cells #[.slice A0_0 l0_0.length c0_0] 44 (0, 0)) (by (with_reducible repeat (first | refine blk_drewN ?_ _ | refine blk_drew ?_ | refine blk_alloc ?_ _)); exact BK250.out) hb)
    have n4_ := Aside0.mk (blk_below (g := gb251) (o := .cells #[.int .i64 a1_0, .int .i64 a1_1, .slice A1_2 l1_2.length c1_2] 27 (0, 0)) (by (with_reducible repeat (first | refine blk_drewN ?_ _ | refine blk_drew ?_ | refine blk_alloc ?_ _)); exact BK251.out) hb)
    have n5_ := Aside0.mk (blk_below (g := gb252) (o := .cells #[.slice none 0 0, .slice none 0 0, .bool false, .bool false] 92 (0, 0)) (by (with_reducible repeat (first | refine blk_drewN ?_ _ | refine blk_drew ?_ | refine blk_alloc ?_ _)); exact BK252.out) hb)
    have n6_ := Aside0.mk (blk_below (g := gb253) (o := .cells #[.slice none 0 0, .slice none 0 0, .bool false, .bool false] 92 (0, 0)) (by (with_reducible repeat (first | refine blk_drewN ?_ _ | refine blk_drew ?_ | refine blk_alloc ?_ _)); exact BK253.out) hb)
    have n7_ := Aside0.mk (below_step (by repeat (first | (with_reducible first | exact HB.out | apply below_alloc | apply pw_below_drewN | apply below_drew1 | refine below_set ?_ GE250.out | refine below_set ?_ GE251.out | refine below_set ?_ GE252.out | refine below_set ?_ GE253.out) | exact HB.out)) hb)
    clear HO_251000
    clear HO_252002
    clear BK250
    clear BK251
    clear BK252
    clear BK253
    clear HB
    have HO_251000 := n0_
    have HO_252002 := n1_
    have HO258 := n2_
    have BK250 := n3_
    have BK251 := n4_
    have BK252 := n5_
    have BK253 := n6_
    have HB := n7_
    clear n0_ n1_ n2_ n3_ n4_ n5_ n6_ n7_
    (try clear hb)
    (try clear hb2)
    (try clear hk)
    (try clear hi)
    (try clear ho0)
    refine hK.out _ _ ⟨(blk_cell BK251.out 0).trans rfl, (blk_cell BK251.out 1).trans rfl, (blk_cell BK251.out 2).trans rfl, (blk_cell BK250.out 0).trans rfl⟩ (fun hHeld => ?_)
    clear hK K
    refine norm_ (a' := ?_) ?_ ?_
    rotate_left
    ·show Act.put _ (some 21) _ = _
     simp only [Act.put, List.setIfInBounds_toArray, List.set_cons_zero, List.set_cons_succ, i64_w, i32_w]
     rfl
    refine pure_ (i := 5) (N := some 25) (v := ?_) (a' := ?_) #[true, true, true, true, false, true, false, false, false, false, false, false, false] rfl rfl (any_of HT_.out (by kernel_rfl)) (fun _ _ _ h => h) (Or.inl ⟨by rfl, ?_⟩) ?_ ?_
    rotate_left
    ·intro w'
     go_simp
     with_reducible rfl
    rotate_left
    ·simp only [Act.put, List.setIfInBounds_toArray, List.set_cons_zero, List.set_cons_succ, i64_w, i32_w]
     rfl
    refine one_ (i := 4) (N := some 24) #[true, true, true, true, true, true, false, false, false, false, false, false, false] rfl rfl (one_of HT_.out (by kernel_rfl)) (by decide) (fun K hK => ?_)
    refine goes_ Try.func144 (by kernel_rfl) rfl #[.slice A0_0 l0_0.length c0_0] (by rfl) rfl rfl (by (try simp only [List.map_toArray, List.map_cons, List.map_nil]); first | done | rfl | (simp only [List.length_drop, List.length_take]; rfl)) ?_
    with_reducible refine (slices_Clone_int64_int64_144.calls (fun k_ => ((((P0_0_ k_ ∨ P1_2_ k_) ∨ w.heap.size ≤ k_) ∧ (k_ ≠ gb250 ∧ (k_ ≠ gb251 ∧ (k_ ≠ gb252 ∧ k_ ≠ gb253)))) ∧ some k_ ≠ (v257 : Value).ownBlock)) _ _ l0_0 t259 _ ?side1 A38.out).mono ?_
    (case side1 => exact HO_251000.out)
    rintro e w41 ⟨v260, rfl, ho0, hb⟩
    refine ⟨_, rfl, ?_⟩
    have n0_ := Aside0.mk (Kd.V_elder' (by (with_reducible repeat (first | apply Kd.V_alloc | apply Kd.V_drewN | apply Kd.V_drew)); exact HO_251000.out) (Kd.N_base ho0) hb)
    have n1_ := Aside0.mk (Kd.V_elder' (by (with_reducible repeat (first | apply Kd.V_alloc | apply Kd.V_drewN | apply Kd.V_drew)); exact HO_252002.out) (Kd.N_base ho0) hb)
    have n2_ := Aside0.mk (Kd.R_below (by (with_reducible repeat (first | apply Kd.R_alloc | apply Kd.R_drewN | apply Kd.R_drew)); exact HO258.out) hb)
    have n3_ := Aside0.mk (Kd.N_lower (Kd.N_mono (ok' := fun k_ => ((P0_0_ k_ ∨ P1_2_ k_) ∨ w.heap.size ≤ k_) ∧ some k_ ≠ (v257 : Value).ownBlock ∧ k_ ≠ gb250 ∧ k_ ≠ gb251 ∧ k_ ≠ gb252 ∧ k_ ≠ gb253) ho0 (fun k_ hk_ => ⟨Or.elim hk_ (fun hs_ => hs_.1.1) (fun hn_ => (.inr (Nat.le_trans (below_size (by repeat (first | (with_reducible first | exact HB.out | apply below_alloc | apply pw_below_drewN | apply below_drew1 | refine below_set ?_ GE250.out | refine below_set ?_ GE251.out | refine below_set ?_ GE252.out | refine below_set ?_ GE253.out) | exact HB.out))) hn_))), Or.elim hk_ (fun hs_ => hs_.2) (fun hn_ => (Kd.fresh' (Kd.R_lt (by (with_reducible repeat (first | apply Kd.R_alloc | apply Kd.R_drewN | apply Kd.R_drew)); exact HO258.out)) k_ hn_)), Or.elim hk_ (fun hs_ => hs_.1.2.1) (fun hn_ => (Kd.freshB (g := gb250) (o := .cells #[.slice A0_0 l0_0.length c0_0] 44 (0, 0)) (by (with_reducible repeat (first | refine blk_drewN ?_ _ | refine blk_drew ?_ | refine blk_alloc ?_ _)); exact BK250.out) k_ hn_)), Or.elim hk_ (fun hs_ => hs_.1.2.2.1) (fun hn_ => (Kd.freshB (g := gb251) (o := .cells #[.int .i64 a1_0, .int .i64 a1_1, .slice A1_2 l1_2.length c1_2] 27 (0, 0)) (by (with_reducible repeat (first | refine blk_drewN ?_ _ | refine blk_drew ?_ | refine blk_alloc ?_ _)); exact BK251.out) k_ hn_)), Or.elim hk_ (fun hs_ => hs_.1.2.2.2.1) (fun hn_ => (Kd.freshB (g := gb252) (o := .cells #[.slice none 0 0, .slice none 0 0, .bool false, .bool false] 92 (0, 0)) (by (with_reducible repeat (first | refine blk_drewN ?_ _ | refine blk_drew ?_ | refine blk_alloc ?_ _)); exact BK252.out) k_ hn_)), Or.elim hk_ (fun hs_ => hs_.1.2.2.2.2) (fun hn_ => (Kd.freshB (g := gb253) (o := .cells #[.slice none 0 0, .slice none 0 0, .bool false, .bool false] 92 (0, 0)) (by (with_reducible repeat (first | refine blk_drewN ?_ _ | refine blk_drew ?_ | refine blk_alloc ?_ _)); exact BK253.out) k_ hn_))⟩)) (below_size (by repeat (first | (with_reducible first | exact HB.out | apply below_alloc | apply pw_below_drewN | apply below_drew1 | refine below_set ?_ GE250.out | refine below_set ?_ GE251.out | refine below_set ?_ GE252.out | refine below_set ?_ GE253.out) | exact HB.out))))
    have n4_ := Aside0.mk (blk_below (g := gb250) (o := .cells #[.slice A0_0 l0_0.length c0_0] 44 (0, 0)) (by (with_reducible repeat (first | refine blk_drewN ?_ _ | refine blk_drew ?_ | refine blk_alloc ?_ _)); exact BK250.out) hb)
    have n5_ := Aside0.mk (blk_below (g := gb251) (o := .cells #[.int .i64 a1_0, .int .i64 a1_1, .slice A1_2 l1_2.length c1_2] 27 (0, 0)) (by (with_reducible repeat (first | refine blk_drewN ?_ _ | refine blk_drew ?_ | refine blk_alloc ?_ _)); exact BK251.out) hb)
    have n6_ := Aside0.mk (blk_below (g := gb252) (o := .cells #[.slice none 0 0, .slice none 0 0, .bool false, .bool false] 92 (0, 0)) (by (with_reducible repeat (first | refine blk_drewN ?_ _ | refine blk_drew ?_ | refine blk_alloc ?_ _)); exact BK252.out) hb)
    have n7_ := Aside0.mk (blk_below (g := gb253) (o := .cells #[.slice none 0 0, .slice none 0 0, .bool false, .bool false] 92 (0, 0)) (by (with_reducible repeat (first | refine blk_drewN ?_ _ | refine blk_drew ?_ | refine blk_alloc ?_ _)); exact BK253.out) hb)
    have n8_ := Aside0.mk (below_step (by repeat (first | (with_reducible first | exact HB.out | apply below_alloc | apply pw_below_drewN | apply below_drew1 | refine below_set ?_ GE250.out | refine below_set ?_ GE251.out | refine below_set ?_ GE252.out | refine below_set ?_ GE253.out) | exact HB.out)) hb)
    clear HO_251000
    clear HO_252002
    clear HO258
    clear BK250
    clear BK251
    clear BK252
    clear BK253
    clear HB
    have HO_251000 := n0_
    have HO_252002 := n1_
    have HO258 := n2_
    have HO261 := n3_
    have BK250 := n4_
    have BK251 := n5_
    have BK252 := n6_
    have BK253 := n7_
    have HB := n8_
    clear n0_ n1_ n2_ n3_ n4_ n5_ n6_ n7_ n8_
    (try clear hb)
    (try clear hb2)
    (try clear hk)
    (try clear hi)
    (try clear ho0)
    obtain ⟨Ao42, co42, eo42⟩ := Kd.R_slice HO258.out
    (first | subst eo42 | (injection eo42 with f1_ f2_ f3_; have f4_ := f1_.symm; have f5_ := f3_.symm; clear f1_ f2_ f3_; subst f4_; subst f5_))
    obtain ⟨Ao44, co44, eo44⟩ := Kd.N_slice HO261.out
    (first | subst eo44 | (injection eo44 with f1_ f2_ f3_; have f4_ := f1_.symm; have f5_ := f3_.symm; clear f1_ f2_ f3_; subst f4_; subst f5_))
    refine hK.out _ _ ⟨(blk_cell BK251.out 0).trans rfl, (blk_cell BK251.out 1).trans rfl, (blk_cell BK251.out 2).trans rfl, (blk_cell BK250.out 0).trans rfl⟩ (fun hHeld => ?_)
    clear hK K
    refine norm_ (a' := ?_) ?_ ?_
    rotate_left
    ·show Act.put _ (some 24) _ = _
     simp only [Act.put, List.setIfInBounds_toArray, List.set_cons_zero, List.set_cons_succ, i64_w, i32_w]
     rfl
    refine one_ (i := 6) (N := none) #[true, true, true, true, true, true, true, false, false, false, false, false, false] rfl rfl (one_of HT_.out (by kernel_rfl)) (by decide) (fun K hK => ?_)
    have hs43 : w41.cell? ⟨gb253, 1, none⟩ = some (.slice none 0 0) := (blk_cell BK253.out 1).trans rfl
    have hfs43 := blk_frozen BK253.out 1
    have hns43_0 := NB250_253.out
    have hns43_1 := NB251_253.out
    have hns43_2 := NB252_253.out
    have hms43_0 := NB253_250.out
    have hms43_1 := NB253_251.out
    have hms43_2 := NB253_252.out
    refine skip_ (w1 := ?_) (by rfl) rfl ?_ ?_
    rotate_left
    ·go_simp
     rfl
    refine hK.out _ _ ⟨((cell_far (p := ⟨gb253, _, none⟩) NB251_253.out _).trans (hHeld.1)), ((cell_far (p := ⟨gb253, _, none⟩) NB251_253.out _).trans (hHeld.2.1)), ((cell_far (p := ⟨gb253, _, none⟩) NB251_253.out _).trans (hHeld.2.2.1)), ((cell_far (p := ⟨gb253, _, none⟩) NB250_253.out _).trans (hHeld.2.2.2))⟩ (fun hHeld => ?_)
    clear hK K
    refine pure_ (i := 7) (N := some 26) (v := ?_) (a' := ?_) #[true, true, true, true, true, true, true, true, false, false, false, false, false] rfl rfl (any_of HT_.out (by kernel_rfl)) (fun _ _ _ h => h) (Or.inl ⟨by rfl, ?_⟩) ?_ ?_
    rotate_left
    ·intro w'
     go_simp
     with_reducible rfl
    rotate_left
    ·simp only [Act.put, List.setIfInBounds_toArray, List.set_cons_zero, List.set_cons_succ, i64_w, i32_w]
     rfl
    refine one_ (i := 8) (N := none) #[true, true, true, true, true, true, true, true, true, false, false, false, false] rfl rfl (one_of HT_.out (by kernel_rfl)) (by decide) (fun K hK => ?_)
    have hs45 : w41.cell? ⟨gb253, 0, none⟩ = some (.slice none 0 0) := (blk_cell BK253.out 0).trans rfl
    have hfs45 := blk_frozen BK253.out 0
    have hns45_0 := NB250_253.out
    have hns45_1 := NB251_253.out
    have hns45_2 := NB252_253.out
    have hms45_0 := NB253_250.out
    have hms45_1 := NB253_251.out
    have hms45_2 := NB253_252.out
    refine skip_ (w1 := ?_) (by rfl) rfl ?_ ?_
    rotate_left
    ·go_simp
     rfl
    refine hK.out _ _ ⟨((cell_far (p := ⟨gb253, _, none⟩) NB251_253.out _).trans (hHeld.1)), ((cell_far (p := ⟨gb253, _, none⟩) NB251_253.out _).trans (hHeld.2.1)), ((cell_far (p := ⟨gb253, _, none⟩) NB251_253.out _).trans (hHeld.2.2.1)), ((cell_far (p := ⟨gb253, _, none⟩) NB250_253.out _).trans (hHeld.2.2.2))⟩ (fun hHeld => ?_)
    clear hK K
    refine pure_ (i := 9) (N := some 27) (v := ?_) (a' := ?_) #[true, true, true, true, true, true, true, true, true, true, false, false, false] rfl rfl (any_of HT_.out (by kernel_rfl)) (fun _ _ _ h => h) (Or.inl ⟨by rfl, ?_⟩) ?_ ?_
    rotate_left
    ·intro w'
     go_simp
     with_reducible rfl
    rotate_left
    ·simp only [Act.put, List.setIfInBounds_toArray, List.set_cons_zero, List.set_cons_succ, i64_w, i32_w]
     rfl
    refine one_ (i := 10) (N := none) #[true, true, true, true, true, true, true, true, true, true, true, false, false] rfl rfl (one_of HT_.out (by kernel_rfl)) (by decide) (fun K hK => ?_)
    have hs46 : w41.cell? ⟨gb253, 2, none⟩ = some (.bool false) := (blk_cell BK253.out 2).trans rfl
    have hfs46 := blk_frozen BK253.out 2
    have hns46_0 := NB250_253.out
    have hns46_1 := NB251_253.out
    have hns46_2 := NB252_253.out
    have hms46_0 := NB253_250.out
    have hms46_1 := NB253_251.out
    have hms46_2 := NB253_252.out
    refine skip_ (w1 := ?_) (by rfl) rfl ?_ ?_
    rotate_left
    ·go_simp
     rfl
    refine hK.out _ _ ⟨((cell_far (p := ⟨gb253, _, none⟩) NB251_253.out _).trans (hHeld.1)), ((cell_far (p := ⟨gb253, _, none⟩) NB251_253.out _).trans (hHeld.2.1)), ((cell_far (p := ⟨gb253, _, none⟩) NB251_253.out _).trans (hHeld.2.2.1)), ((cell_far (p := ⟨gb253, _, none⟩) NB250_253.out _).trans (hHeld.2.2.2))⟩ (fun hHeld => ?_)
    clear hK K
    refine pure_ (i := 11) (N := some 28) (v := ?_) (a' := ?_) #[true, true, true, true, true, true, true, true, true, true, true, true, false] rfl rfl (any_of HT_.out (by kernel_rfl)) (fun _ _ _ h => h) (Or.inl ⟨by rfl, ?_⟩) ?_ ?_
    rotate_left
    ·intro w'
     go_simp
     with_reducible rfl
    rotate_left
    ·simp only [Act.put, List.setIfInBounds_toArray, List.set_cons_zero, List.set_cons_succ, i64_w, i32_w]
     rfl
    refine one_ (i := 12) (N := none) #[true, true, true, true, true, true, true, true, true, true, true, true, true] rfl rfl (one_of HT_.out (by kernel_rfl)) (by decide) (fun K hK => ?_)
    have hs47 : w41.cell? ⟨gb253, 3, none⟩ = some (.bool false) := (blk_cell BK253.out 3).trans rfl
    have hfs47 := blk_frozen BK253.out 3
    have hns47_0 := NB250_253.out
    have hns47_1 := NB251_253.out
    have hns47_2 := NB252_253.out
    have hms47_0 := NB253_250.out
    have hms47_1 := NB253_251.out
    have hms47_2 := NB253_252.out
    refine skip_ (w1 := ?_) (by rfl) rfl ?_ ?_
    rotate_left
    ·go_simp
     rfl
    refine hK.out _ _ ⟨((cell_far (p := ⟨gb253, _, none⟩) NB251_253.out _).trans (hHeld.1)), ((cell_far (p := ⟨gb253, _, none⟩) NB251_253.out _).trans (hHeld.2.1)), ((cell_far (p := ⟨gb253, _, none⟩) NB251_253.out _).trans (hHeld.2.2.1)), ((cell_far (p := ⟨gb253, _, none⟩) NB250_253.out _).trans (hHeld.2.2.2))⟩ (fun hHeld => ?_)
    clear hK K
    refine done_ (done_of HT_.out (by kernel_rfl)) ?_
    have hnb48 := NB251_250.out
    have hnc48 := NB250_251.out
    have hnb49 := NB251_252.out
    have hnc49 := NB252_251.out
    have hnb50 := NB251_253.out
    have hnc50 := NB253_251.out
    have hcz51_0 : w41.cell? ⟨gb251, 0, none⟩ = some (.int .i64 a1_0) := (blk_cell BK251.out 0).trans rfl
    have hcz51_1 : w41.cell? ⟨gb251, 1, none⟩ = some (.int .i64 a1_1) := (blk_cell BK251.out 1).trans rfl
    have hcz51_2 : w41.cell? ⟨gb251, 2, none⟩ = some (.slice A1_2 l1_2.length c1_2) := (blk_cell BK251.out 2).trans rfl
    have hfz51_0 := blk_frozen BK251.out 0
    have hfz51_1 := blk_frozen BK251.out 1
    have hfz51_2 := blk_frozen BK251.out 2
    try go_wp2
    go_loopg [32] kj2 (fun kq v32 w' => ∃ (x32_2 : Int) (x251000_2 : List (List Int)) (x253002_2 : Bool) (x253003_2 : Bool) (x254000_2 : List (List Int)) (x254003_2 : Bool) (u251000 : Value) (u254000 : Value), v32 = .int .i64 x32_2 ∧ Aside0 (impl_recordOf.l0 kq l1_2 (l1_2.length : Int) x32_2 a1_0 a1_1 l1_2 x254000_2 t256 true x254003_2 = some (r1, r2, r3, r4)) ∧ Aside0 (kq ≤ kj2) ∧ Aside0 (Kd.V (Kd.int .i64) 2 w' w.heap.size (fun k_ => ((P0_0_ k_ ∨ P1_2_ k_) ∨ w.heap.size ≤ k_) ∧ some k_ ≠ (u254000 : Value).ownBlock ∧ some k_ ≠ ((.slice Ao42 t256.length co42) : Value).ownBlock ∧ k_ ≠ gb250 ∧ k_ ≠ gb251 ∧ k_ ≠ gb252 ∧ k_ ≠ gb253) (.slice A1_2 l1_2.length c1_2) l1_2) ∧ Aside0 (Kd.V (Kd.slice 2 (Kd.int .i64)) 22 w' w.heap.size (fun k_ => ((P0_0_ k_ ∨ P1_2_ k_) ∨ w.heap.size ≤ k_) ∧ some k_ ≠ (u254000 : Value).ownBlock ∧ some k_ ≠ ((.slice Ao42 t256.length co42) : Value).ownBlock ∧ k_ ≠ gb250 ∧ k_ ≠ gb251 ∧ k_ ≠ gb252 ∧ k_ ≠ gb253) u251000 x251000_2) ∧ Aside0 (Kd.V (Kd.int .i64) 2 w' w.heap.size (fun k_ => ((P0_0_ k_ ∨ P1_2_ k_) ∨ w.heap.size ≤ k_) ∧ some k_ ≠ (u254000 : Value).ownBlock ∧ some k_ ≠ ((.slice Ao42 t256.length co42) : Value).ownBlock ∧ k_ ≠ gb250 ∧ k_ ≠ gb251 ∧ k_ ≠ gb252 ∧ k_ ≠ gb253) (.slice A1_2 l1_2.length c1_2) l1_2) ∧ Aside0 (Kd.N (Kd.slice 2 (Kd.int .i64)) 22 w' w.heap.size (fun k_ => ((P0_0_ k_ ∨ P1_2_ k_) ∨ w.heap.size ≤ k_) ∧ some k_ ≠ ((.slice Ao42 t256.length co42) : Value).ownBlock ∧ k_ ≠ gb250 ∧ k_ ≠ gb251 ∧ k_ ≠ gb252 ∧ k_ ≠ gb253) u254000 x254000_2) ∧ Aside0 (Kd.R (Kd.int .i64) 2 w' w.heap.size (fun k_ => (w.heap.size ≤ k_)) (.slice Ao42 t256.length co42) t256) ∧ Aside0 (w'.heap[gb250]? = some (.cells #[u251000] 44 (0, 0))) ∧ Aside0 (w'.heap[gb251]? = some (.cells #[.int .i64 a1_0, .int .i64 a1_1, (.slice A1_2 l1_2.length c1_2)] 27 (0, 0))) ∧ Aside0 (w'.heap[gb252]? = some (.cells #[(.slice none 0 0), (.slice none 0 0), .bool x253002_2, .bool x253003_2] 92 (0, 0))) ∧ Aside0 (w'.heap[gb253]? = some (.cells #[u254000, (.slice Ao42 t256.length co42), .bool true, .bool x254003_2] 92 (0, 0))) ∧ Aside0 (Below w.heap.size w w'))
    case atStart => exact ⟨(0), (l0_0), (false), (false), (t259), (true), (.slice A0_0 l0_0.length c0_0), (.slice Ao44 t259.length co44), (by first | rfl | (simp; done) | (simp [*]; done)), H', ⟨Nat.le_refl _⟩, ⟨by (with_reducible repeat (first | apply Kd.V_alloc | apply Kd.V_drewN | apply Kd.V_drew)); exact Kd.V_mono (Kd.V_far (p := ⟨gb253, 3, none⟩) (Kd.V_far (p := ⟨gb253, 2, none⟩) (Kd.V_far (p := ⟨gb253, 0, none⟩) (Kd.V_far (p := ⟨gb253, 1, none⟩) (Kd.V_mono HO_252002.out (fun k_ hk => (⟨hk, hk.1.1.2.2.2.2⟩ : _ ∧ k_ ≠ gb253))) (fun _ hk => hk.2) (.slice Ao42 t256.length co42)) (fun _ hk => hk.2) (.slice Ao44 t259.length co44)) (fun _ hk => hk.2) (.bool true)) (fun _ hk => hk.2) (.bool true)) (fun _ hk => ⟨hk.1.1.1.1, ⟨hk.1.2, ⟨hk.1.1.2, ⟨hk.1.1.1.2.1, ⟨hk.1.1.1.2.2.1, ⟨hk.1.1.1.2.2.2.1, hk.1.1.1.2.2.2.2⟩⟩⟩⟩⟩⟩)⟩, ⟨by (with_reducible repeat (first | apply Kd.V_alloc | apply Kd.V_drewN | apply Kd.V_drew)); exact Kd.V_mono (Kd.V_far (p := ⟨gb253, 3, none⟩) (Kd.V_far (p := ⟨gb253, 2, none⟩) (Kd.V_far (p := ⟨gb253, 0, none⟩) (Kd.V_far (p := ⟨gb253, 1, none⟩) (Kd.V_mono HO_251000.out (fun k_ hk => (⟨hk, hk.1.1.2.2.2.2⟩ : _ ∧ k_ ≠ gb253))) (fun _ hk => hk.2) (.slice Ao42 t256.length co42)) (fun _ hk => hk.2) (.slice Ao44 t259.length co44)) (fun _ hk => hk.2) (.bool true)) (fun _ hk => hk.2) (.bool true)) (fun _ hk => ⟨hk.1.1.1.1, ⟨hk.1.2, ⟨hk.1.1.2, ⟨hk.1.1.1.2.1, ⟨hk.1.1.1.2.2.1, ⟨hk.1.1.1.2.2.2.1, hk.1.1.1.2.2.2.2⟩⟩⟩⟩⟩⟩)⟩, ⟨by (with_reducible repeat (first | apply Kd.V_alloc | apply Kd.V_drewN | apply Kd.V_drew)); exact Kd.V_mono (Kd.V_far (p := ⟨gb253, 3, none⟩) (Kd.V_far (p := ⟨gb253, 2, none⟩) (Kd.V_far (p := ⟨gb253, 0, none⟩) (Kd.V_far (p := ⟨gb253, 1, none⟩) (Kd.V_mono HO_252002.out (fun k_ hk => (⟨hk, hk.1.1.2.2.2.2⟩ : _ ∧ k_ ≠ gb253))) (fun _ hk => hk.2) (.slice Ao42 t256.length co42)) (fun _ hk => hk.2) (.slice Ao44 t259.length co44)) (fun _ hk => hk.2) (.bool true)) (fun _ hk => hk.2) (.bool true)) (fun _ hk => ⟨hk.1.1.1.1, ⟨hk.1.2, ⟨hk.1.1.2, ⟨hk.1.1.1.2.1, ⟨hk.1.1.1.2.2.1, ⟨hk.1.1.1.2.2.2.1, hk.1.1.1.2.2.2.2⟩⟩⟩⟩⟩⟩)⟩, ⟨by (with_reducible repeat (first | apply Kd.N_alloc | apply Kd.N_drewN | apply Kd.N_drew)); exact Kd.N_mono (Kd.N_far (p := ⟨gb253, 3, none⟩) (Kd.N_far (p := ⟨gb253, 2, none⟩) (Kd.N_far (p := ⟨gb253, 0, none⟩) (Kd.N_far (p := ⟨gb253, 1, none⟩) (Kd.N_mono HO261.out (fun k_ hk => (⟨hk, hk.2.2.2.2.2⟩ : _ ∧ k_ ≠ gb253))) (fun _ hk => hk.2) (.slice Ao42 t256.length co42)) (fun _ hk => hk.2) (.slice Ao44 t259.length co44)) (fun _ hk => hk.2) (.bool true)) (fun _ hk => hk.2) (.bool true)) (fun _ hk => ⟨hk.1.1, ⟨hk.1.2.1, ⟨hk.1.2.2.1, ⟨hk.1.2.2.2.1, ⟨hk.1.2.2.2.2.1, hk.1.2.2.2.2.2⟩⟩⟩⟩⟩)⟩, ⟨by (with_reducible repeat (first | apply Kd.R_alloc | apply Kd.R_drewN | apply Kd.R_drew)); exact Kd.R_mono (Kd.R_far (p := ⟨gb253, 3, none⟩) (Kd.R_far (p := ⟨gb253, 2, none⟩) (Kd.R_far (p := ⟨gb253, 0, none⟩) (Kd.R_far (p := ⟨gb253, 1, none⟩) (Kd.R_types HO258.out BK253.out (by decide)) (fun _ hk => hk.2) (.slice Ao42 t256.length co42)) (fun _ hk => hk.2) (.slice Ao44 t259.length co44)) (fun _ hk => hk.2) (.bool true)) (fun _ hk => hk.2) (.bool true)) (fun _ hk => hk.1.1)⟩, ⟨by (with_reducible repeat (first | refine blk_drewN ?_ _ | refine blk_drew ?_ | refine blk_alloc ?_ _)); refine blk_far ?_ NB250_253.out _; (with_reducible repeat (first | refine blk_drewN ?_ _ | refine blk_drew ?_ | refine blk_alloc ?_ _)); refine blk_far ?_ NB250_253.out _; (with_reducible repeat (first | refine blk_drewN ?_ _ | refine blk_drew ?_ | refine blk_alloc ?_ _)); refine blk_far ?_ NB250_253.out _; (with_reducible repeat (first | refine blk_drewN ?_ _ | refine blk_drew ?_ | refine blk_alloc ?_ _)); refine blk_far ?_ NB250_253.out _; (with_reducible repeat (first | refine blk_drewN ?_ _ | refine blk_drew ?_ | refine blk_alloc ?_ _)); exact BK250.out⟩, ⟨by (with_reducible repeat (first | refine blk_drewN ?_ _ | refine blk_drew ?_ | refine blk_alloc ?_ _)); refine blk_far ?_ NB251_253.out _; (with_reducible repeat (first | refine blk_drewN ?_ _ | refine blk_drew ?_ | refine blk_alloc ?_ _)); refine blk_far ?_ NB251_253.out _; (with_reducible repeat (first | refine blk_drewN ?_ _ | refine blk_drew ?_ | refine blk_alloc ?_ _)); refine blk_far ?_ NB251_253.out _; (with_reducible repeat (first | refine blk_drewN ?_ _ | refine blk_drew ?_ | refine blk_alloc ?_ _)); refine blk_far ?_ NB251_253.out _; (with_reducible repeat (first | refine blk_drewN ?_ _ | refine blk_drew ?_ | refine blk_alloc ?_ _)); exact BK251.out⟩, ⟨by (with_reducible repeat (first | refine blk_drewN ?_ _ | refine blk_drew ?_ | refine blk_alloc ?_ _)); refine blk_far ?_ NB252_253.out _; (with_reducible repeat (first | refine blk_drewN ?_ _ | refine blk_drew ?_ | refine blk_alloc ?_ _)); refine blk_far ?_ NB252_253.out _; (with_reducible repeat (first | refine blk_drewN ?_ _ | refine blk_drew ?_ | refine blk_alloc ?_ _)); refine blk_far ?_ NB252_253.out _; (with_reducible repeat (first | refine blk_drewN ?_ _ | refine blk_drew ?_ | refine blk_alloc ?_ _)); refine blk_far ?_ NB252_253.out _; (with_reducible repeat (first | refine blk_drewN ?_ _ | refine blk_drew ?_ | refine blk_alloc ?_ _)); exact BK252.out⟩, ⟨by (with_reducible repeat (first | refine blk_drewN ?_ _ | refine blk_drew ?_ | refine blk_alloc ?_ _)); refine blk_put (cs := #[.slice Ao44 t259.length co44, .slice Ao42 t256.length co42, .bool true, .bool false]) ?_ 3 _ rfl; (with_reducible repeat (first | refine blk_drewN ?_ _ | refine blk_drew ?_ | refine blk_alloc ?_ _)); refine blk_put (cs := #[.slice Ao44 t259.length co44, .slice Ao42 t256.length co42, .bool false, .bool false]) ?_ 2 _ rfl; (with_reducible repeat (first | refine blk_drewN ?_ _ | refine blk_drew ?_ | refine blk_alloc ?_ _)); refine blk_put (cs := #[.slice none 0 0, .slice Ao42 t256.length co42, .bool false, .bool false]) ?_ 0 _ rfl; (with_reducible repeat (first | refine blk_drewN ?_ _ | refine blk_drew ?_ | refine blk_alloc ?_ _)); refine blk_put (cs := #[.slice none 0 0, .slice none 0 0, .bool false, .bool false]) ?_ 1 _ rfl; (with_reducible repeat (first | refine blk_drewN ?_ _ | refine blk_drew ?_ | refine blk_alloc ?_ _)); exact BK253.out⟩, ⟨by repeat (first | (with_reducible first | exact HB.out | apply below_alloc | apply pw_below_drewN | apply below_drew1 | refine below_set ?_ GE250.out | refine below_set ?_ GE251.out | refine below_set ?_ GE252.out | refine below_set ?_ GE253.out) | exact HB.out)⟩⟩
    case round =>
     clear H'
     try clear c1
     try clear c2
     try clear p2
     try clear c3
     try clear c4
     try clear c5
     try clear c8
     try clear c9
     try clear c10
     try clear c13
     try clear c14
     try clear c15
     try clear c16
     try clear c17
     try clear c20
     try clear c21
     try clear c24
     try clear c25
     try clear c26
     try clear c29
     try clear c30
     try clear c31
     try clear c32
     try clear c34
     try clear c35
     try clear c48
     try clear c49
     try clear c50
     try clear hcz11_0
     try clear hcz11_1
     try clear hcz11_2
     try clear hcz11_3
     try clear hcz18_0
     try clear hcz22_0
     try clear hcz22_1
     try clear hcz22_2
     try clear hcz27_0
     try clear hcz33_0
     try clear hcz33_1
     try clear hcz33_2
     try clear hcz33_3
     try clear hcz36_0
     try clear hcz36_1
     try clear hcz36_2
     try clear hcz36_3
     try clear hcz51_0
     try clear hcz51_1
     try clear hcz51_2
     try clear hfz11_0
     try clear hfz11_1
     try clear hfz11_2
     try clear hfz11_3
     try clear hfz18_0
     try clear hfz22_0
     try clear hfz22_1
     try clear hfz22_2
     try clear hfz27_0
     try clear hfz33_0
     try clear hfz33_1
     try clear hfz33_2
     try clear hfz33_3
     try clear hfz36_0
     try clear hfz36_1
     try clear hfz36_2
     try clear hfz36_3
     try clear hfz51_0
     try clear hfz51_1
     try clear hfz51_2
     try clear p2
     obtain ⟨x32_2, x251000_2, x253002_2, x253003_2, x254000_2, x254003_2, u251000, u254000, rfl, HA, HK2, HO_30, HO_251000, HO_252002, HO_254000, HO_254001, BK250, BK251, BK252, BK253, HB⟩ := hrel
     cases gk with
     | zero => exact absurd HA.out (by simp [impl_recordOf.l0])
     | succ k2 =>
      have H := HA.out
      clear HA
      simp only [impl_recordOf.l0] at H
      by_cases c52 : x32_2 < (l1_2.length : Int)
      ·rw [if_pos c52] at H
       have c52b0 : decide (x32_2 < (l1_2.length : Int)) = true := decide_eq_true c52
       clear c52
       by_cases c53 : 0 ≤ x32_2
       ·rw [if_pos c53] at H
        have c53b0 : decide (0 ≤ x32_2) = true := decide_eq_true c53
        clear c53
        by_cases c54 : x32_2 < (l1_2.length : Int)
        ·rw [if_pos c54] at H
         have c54b0 : decide (x32_2 < (l1_2.length : Int)) = true := decide_eq_true c54
         clear c54
         replace H := Option.bind_eq_some_iff.mp H
         obtain ⟨t263, A550, H⟩ := H
         replace H : (if 0 ≤ t263 then (if t263 < (x254000_2.length : Int) then ((slices_Contains_int64_int64.f k2 (rd_L1 x254000_2 t263) (rd l1_2 x32_2)).bind fun t265 => (if t265 = true then (if x254003_2 = true then (if x32_2 ≤ (l1_2.length : Int) then ((impl_trickAt.f (l1_2.take (x32_2 : Int).toNat)).bind fun t271 => ((impl_follow.f k2 (rd_L1 x254000_2 t263) t271).bind fun t274 => ((slices_Contains_int64_int64.f k2 t274 (rd l1_2 x32_2)).bind fun t277 => ((impl_without.f (rd_L1 x254000_2 t263) (rd l1_2 x32_2)).bind fun t278 => (impl_recordOf.l0 k2 l1_2 (l1_2.length : Int) (wrap64 (x32_2 + 1)) a1_0 a1_1 l1_2 (x254000_2.set (t263 : Int).toNat t278) t256 true t277))))) else (none)) else ((impl_without.f (rd_L1 x254000_2 t263) (rd l1_2 x32_2)).bind fun t282 => (impl_recordOf.l0 k2 l1_2 (l1_2.length : Int) (wrap64 (x32_2 + 1)) a1_0 a1_1 l1_2 (x254000_2.set (t263 : Int).toNat t282) t256 true false))) else (some (([] : List (List Int)), ([] : List Int), false, false)))) else (none)) else (none)) = some (r1, r2, r3, r4) := H
         have A55 := Aside0.mk A550
         clear A550
         by_cases c56 : 0 ≤ t263
         ·rw [if_pos c56] at H
          have c56b0 : decide (0 ≤ t263) = true := decide_eq_true c56
          clear c56
          by_cases c57 : t263 < (x254000_2.length : Int)
          ·rw [if_pos c57] at H
           have c57b0 : decide (t263 < (x254000_2.length : Int)) = true := decide_eq_true c57
           clear c57
           replace H := Option.bind_eq_some_iff.mp H
           obtain ⟨t265, A580, H⟩ := H
           replace H : (if t265 = true then (if x254003_2 = true then (if x32_2 ≤ (l1_2.length : Int) then ((impl_trickAt.f (l1_2.take (x32_2 : Int).toNat)).bind fun t271 => ((impl_follow.f k2 (rd_L1 x254000_2 t263) t271).bind fun t274 => ((slices_Contains_int64_int64.f k2 t274 (rd l1_2 x32_2)).bind fun t277 => ((impl_without.f (rd_L1 x254000_2 t263) (rd l1_2 x32_2)).bind fun t278 => (impl_recordOf.l0 k2 l1_2 (l1_2.length : Int) (wrap64 (x32_2 + 1)) a1_0 a1_1 l1_2 (x254000_2.set (t263 : Int).toNat t278) t256 true t277))))) else (none)) else ((impl_without.f (rd_L1 x254000_2 t263) (rd l1_2 x32_2)).bind fun t282 => (impl_recordOf.l0 k2 l1_2 (l1_2.length : Int) (wrap64 (x32_2 + 1)) a1_0 a1_1 l1_2 (x254000_2.set (t263 : Int).toNat t282) t256 true false))) else (some (([] : List (List Int)), ([] : List Int), false, false))) = some (r1, r2, r3, r4) := H
           have A58 := Aside0.mk A580
           clear A580
           by_cases c59 : t265 = true
           ·subst c59
            have H1 : (if x254003_2 = true then (if x32_2 ≤ (l1_2.length : Int) then ((impl_trickAt.f (l1_2.take (x32_2 : Int).toNat)).bind fun t271 => ((impl_follow.f k2 (rd_L1 x254000_2 t263) t271).bind fun t274 => ((slices_Contains_int64_int64.f k2 t274 (rd l1_2 x32_2)).bind fun t277 => ((impl_without.f (rd_L1 x254000_2 t263) (rd l1_2 x32_2)).bind fun t278 => (impl_recordOf.l0 k2 l1_2 (l1_2.length : Int) (wrap64 (x32_2 + 1)) a1_0 a1_1 l1_2 (x254000_2.set (t263 : Int).toNat t278) t256 true t277))))) else (none)) else ((impl_without.f (rd_L1 x254000_2 t263) (rd l1_2 x32_2)).bind fun t282 => (impl_recordOf.l0 k2 l1_2 (l1_2.length : Int) (wrap64 (x32_2 + 1)) a1_0 a1_1 l1_2 (x254000_2.set (t263 : Int).toNat t282) t256 true false))) = some (r1, r2, r3, r4) := by rw [if_pos rfl] at H; exact H
            clear H
            have H := H1
            clear H1
            by_cases c60 : x254003_2 = true
            ·subst c60
             have H1 : (if x32_2 ≤ (l1_2.length : Int) then ((impl_trickAt.f (l1_2.take (x32_2 : Int).toNat)).bind fun t271 => ((impl_follow.f k2 (rd_L1 x254000_2 t263) t271).bind fun t274 => ((slices_Contains_int64_int64.f k2 t274 (rd l1_2 x32_2)).bind fun t277 => ((impl_without.f (rd_L1 x254000_2 t263) (rd l1_2 x32_2)).bind fun t278 => (impl_recordOf.l0 k2 l1_2 (l1_2.length : Int) (wrap64 (x32_2 + 1)) a1_0 a1_1 l1_2 (x254000_2.set (t263 : Int).toNat t278) t256 true t277))))) else (none)) = some (r1, r2, r3, r4) := by rw [if_pos rfl] at H; exact H
             clear H
             have H := H1
             clear H1
             have c61b0 := eq_true (of_decide_eq_true (by first | (with_reducible assumption) | assumption) : 0 ≤ x32_2)
             by_cases c62 : x32_2 ≤ (l1_2.length : Int)
             ·rw [if_pos c62] at H
              have c62b0 := eq_true c62
              have c62b1 : decide (x32_2 ≤ (l1_2.length : Int)) = true := decide_eq_true c62
              clear c62
              obtain ⟨y266, hy266⟩ : ∃ y_ : List Int, y_ = (l1_2.take (x32_2 : Int).toNat) := ⟨_, rfl⟩
              replace H : ((impl_trickAt.f y266).bind fun t271 => ((impl_follow.f k2 (rd_L1 x254000_2 t263) t271).bind fun t274 => ((slices_Contains_int64_int64.f k2 t274 (rd l1_2 x32_2)).bind fun t277 => ((impl_without.f (rd_L1 x254000_2 t263) (rd l1_2 x32_2)).bind fun t278 => (impl_recordOf.l0 k2 l1_2 (l1_2.length : Int) (wrap64 (x32_2 + 1)) a1_0 a1_1 l1_2 (x254000_2.set (t263 : Int).toNat t278) t256 true t277))))) = some (r1, r2, r3, r4) := by first | (rw [hy266]; with_reducible exact H) | (have H2_ := (Option.bind_some _ _).symm.trans H; rw [hy266]; with_reducible exact H2_) | (have H2_ := (Option.bind_some _ _).symm.trans H; with_reducible exact H2_) | with_reducible exact H | (rw [hy266]; exact H) | exact H
              have Ny266 := Aside0.mk hy266
              clear hy266
              replace H := Option.bind_eq_some_iff.mp H
              obtain ⟨t271, A630, H⟩ := H
              replace H : ((impl_follow.f k2 (rd_L1 x254000_2 t263) t271).bind fun t274 => ((slices_Contains_int64_int64.f k2 t274 (rd l1_2 x32_2)).bind fun t277 => ((impl_without.f (rd_L1 x254000_2 t263) (rd l1_2 x32_2)).bind fun t278 => (impl_recordOf.l0 k2 l1_2 (l1_2.length : Int) (wrap64 (x32_2 + 1)) a1_0 a1_1 l1_2 (x254000_2.set (t263 : Int).toNat t278) t256 true t277)))) = some (r1, r2, r3, r4) := H
              have A63 := Aside0.mk A630
              clear A630
              replace H := Option.bind_eq_some_iff.mp H
              obtain ⟨t274, A640, H⟩ := H
              replace H : ((slices_Contains_int64_int64.f k2 t274 (rd l1_2 x32_2)).bind fun t277 => ((impl_without.f (rd_L1 x254000_2 t263) (rd l1_2 x32_2)).bind fun t278 => (impl_recordOf.l0 k2 l1_2 (l1_2.length : Int) (wrap64 (x32_2 + 1)) a1_0 a1_1 l1_2 (x254000_2.set (t263 : Int).toNat t278) t256 true t277))) = some (r1, r2, r3, r4) := H
              have A64 := Aside0.mk A640
              clear A640
              replace H := Option.bind_eq_some_iff.mp H
              obtain ⟨t277, A650, H⟩ := H
              replace H : ((impl_without.f (rd_L1 x254000_2 t263) (rd l1_2 x32_2)).bind fun t278 => (impl_recordOf.l0 k2 l1_2 (l1_2.length : Int) (wrap64 (x32_2 + 1)) a1_0 a1_1 l1_2 (x254000_2.set (t263 : Int).toNat t278) t256 true t277)) = some (r1, r2, r3, r4) := H
              have A65 := Aside0.mk A650
              clear A650
              replace H := Option.bind_eq_some_iff.mp H
              obtain ⟨t278, A660, H⟩ := H
              replace H : (impl_recordOf.l0 k2 l1_2 (l1_2.length : Int) (wrap64 (x32_2 + 1)) a1_0 a1_1 l1_2 (x254000_2.set (t263 : Int).toNat t278) t256 true t277) = some (r1, r2, r3, r4) := H
              have A66 := Aside0.mk A660
              clear A660
              obtain ⟨y281, hy281⟩ : ∃ y_ : List (List Int), y_ = (x254000_2.set (t263 : Int).toNat t278) := ⟨_, rfl⟩
              replace H : (impl_recordOf.l0 k2 l1_2 (l1_2.length : Int) (wrap64 (x32_2 + 1)) a1_0 a1_1 l1_2 y281 t256 true t277) = some (r1, r2, r3, r4) := by first | (rw [hy281]; with_reducible exact H) | (have H2_ := (Option.bind_some _ _).symm.trans H; rw [hy281]; with_reducible exact H2_) | (have H2_ := (Option.bind_some _ _).symm.trans H; with_reducible exact H2_) | with_reducible exact H | (rw [hy281]; exact H) | exact H
              have Ny281 := Aside0.mk hy281
              clear hy281
              have H' := Aside0.mk H
              clear H
              have p262 : 0 ≤ (x32_2 : Int) := of_decide_eq_true (by first | (with_reducible assumption) | assumption)
              have q262 : x32_2 < (l1_2.length : Int) := of_decide_eq_true (by first | (with_reducible assumption) | assumption)
              obtain ⟨ad262, e262, hx262_0⟩ := Kd.at_int (Kd.V_reads' HO_30.out).2.2 x32_2 p262 q262
              cases e262
              replace p262 := eq_true p262
              replace q262 := eq_true q262
              have hnb68 := NB253_250.out
              have hnc68 := NB250_253.out
              have hnb69 := NB253_251.out
              have hnc69 := NB251_253.out
              have hnb70 := NB253_252.out
              have hnc70 := NB252_253.out
              have hcz71_0 : wr.cell? ⟨gb253, 0, none⟩ = some (u254000) := (blk_cell BK253.out 0).trans rfl
              have hcz71_1 : wr.cell? ⟨gb253, 1, none⟩ = some (.slice Ao42 t256.length co42) := (blk_cell BK253.out 1).trans rfl
              have hcz71_2 : wr.cell? ⟨gb253, 2, none⟩ = some (.bool true) := (blk_cell BK253.out 2).trans rfl
              have hcz71_3 : wr.cell? ⟨gb253, 3, none⟩ = some (.bool true) := (blk_cell BK253.out 3).trans rfl
              have hfz71_0 := blk_frozen BK253.out 0
              have hfz71_1 := blk_frozen BK253.out 1
              have hfz71_2 := blk_frozen BK253.out 2
              have hfz71_3 := blk_frozen BK253.out 3
              try go_wp2_with (first | ((with_reducible refine gate_callee (f := 110) rfl ?_); refine goesL_ (some 40) rfl rfl Try.func110 (by kernel_rfl) rfl #[.slice Ao42 t256.length co42, .int .i64 x32_2] rfl (by (try simp only [List.map_toArray, List.map_cons, List.map_nil]); first | done | rfl | (simp only [List.length_drop, List.length_take]; rfl)) ?_; (with_reducible refine (impl_seatOf.calls _ _ t256 x32_2 t263 _ ?side1 ?side2 A55.out).mono ?_); (case side1 => repeat (first | exact (Kd.R_reads' HO_254001.out).2.2 | (with_reducible refine Kd.C_alloc ?_ _) | (with_reducible refine Kd.C_drewN ?_ _) | (with_reducible refine Kd.C_drew ?_))); (case side2 => exact (Kd.R_reads' HO_254001.out).2.1); rintro e w' ⟨rfl, ⟨nd, rfl⟩⟩; refine ⟨_, rfl, ?_⟩; (try (rw [drewN_self wr]; generalize hq_ : World.drewN wr _ = wr; have n0_ : Aside0 (Kd.V (Kd.slice 2 (Kd.int .i64)) 22 wr w.heap.size (fun k_ => ((P0_0_ k_ ∨ P1_2_ k_) ∨ w.heap.size ≤ k_) ∧ some k_ ≠ (u254000 : Value).ownBlock ∧ some k_ ≠ (.slice Ao42 t256.length co42 : Value).ownBlock ∧ k_ ≠ gb250 ∧ k_ ≠ gb251 ∧ k_ ≠ gb252 ∧ k_ ≠ gb253) u251000 x251000_2) := ⟨by rw [← hq_]; exact (by (with_reducible repeat (first | apply Kd.V_alloc | apply Kd.V_drewN | apply Kd.V_drew)); exact HO_251000.out)⟩; have n1_ : Aside0 (Kd.V (Kd.int .i64) 2 wr w.heap.size (fun k_ => ((P0_0_ k_ ∨ P1_2_ k_) ∨ w.heap.size ≤ k_) ∧ some k_ ≠ (u254000 : Value).ownBlock ∧ some k_ ≠ (.slice Ao42 t256.length co42 : Value).ownBlock ∧ k_ ≠ gb250 ∧ k_ ≠ gb251 ∧ k_ ≠ gb252 ∧ k_ ≠ gb253) (.slice (some ad262) l1_2.length c1_2) l1_2) := ⟨by rw [← hq_]; exact (by (with_reducible repeat (first | apply Kd.V_alloc | apply Kd.V_drewN | apply Kd.V_drew)); exact HO_252002.out)⟩; have n2_ : Aside0 (Kd.N (Kd.slice 2 (Kd.int .i64)) 22 wr w.heap.size (fun k_ => ((P0_0_ k_ ∨ P1_2_ k_) ∨ w.heap.size ≤ k_) ∧ some k_ ≠ (.slice Ao42 t256.length co42 : Value).ownBlock ∧ k_ ≠ gb250 ∧ k_ ≠ gb251 ∧ k_ ≠ gb252 ∧ k_ ≠ gb253) u254000 x254000_2) := ⟨by rw [← hq_]; exact (by (with_reducible repeat (first | apply Kd.N_alloc | apply Kd.N_drewN | apply Kd.N_drew)); exact HO_254000.out)⟩; have n3_ : Aside0 (Kd.R (Kd.int .i64) 2 wr w.heap.size (fun k_ => (w.heap.size ≤ k_)) (.slice Ao42 t256.length co42) t256) := ⟨by rw [← hq_]; exact (by (with_reducible repeat (first | apply Kd.R_alloc | apply Kd.R_drewN | apply Kd.R_drew)); exact HO_254001.out)⟩; have n4_ : Aside0 (Kd.V (Kd.int .i64) 2 wr w.heap.size (fun k_ => ((P0_0_ k_ ∨ P1_2_ k_) ∨ w.heap.size ≤ k_) ∧ some k_ ≠ (u254000 : Value).ownBlock ∧ some k_ ≠ (.slice Ao42 t256.length co42 : Value).ownBlock ∧ k_ ≠ gb250 ∧ k_ ≠ gb251 ∧ k_ ≠ gb252 ∧ k_ ≠ gb253) (.slice (some ad262) l1_2.length c1_2) l1_2) := ⟨by rw [← hq_]; exact (by (with_reducible repeat (first | apply Kd.V_alloc | apply Kd.V_drewN | apply Kd.V_drew)); exact HO_30.out)⟩; have n5_ : Aside0 (wr.heap[gb250]? = some (.cells #[u251000] 44 (0, 0))) := ⟨by rw [← hq_]; exact (by (with_reducible repeat (first | refine blk_drewN ?_ _ | refine blk_drew ?_ | refine blk_alloc ?_ _)); exact BK250.out)⟩; have n6_ : Aside0 (wr.heap[gb251]? = some (.cells #[.int .i64 a1_0, .int .i64 a1_1, .slice (some ad262) l1_2.length c1_2] 27 (0, 0))) := ⟨by rw [← hq_]; exact (by (with_reducible repeat (first | refine blk_drewN ?_ _ | refine blk_drew ?_ | refine blk_alloc ?_ _)); exact BK251.out)⟩; have n7_ : Aside0 (wr.heap[gb252]? = some (.cells #[.slice none 0 0, .slice none 0 0, .bool x253002_2, .bool x253003_2] 92 (0, 0))) := ⟨by rw [← hq_]; exact (by (with_reducible repeat (first | refine blk_drewN ?_ _ | refine blk_drew ?_ | refine blk_alloc ?_ _)); exact BK252.out)⟩; have n8_ : Aside0 (wr.heap[gb253]? = some (.cells #[u254000, .slice Ao42 t256.length co42, .bool true, .bool true] 92 (0, 0))) := ⟨by rw [← hq_]; exact (by (with_reducible repeat (first | refine blk_drewN ?_ _ | refine blk_drew ?_ | refine blk_alloc ?_ _)); exact BK253.out)⟩; have n9_ : Aside0 (Below w.heap.size w wr) := ⟨by rw [← hq_]; exact (by repeat (first | (with_reducible first | exact HB.out | apply below_alloc | apply pw_below_drewN | apply below_drew1 | refine below_set ?_ GE250.out | refine below_set ?_ GE251.out | refine below_set ?_ GE252.out | refine below_set ?_ GE253.out) | exact HB.out))⟩; clear HO_251000 HO_252002 HO_254000 HO_254001 HO_30 BK250 BK251 BK252 BK253 HB hq_; have HO_251000 := n0_; have HO_252002 := n1_; have HO_254000 := n2_; have HO_254001 := n3_; have HO_30 := n4_; have BK250 := n5_; have BK251 := n6_; have BK252 := n7_; have BK253 := n8_; have HB := n9_; clear n0_ n1_ n2_ n3_ n4_ n5_ n6_ n7_ n8_ n9_; (try replace hcz71_0 := (blk_cell BK253.out 0).trans (rfl : _ = some _)); (try replace hcz71_1 := (blk_cell BK253.out 1).trans (rfl : _ = some _)); (try replace hcz71_2 := (blk_cell BK253.out 2).trans (rfl : _ = some _)); (try replace hcz71_3 := (blk_cell BK253.out 3).trans (rfl : _ = some _)); (try replace hfz71_0 := blk_frozen BK253.out 0); (try replace hfz71_1 := blk_frozen BK253.out 1); (try replace hfz71_2 := blk_frozen BK253.out 2); (try replace hfz71_3 := blk_frozen BK253.out 3))); obtain ⟨Ao72, co72, eo72⟩ := Kd.N_slice HO_254000.out; subst eo72; have p264 : 0 ≤ (t263 : Int) := of_decide_eq_true (by first | (with_reducible assumption) | assumption); have q264 : t263 < (x254000_2.length : Int) := of_decide_eq_true (by first | (with_reducible assumption) | assumption); obtain ⟨ad264, A264_0, c264_0, e264, hx264_0, hl264_0, hi264_0⟩ := at_L1 (Kd.N_reads' HO_254000.out).2.2 t263 p264 q264; cases e264; obtain ⟨ce264, hce264, hMe264, hcc264⟩ := Kd.N_get HO_254000.out [] t263 p264 (by first | exact q264 | exact of_decide_eq_true (by first | (with_reducible assumption) | assumption) | (have e_ := (Kd.N_reads' HO_254000.out).1; omega)); obtain ⟨ua264_0, uc264_0, rfl, ul264_0, ge264_0⟩ := Kd.FK_slice_open hMe264; have hv264_0 := hcc264 0 _ rfl; rw [Nat.add_zero, show ((Kd.slice 2 (Kd.int .i64))).sz = 1 from rfl, Nat.mul_one] at hv264_0; replace hv264_0 := Option.some.inj (hv264_0.symm.trans hx264_0); injection hv264_0 with hva_ hvn_ hvc_; rw [hva_] at ge264_0; rw [hvc_] at ul264_0; have HL264_0 := Aside0.mk (show Kd.V (Kd.int .i64) 2 _ w.heap.size _ _ (rd_L1 x254000_2 t263) from Kd.V_mk ul264_0 ge264_0); clear hva_ hvn_ hvc_ ge264_0 ul264_0; clear hcc264 hce264; have HR264_0 := Aside0.mk hi264_0; have HC264_0 := Aside0.mk hl264_0; clear hi264_0 hl264_0; replace p264 := eq_true p264; replace q264 := eq_true q264) | ((with_reducible refine gate_callee (f := 122) rfl ?_); refine goesL_ (some 48) rfl rfl Try.func122 (by kernel_rfl) rfl #[.slice A264_0 (rd_L1 x254000_2 t263).length c264_0, .int .i64 (rd l1_2 x32_2)] rfl (by (try simp only [List.map_toArray, List.map_cons, List.map_nil]); first | done | rfl | (simp only [List.length_drop, List.length_take]; rfl)) ?_; (with_reducible refine (slices_Contains_int64_int64.calls k2 _ _ (rd_L1 x254000_2 t263) (rd l1_2 x32_2) true _ ?side1 ?side2 A58.out).mono ?_); (case side1 => repeat (first | exact (by repeat (first | (with_reducible exact HR264_0.out) | (with_reducible refine Kd.C_alloc ?_ _) | (with_reducible refine Kd.C_drewN ?_ _) | (with_reducible refine Kd.C_drew ?_) | exact HR264_0.out)) | (with_reducible refine Kd.C_alloc ?_ _) | (with_reducible refine Kd.C_drewN ?_ _) | (with_reducible refine Kd.C_drew ?_))); (case side2 => exact HC264_0.out); rintro e w' ⟨rfl, ⟨nd, rfl⟩⟩; refine ⟨_, rfl, ?_⟩; (try (rw [drewN_self wr]; generalize hq_ : World.drewN wr _ = wr; have n0_ : Aside0 (Kd.V (Kd.int .i64) 2 wr w.heap.size (fun k_ => ((P0_0_ k_ ∨ P1_2_ k_) ∨ w.heap.size ≤ k_) ∧ some k_ ≠ (.slice (some ad264) x254000_2.length co72 : Value).ownBlock ∧ some k_ ≠ (.slice Ao42 t256.length co42 : Value).ownBlock ∧ k_ ≠ gb250 ∧ k_ ≠ gb251 ∧ k_ ≠ gb252 ∧ k_ ≠ gb253) (.slice A264_0 (rd_L1 x254000_2 t263).length c264_0) (rd_L1 x254000_2 t263)) := ⟨by rw [← hq_]; exact (by (with_reducible repeat (first | apply Kd.V_alloc | apply Kd.V_drewN | apply Kd.V_drew)); exact Kd.V_mono HL264_0.out (fun _ hk => ⟨hk.1.1, ⟨hk.2, ⟨hk.1.2.1, ⟨hk.1.2.2.1, ⟨hk.1.2.2.2.1, ⟨hk.1.2.2.2.2.1, hk.1.2.2.2.2.2⟩⟩⟩⟩⟩⟩))⟩; have n1_ : Aside0 (Kd.V (Kd.slice 2 (Kd.int .i64)) 22 wr w.heap.size (fun k_ => ((P0_0_ k_ ∨ P1_2_ k_) ∨ w.heap.size ≤ k_) ∧ some k_ ≠ (.slice (some ad264) x254000_2.length co72 : Value).ownBlock ∧ some k_ ≠ (.slice Ao42 t256.length co42 : Value).ownBlock ∧ k_ ≠ gb250 ∧ k_ ≠ gb251 ∧ k_ ≠ gb252 ∧ k_ ≠ gb253) u251000 x251000_2) := ⟨by rw [← hq_]; exact (by (with_reducible repeat (first | apply Kd.V_alloc | apply Kd.V_drewN | apply Kd.V_drew)); exact HO_251000.out)⟩; have n2_ : Aside0 (Kd.V (Kd.int .i64) 2 wr w.heap.size (fun k_ => ((P0_0_ k_ ∨ P1_2_ k_) ∨ w.heap.size ≤ k_) ∧ some k_ ≠ (.slice (some ad264) x254000_2.length co72 : Value).ownBlock ∧ some k_ ≠ (.slice Ao42 t256.length co42 : Value).ownBlock ∧ k_ ≠ gb250 ∧ k_ ≠ gb251 ∧ k_ ≠ gb252 ∧ k_ ≠ gb253) (.slice (some ad262) l1_2.length c1_2) l1_2) := ⟨by rw [← hq_]; exact (by (with_reducible repeat (first | apply Kd.V_alloc | apply Kd.V_drewN | apply Kd.V_drew)); exact HO_252002.out)⟩; have n3_ : Aside0 (Kd.N (Kd.slice 2 (Kd.int .i64)) 22 wr w.heap.size (fun k_ => ((P0_0_ k_ ∨ P1_2_ k_) ∨ w.heap.size ≤ k_) ∧ some k_ ≠ (.slice Ao42 t256.length co42 : Value).ownBlock ∧ k_ ≠ gb250 ∧ k_ ≠ gb251 ∧ k_ ≠ gb252 ∧ k_ ≠ gb253) (.slice (some ad264) x254000_2.length co72) x254000_2) := ⟨by rw [← hq_]; exact (by (with_reducible repeat (first | apply Kd.N_alloc | apply Kd.N_drewN | apply Kd.N_drew)); exact HO_254000.out)⟩; have n4_ : Aside0 (Kd.R (Kd.int .i64) 2 wr w.heap.size (fun k_ => (w.heap.size ≤ k_)) (.slice Ao42 t256.length co42) t256) := ⟨by rw [← hq_]; exact (by (with_reducible repeat (first | apply Kd.R_alloc | apply Kd.R_drewN | apply Kd.R_drew)); exact HO_254001.out)⟩; have n5_ : Aside0 (Kd.V (Kd.int .i64) 2 wr w.heap.size (fun k_ => ((P0_0_ k_ ∨ P1_2_ k_) ∨ w.heap.size ≤ k_) ∧ some k_ ≠ (.slice (some ad264) x254000_2.length co72 : Value).ownBlock ∧ some k_ ≠ (.slice Ao42 t256.length co42 : Value).ownBlock ∧ k_ ≠ gb250 ∧ k_ ≠ gb251 ∧ k_ ≠ gb252 ∧ k_ ≠ gb253) (.slice (some ad262) l1_2.length c1_2) l1_2) := ⟨by rw [← hq_]; exact (by (with_reducible repeat (first | apply Kd.V_alloc | apply Kd.V_drewN | apply Kd.V_drew)); exact HO_30.out)⟩; have n6_ : Aside0 (wr.heap[gb250]? = some (.cells #[u251000] 44 (0, 0))) := ⟨by rw [← hq_]; exact (by (with_reducible repeat (first | refine blk_drewN ?_ _ | refine blk_drew ?_ | refine blk_alloc ?_ _)); exact BK250.out)⟩; have n7_ : Aside0 (wr.heap[gb251]? = some (.cells #[.int .i64 a1_0, .int .i64 a1_1, .slice (some ad262) l1_2.length c1_2] 27 (0, 0))) := ⟨by rw [← hq_]; exact (by (with_reducible repeat (first | refine blk_drewN ?_ _ | refine blk_drew ?_ | refine blk_alloc ?_ _)); exact BK251.out)⟩; have n8_ : Aside0 (wr.heap[gb252]? = some (.cells #[.slice none 0 0, .slice none 0 0, .bool x253002_2, .bool x253003_2] 92 (0, 0))) := ⟨by rw [← hq_]; exact (by (with_reducible repeat (first | refine blk_drewN ?_ _ | refine blk_drew ?_ | refine blk_alloc ?_ _)); exact BK252.out)⟩; have n9_ : Aside0 (wr.heap[gb253]? = some (.cells #[.slice (some ad264) x254000_2.length co72, .slice Ao42 t256.length co42, .bool true, .bool true] 92 (0, 0))) := ⟨by rw [← hq_]; exact (by (with_reducible repeat (first | refine blk_drewN ?_ _ | refine blk_drew ?_ | refine blk_alloc ?_ _)); exact BK253.out)⟩; have n10_ : Aside0 (Below w.heap.size w wr) := ⟨by rw [← hq_]; exact (by repeat (first | (with_reducible first | exact HB.out | apply below_alloc | apply pw_below_drewN | apply below_drew1 | refine below_set ?_ GE250.out | refine below_set ?_ GE251.out | refine below_set ?_ GE252.out | refine below_set ?_ GE253.out) | exact HB.out))⟩; have n11_ : Aside0 (Kd.C (Kd.int .i64) wr A264_0 (rd_L1 x254000_2 t263).length (rd_L1 x254000_2 t263)) := ⟨by rw [← hq_]; exact (by repeat (first | (with_reducible exact HR264_0.out) | (with_reducible refine Kd.C_alloc ?_ _) | (with_reducible refine Kd.C_drewN ?_ _) | (with_reducible refine Kd.C_drew ?_) | exact HR264_0.out))⟩; clear HL264_0 HO_251000 HO_252002 HO_254000 HO_254001 HO_30 BK250 BK251 BK252 BK253 HB HR264_0 hq_; have HL264_0 := n0_; have HO_251000 := n1_; have HO_252002 := n2_; have HO_254000 := n3_; have HO_254001 := n4_; have HO_30 := n5_; have BK250 := n6_; have BK251 := n7_; have BK252 := n8_; have BK253 := n9_; have HB := n10_; have HR264_0 := n11_; clear n0_ n1_ n2_ n3_ n4_ n5_ n6_ n7_ n8_ n9_ n10_ n11_; (try replace hcz71_0 := (blk_cell BK253.out 0).trans (rfl : _ = some _)); (try replace hcz71_1 := (blk_cell BK253.out 1).trans (rfl : _ = some _)); (try replace hcz71_2 := (blk_cell BK253.out 2).trans (rfl : _ = some _)); (try replace hcz71_3 := (blk_cell BK253.out 3).trans (rfl : _ = some _)); (try replace hfz71_0 := blk_frozen BK253.out 0); (try replace hfz71_1 := blk_frozen BK253.out 1); (try replace hfz71_2 := blk_frozen BK253.out 2); (try replace hfz71_3 := blk_frozen BK253.out 3))); have hnb73 := NB251_250.out; have hnc73 := NB250_251.out; have hnb74 := NB251_252.out; have hnc74 := NB252_251.out; have hcz75_0 : wr.cell? ⟨gb251, 0, none⟩ = some (.int .i64 a1_0) := (blk_cell BK251.out 0).trans rfl; have hcz75_1 : wr.cell? ⟨gb251, 1, none⟩ = some (.int .i64 a1_1) := (blk_cell BK251.out 1).trans rfl; have hcz75_2 : wr.cell? ⟨gb251, 2, none⟩ = some (.slice (some ad262) l1_2.length c1_2) := (blk_cell BK251.out 2).trans rfl; have hfz75_0 := blk_frozen BK251.out 0; have hfz75_1 := blk_frozen BK251.out 1; have hfz75_2 := blk_frozen BK251.out 2; have q76 : (x32_2 : Int) ≤ ((l1_2.length : Int) : Int) := of_decide_eq_true (by first | (with_reducible assumption) | assumption); obtain ⟨i076, hi076, _, hsz76, _⟩ := info_parts info2; have hroom76 : l1_2.length ≤ c1_2 := (Kd.V_reads' HO_252002.out).2.1; have hC76 : Kd.F (Kd.int .i64) _ _ (some ad262) l1_2.length l1_2 := (Kd.V_at (base := w.heap.size) HO_252002.out).2.2; have hcut76 := cut_to (P := Try.prog) 22 2 .i64 Try.underlying22 hi076 (some ad262) l1_2.length c1_2 x32_2 (of_decide_eq_true (by first | (with_reducible assumption) | assumption)) q76 hroom76; have hr76 := Kd.F_take (m := (x32_2 : Int).toNat) hC76 (by omega); have hy76 : y266.length = (x32_2 : Int).toNat := (by rw [Ny266.out, List.length_take]; omega); rw [← Ny266.out] at hr76; rw [← hy76] at hcut76; have HO270 := Aside0.mk (show Kd.V (Kd.int .i64) 2 _ w.heap.size _ (.slice (some ad262) y266.length c1_2) y266 from Kd.V_mk (by omega) hr76); have HC270 := Aside0.mk (show y266.length ≤ c1_2 from by omega); clear hr76 hC76 hroom76 hi076 hsz76; have KY76 := Aside0.mk hy76; clear hy76; replace q76 := eq_true q76) | (go_at_call 117; (with_reducible refine (impl_trickAt.calls (fun k_ => (((P0_0_ k_ ∨ P1_2_ k_) ∨ w.heap.size ≤ k_) ∧ (some k_ ≠ (.slice (some ad264) x254000_2.length co72 : Value).ownBlock ∧ (some k_ ≠ (.slice Ao42 t256.length co42 : Value).ownBlock ∧ (k_ ≠ gb250 ∧ (k_ ≠ gb251 ∧ (k_ ≠ gb252 ∧ k_ ≠ gb253))))))) _ _ y266 t271 _ ?side1 A63.out).mono ?_); (case side1 => exact HO270.out); rintro e w77 ⟨v272, rfl, ho0, hb⟩; have n0_ := Aside0.mk (Kd.V_below (by (with_reducible repeat (first | apply Kd.V_alloc | apply Kd.V_drewN | apply Kd.V_drew)); exact HO_30.out) hb); have n1_ := Aside0.mk (Kd.V_below (by (with_reducible repeat (first | apply Kd.V_alloc | apply Kd.V_drewN | apply Kd.V_drew)); exact HO_251000.out) hb); have n2_ := Aside0.mk (Kd.V_below (by (with_reducible repeat (first | apply Kd.V_alloc | apply Kd.V_drewN | apply Kd.V_drew)); exact HO_252002.out) hb); have n3_ := Aside0.mk (Kd.N_below (by (with_reducible repeat (first | apply Kd.N_alloc | apply Kd.N_drewN | apply Kd.N_drew)); exact HO_254000.out) hb); have n4_ := Aside0.mk (Kd.R_below (by (with_reducible repeat (first | apply Kd.R_alloc | apply Kd.R_drewN | apply Kd.R_drew)); exact HO_254001.out) hb); have n5_ := Aside0.mk (Kd.V_below (by (with_reducible repeat (first | apply Kd.V_alloc | apply Kd.V_drewN | apply Kd.V_drew)); exact HL264_0.out) hb); have n6_ := Aside0.mk (Kd.V_below (by (with_reducible repeat (first | apply Kd.V_alloc | apply Kd.V_drewN | apply Kd.V_drew)); exact HO270.out) hb); have n7_ := Aside0.mk (Kd.V_lower (Kd.V_mono (ok' := fun k_ => ((P0_0_ k_ ∨ P1_2_ k_) ∨ w.heap.size ≤ k_) ∧ some k_ ≠ (.slice (some ad264) x254000_2.length co72 : Value).ownBlock ∧ some k_ ≠ (.slice Ao42 t256.length co42 : Value).ownBlock ∧ k_ ≠ gb250 ∧ k_ ≠ gb251 ∧ k_ ≠ gb252 ∧ k_ ≠ gb253) ho0 (fun k_ hk_ => ⟨Or.elim hk_ (fun hs_ => hs_.1) (fun hn_ => (.inr (Nat.le_trans (below_size (by repeat (first | (with_reducible first | exact HB.out | apply below_alloc | apply pw_below_drewN | apply below_drew1 | refine below_set ?_ GE250.out | refine below_set ?_ GE251.out | refine below_set ?_ GE252.out | refine below_set ?_ GE253.out) | exact HB.out))) hn_))), Or.elim hk_ (fun hs_ => hs_.2.1) (fun hn_ => (Kd.fresh' (Kd.N_lt (by (with_reducible repeat (first | apply Kd.N_alloc | apply Kd.N_drewN | apply Kd.N_drew)); exact HO_254000.out)) k_ hn_)), Or.elim hk_ (fun hs_ => hs_.2.2.1) (fun hn_ => (Kd.fresh' (Kd.R_lt (by (with_reducible repeat (first | apply Kd.R_alloc | apply Kd.R_drewN | apply Kd.R_drew)); exact HO_254001.out)) k_ hn_)), Or.elim hk_ (fun hs_ => hs_.2.2.2.1) (fun hn_ => (Kd.freshB (g := gb250) (o := .cells #[u251000] 44 (0, 0)) (by (with_reducible repeat (first | refine blk_drewN ?_ _ | refine blk_drew ?_ | refine blk_alloc ?_ _)); exact BK250.out) k_ hn_)), Or.elim hk_ (fun hs_ => hs_.2.2.2.2.1) (fun hn_ => (Kd.freshB (g := gb251) (o := .cells #[.int .i64 a1_0, .int .i64 a1_1, .slice (some ad262) l1_2.length c1_2] 27 (0, 0)) (by (with_reducible repeat (first | refine blk_drewN ?_ _ | refine blk_drew ?_ | refine blk_alloc ?_ _)); exact BK251.out) k_ hn_)), Or.elim hk_ (fun hs_ => hs_.2.2.2.2.2.1) (fun hn_ => (Kd.freshB (g := gb252) (o := .cells #[.slice none 0 0, .slice none 0 0, .bool x253002_2, .bool x253003_2] 92 (0, 0)) (by (with_reducible repeat (first | refine blk_drewN ?_ _ | refine blk_drew ?_ | refine blk_alloc ?_ _)); exact BK252.out) k_ hn_)), Or.elim hk_ (fun hs_ => hs_.2.2.2.2.2.2) (fun hn_ => (Kd.freshB (g := gb253) (o := .cells #[.slice (some ad264) x254000_2.length co72, .slice Ao42 t256.length co42, .bool true, .bool true] 92 (0, 0)) (by (with_reducible repeat (first | refine blk_drewN ?_ _ | refine blk_drew ?_ | refine blk_alloc ?_ _)); exact BK253.out) k_ hn_))⟩)) (below_size (by repeat (first | (with_reducible first | exact HB.out | apply below_alloc | apply pw_below_drewN | apply below_drew1 | refine below_set ?_ GE250.out | refine below_set ?_ GE251.out | refine below_set ?_ GE252.out | refine below_set ?_ GE253.out) | exact HB.out)))); have n8_ := Aside0.mk (blk_below (g := gb250) (o := .cells #[u251000] 44 (0, 0)) (by (with_reducible repeat (first | refine blk_drewN ?_ _ | refine blk_drew ?_ | refine blk_alloc ?_ _)); exact BK250.out) hb); have n9_ := Aside0.mk (blk_below (g := gb251) (o := .cells #[.int .i64 a1_0, .int .i64 a1_1, .slice (some ad262) l1_2.length c1_2] 27 (0, 0)) (by (with_reducible repeat (first | refine blk_drewN ?_ _ | refine blk_drew ?_ | refine blk_alloc ?_ _)); exact BK251.out) hb); have n10_ := Aside0.mk (blk_below (g := gb252) (o := .cells #[.slice none 0 0, .slice none 0 0, .bool x253002_2, .bool x253003_2] 92 (0, 0)) (by (with_reducible repeat (first | refine blk_drewN ?_ _ | refine blk_drew ?_ | refine blk_alloc ?_ _)); exact BK252.out) hb); have n11_ := Aside0.mk (blk_below (g := gb253) (o := .cells #[.slice (some ad264) x254000_2.length co72, .slice Ao42 t256.length co42, .bool true, .bool true] 92 (0, 0)) (by (with_reducible repeat (first | refine blk_drewN ?_ _ | refine blk_drew ?_ | refine blk_alloc ?_ _)); exact BK253.out) hb); have n12_ := Aside0.mk (Kd.C_below (by repeat (first | (with_reducible exact HR264_0.out) | (with_reducible refine Kd.C_alloc ?_ _) | (with_reducible refine Kd.C_drewN ?_ _) | (with_reducible refine Kd.C_drew ?_) | exact HR264_0.out)) hb); have n13_ := Aside0.mk (below_step (by repeat (first | (with_reducible first | exact HB.out | apply below_alloc | apply pw_below_drewN | apply below_drew1 | refine below_set ?_ GE250.out | refine below_set ?_ GE251.out | refine below_set ?_ GE252.out | refine below_set ?_ GE253.out) | exact HB.out)) hb); clear HO_30; clear HO_251000; clear HO_252002; clear HO_254000; clear HO_254001; clear HL264_0; clear HO270; clear BK250; clear BK251; clear BK252; clear BK253; clear HR264_0; clear HB; have HO_30 := n0_; have HO_251000 := n1_; have HO_252002 := n2_; have HO_254000 := n3_; have HO_254001 := n4_; have HL264_0 := n5_; have HO270 := n6_; have HO273 := n7_; have BK250 := n8_; have BK251 := n9_; have BK252 := n10_; have BK253 := n11_; have HR264_0 := n12_; have HB := n13_; clear n0_ n1_ n2_ n3_ n4_ n5_ n6_ n7_ n8_ n9_ n10_ n11_ n12_ n13_; (try clear hb); (try clear hb2); (try clear hk); (try clear hi); (try clear ho0); obtain ⟨Ao78, co78, eo78⟩ := Kd.V_slice HO273.out; subst eo78) | (go_at_call 116; (with_reducible refine (impl_follow.calls k2 (fun k_ => (((P0_0_ k_ ∨ P1_2_ k_) ∨ w.heap.size ≤ k_) ∧ (some k_ ≠ (.slice (some ad264) x254000_2.length co72 : Value).ownBlock ∧ (some k_ ≠ (.slice Ao42 t256.length co42 : Value).ownBlock ∧ (k_ ≠ gb250 ∧ (k_ ≠ gb251 ∧ (k_ ≠ gb252 ∧ k_ ≠ gb253))))))) _ _ (rd_L1 x254000_2 t263) _ _ t271 t274 _ ?side1 ?side2 ?side3 A64.out).mono ?_); (case side1 => exact HL264_0.out); (case side2 => repeat (first | exact (Kd.V_reads' HO273.out).2.2 | (with_reducible refine Kd.C_alloc ?_ _) | (with_reducible refine Kd.C_drewN ?_ _) | (with_reducible refine Kd.C_drew ?_))); (case side3 => exact (Kd.V_reads' HO273.out).2.1); rintro e w79 ⟨v275, rfl, ho0, hb⟩; have n0_ := Aside0.mk (Kd.V_below (by (with_reducible repeat (first | apply Kd.V_alloc | apply Kd.V_drewN | apply Kd.V_drew)); exact HO_30.out) hb); have n1_ := Aside0.mk (Kd.V_below (by (with_reducible repeat (first | apply Kd.V_alloc | apply Kd.V_drewN | apply Kd.V_drew)); exact HO_251000.out) hb); have n2_ := Aside0.mk (Kd.V_below (by (with_reducible repeat (first | apply Kd.V_alloc | apply Kd.V_drewN | apply Kd.V_drew)); exact HO_252002.out) hb); have n3_ := Aside0.mk (Kd.N_below (by (with_reducible repeat (first | apply Kd.N_alloc | apply Kd.N_drewN | apply Kd.N_drew)); exact HO_254000.out) hb); have n4_ := Aside0.mk (Kd.R_below (by (with_reducible repeat (first | apply Kd.R_alloc | apply Kd.R_drewN | apply Kd.R_drew)); exact HO_254001.out) hb); have n5_ := Aside0.mk (Kd.V_below (by (with_reducible repeat (first | apply Kd.V_alloc | apply Kd.V_drewN | apply Kd.V_drew)); exact HL264_0.out) hb); have n6_ := Aside0.mk (Kd.V_below (by (with_reducible repeat (first | apply Kd.V_alloc | apply Kd.V_drewN | apply Kd.V_drew)); exact HO270.out) hb); have n7_ := Aside0.mk (Kd.V_below (by (with_reducible repeat (first | apply Kd.V_alloc | apply Kd.V_drewN | apply Kd.V_drew)); exact HO273.out) hb); have n8_ := Aside0.mk (Kd.V_lower (Kd.V_mono (ok' := fun k_ => ((P0_0_ k_ ∨ P1_2_ k_) ∨ w.heap.size ≤ k_) ∧ some k_ ≠ (.slice (some ad264) x254000_2.length co72 : Value).ownBlock ∧ some k_ ≠ (.slice Ao42 t256.length co42 : Value).ownBlock ∧ k_ ≠ gb250 ∧ k_ ≠ gb251 ∧ k_ ≠ gb252 ∧ k_ ≠ gb253) ho0 (fun k_ hk_ => ⟨Or.elim hk_ (fun hs_ => hs_.1) (fun hn_ => (.inr (Nat.le_trans (below_size (by repeat (first | (with_reducible first | exact HB.out | apply below_alloc | apply pw_below_drewN | apply below_drew1 | refine below_set ?_ GE250.out | refine below_set ?_ GE251.out | refine below_set ?_ GE252.out | refine below_set ?_ GE253.out) | exact HB.out))) hn_))), Or.elim hk_ (fun hs_ => hs_.2.1) (fun hn_ => (Kd.fresh' (Kd.N_lt (by (with_reducible repeat (first | apply Kd.N_alloc | apply Kd.N_drewN | apply Kd.N_drew)); exact HO_254000.out)) k_ hn_)), Or.elim hk_ (fun hs_ => hs_.2.2.1) (fun hn_ => (Kd.fresh' (Kd.R_lt (by (with_reducible repeat (first | apply Kd.R_alloc | apply Kd.R_drewN | apply Kd.R_drew)); exact HO_254001.out)) k_ hn_)), Or.elim hk_ (fun hs_ => hs_.2.2.2.1) (fun hn_ => (Kd.freshB (g := gb250) (o := .cells #[u251000] 44 (0, 0)) (by (with_reducible repeat (first | refine blk_drewN ?_ _ | refine blk_drew ?_ | refine blk_alloc ?_ _)); exact BK250.out) k_ hn_)), Or.elim hk_ (fun hs_ => hs_.2.2.2.2.1) (fun hn_ => (Kd.freshB (g := gb251) (o := .cells #[.int .i64 a1_0, .int .i64 a1_1, .slice (some ad262) l1_2.length c1_2] 27 (0, 0)) (by (with_reducible repeat (first | refine blk_drewN ?_ _ | refine blk_drew ?_ | refine blk_alloc ?_ _)); exact BK251.out) k_ hn_)), Or.elim hk_ (fun hs_ => hs_.2.2.2.2.2.1) (fun hn_ => (Kd.freshB (g := gb252) (o := .cells #[.slice none 0 0, .slice none 0 0, .bool x253002_2, .bool x253003_2] 92 (0, 0)) (by (with_reducible repeat (first | refine blk_drewN ?_ _ | refine blk_drew ?_ | refine blk_alloc ?_ _)); exact BK252.out) k_ hn_)), Or.elim hk_ (fun hs_ => hs_.2.2.2.2.2.2) (fun hn_ => (Kd.freshB (g := gb253) (o := .cells #[.slice (some ad264) x254000_2.length co72, .slice Ao42 t256.length co42, .bool true, .bool true] 92 (0, 0)) (by (with_reducible repeat (first | refine blk_drewN ?_ _ | refine blk_drew ?_ | refine blk_alloc ?_ _)); exact BK253.out) k_ hn_))⟩)) (below_size (by repeat (first | (with_reducible first | exact HB.out | apply below_alloc | apply pw_below_drewN | apply below_drew1 | refine below_set ?_ GE250.out | refine below_set ?_ GE251.out | refine below_set ?_ GE252.out | refine below_set ?_ GE253.out) | exact HB.out)))); have n9_ := Aside0.mk (blk_below (g := gb250) (o := .cells #[u251000] 44 (0, 0)) (by (with_reducible repeat (first | refine blk_drewN ?_ _ | refine blk_drew ?_ | refine blk_alloc ?_ _)); exact BK250.out) hb); have n10_ := Aside0.mk (blk_below (g := gb251) (o := .cells #[.int .i64 a1_0, .int .i64 a1_1, .slice (some ad262) l1_2.length c1_2] 27 (0, 0)) (by (with_reducible repeat (first | refine blk_drewN ?_ _ | refine blk_drew ?_ | refine blk_alloc ?_ _)); exact BK251.out) hb); have n11_ := Aside0.mk (blk_below (g := gb252) (o := .cells #[.slice none 0 0, .slice none 0 0, .bool x253002_2, .bool x253003_2] 92 (0, 0)) (by (with_reducible repeat (first | refine blk_drewN ?_ _ | refine blk_drew ?_ | refine blk_alloc ?_ _)); exact BK252.out) hb); have n12_ := Aside0.mk (blk_below (g := gb253) (o := .cells #[.slice (some ad264) x254000_2.length co72, .slice Ao42 t256.length co42, .bool true, .bool true] 92 (0, 0)) (by (with_reducible repeat (first | refine blk_drewN ?_ _ | refine blk_drew ?_ | refine blk_alloc ?_ _)); exact BK253.out) hb); have n13_ := Aside0.mk (Kd.C_below (by repeat (first | (with_reducible exact HR264_0.out) | (with_reducible refine Kd.C_alloc ?_ _) | (with_reducible refine Kd.C_drewN ?_ _) | (with_reducible refine Kd.C_drew ?_) | exact HR264_0.out)) hb); have n14_ := Aside0.mk (below_step (by repeat (first | (with_reducible first | exact HB.out | apply below_alloc | apply pw_below_drewN | apply below_drew1 | refine below_set ?_ GE250.out | refine below_set ?_ GE251.out | refine below_set ?_ GE252.out | refine below_set ?_ GE253.out) | exact HB.out)) hb); clear HO_30; clear HO_251000; clear HO_252002; clear HO_254000; clear HO_254001; clear HL264_0; clear HO270; clear HO273; clear BK250; clear BK251; clear BK252; clear BK253; clear HR264_0; clear HB; have HO_30 := n0_; have HO_251000 := n1_; have HO_252002 := n2_; have HO_254000 := n3_; have HO_254001 := n4_; have HL264_0 := n5_; have HO270 := n6_; have HO273 := n7_; have HO276 := n8_; have BK250 := n9_; have BK251 := n10_; have BK252 := n11_; have BK253 := n12_; have HR264_0 := n13_; have HB := n14_; clear n0_ n1_ n2_ n3_ n4_ n5_ n6_ n7_ n8_ n9_ n10_ n11_ n12_ n13_ n14_; (try clear hb); (try clear hb2); (try clear hk); (try clear hi); (try clear ho0); obtain ⟨Ao80, co80, eo80⟩ := Kd.V_slice HO276.out; subst eo80) | (go_at_call 122; (with_reducible refine (slices_Contains_int64_int64.calls k2 _ _ t274 (rd l1_2 x32_2) t277 _ ?side1 ?side2 A65.out).mono ?_); (case side1 => repeat (first | exact (Kd.V_reads' HO276.out).2.2 | (with_reducible refine Kd.C_alloc ?_ _) | (with_reducible refine Kd.C_drewN ?_ _) | (with_reducible refine Kd.C_drew ?_))); (case side2 => exact (Kd.V_reads' HO276.out).2.1); rintro e w' ⟨rfl, ⟨nd, rfl⟩⟩; (try (rw [drewN_self w79]; generalize hq_ : World.drewN w79 _ = w79; have n0_ : Aside0 (Kd.V (Kd.int .i64) 2 w79 w.heap.size (fun k_ => ((P0_0_ k_ ∨ P1_2_ k_) ∨ w.heap.size ≤ k_) ∧ some k_ ≠ (.slice (some ad264) x254000_2.length co72 : Value).ownBlock ∧ some k_ ≠ (.slice Ao42 t256.length co42 : Value).ownBlock ∧ k_ ≠ gb250 ∧ k_ ≠ gb251 ∧ k_ ≠ gb252 ∧ k_ ≠ gb253) (.slice A264_0 (rd_L1 x254000_2 t263).length c264_0) (rd_L1 x254000_2 t263)) := ⟨by rw [← hq_]; exact (by (with_reducible repeat (first | apply Kd.V_alloc | apply Kd.V_drewN | apply Kd.V_drew)); exact HL264_0.out)⟩; have n1_ : Aside0 (Kd.V (Kd.int .i64) 2 w79 w.heap.size (fun k_ => ((P0_0_ k_ ∨ P1_2_ k_) ∨ w.heap.size ≤ k_) ∧ some k_ ≠ (.slice (some ad264) x254000_2.length co72 : Value).ownBlock ∧ some k_ ≠ (.slice Ao42 t256.length co42 : Value).ownBlock ∧ k_ ≠ gb250 ∧ k_ ≠ gb251 ∧ k_ ≠ gb252 ∧ k_ ≠ gb253) (.slice (some ad262) y266.length c1_2) y266) := ⟨by rw [← hq_]; exact (by (with_reducible repeat (first | apply Kd.V_alloc | apply Kd.V_drewN | apply Kd.V_drew)); exact HO270.out)⟩; have n2_ : Aside0 (Kd.V (Kd.int .i64) 2 w79 w.heap.size (fun k_ => ((P0_0_ k_ ∨ P1_2_ k_) ∨ w.heap.size ≤ k_) ∧ some k_ ≠ (.slice (some ad264) x254000_2.length co72 : Value).ownBlock ∧ some k_ ≠ (.slice Ao42 t256.length co42 : Value).ownBlock ∧ k_ ≠ gb250 ∧ k_ ≠ gb251 ∧ k_ ≠ gb252 ∧ k_ ≠ gb253) (.slice Ao78 t271.length co78) t271) := ⟨by rw [← hq_]; exact (by (with_reducible repeat (first | apply Kd.V_alloc | apply Kd.V_drewN | apply Kd.V_drew)); exact HO273.out)⟩; have n3_ : Aside0 (Kd.V (Kd.int .i64) 2 w79 w.heap.size (fun k_ => ((P0_0_ k_ ∨ P1_2_ k_) ∨ w.heap.size ≤ k_) ∧ some k_ ≠ (.slice (some ad264) x254000_2.length co72 : Value).ownBlock ∧ some k_ ≠ (.slice Ao42 t256.length co42 : Value).ownBlock ∧ k_ ≠ gb250 ∧ k_ ≠ gb251 ∧ k_ ≠ gb252 ∧ k_ ≠ gb253) (.slice Ao80 t274.length co80) t274) := ⟨by rw [← hq_]; exact (by (with_reducible repeat (first | apply Kd.V_alloc | apply Kd.V_drewN | apply Kd.V_drew)); exact HO276.out)⟩; have n4_ : Aside0 (Kd.V (Kd.slice 2 (Kd.int .i64)) 22 w79 w.heap.size (fun k_ => ((P0_0_ k_ ∨ P1_2_ k_) ∨ w.heap.size ≤ k_) ∧ some k_ ≠ (.slice (some ad264) x254000_2.length co72 : Value).ownBlock ∧ some k_ ≠ (.slice Ao42 t256.length co42 : Value).ownBlock ∧ k_ ≠ gb250 ∧ k_ ≠ gb251 ∧ k_ ≠ gb252 ∧ k_ ≠ gb253) u251000 x251000_2) := ⟨by rw [← hq_]; exact (by (with_reducible repeat (first | apply Kd.V_alloc | apply Kd.V_drewN | apply Kd.V_drew)); exact HO_251000.out)⟩; have n5_ : Aside0 (Kd.V (Kd.int .i64) 2 w79 w.heap.size (fun k_ => ((P0_0_ k_ ∨ P1_2_ k_) ∨ w.heap.size ≤ k_) ∧ some k_ ≠ (.slice (some ad264) x254000_2.length co72 : Value).ownBlock ∧ some k_ ≠ (.slice Ao42 t256.length co42 : Value).ownBlock ∧ k_ ≠ gb250 ∧ k_ ≠ gb251 ∧ k_ ≠ gb252 ∧ k_ ≠ gb253) (.slice (some ad262) l1_2.length c1_2) l1_2) := ⟨by rw [← hq_]; exact (by (with_reducible repeat (first | apply Kd.V_alloc | apply Kd.V_drewN | apply Kd.V_drew)); exact HO_252002.out)⟩; have n6_ : Aside0 (Kd.N (Kd.slice 2 (Kd.int .i64)) 22 w79 w.heap.size (fun k_ => ((P0_0_ k_ ∨ P1_2_ k_) ∨ w.heap.size ≤ k_) ∧ some k_ ≠ (.slice Ao42 t256.length co42 : Value).ownBlock ∧ k_ ≠ gb250 ∧ k_ ≠ gb251 ∧ k_ ≠ gb252 ∧ k_ ≠ gb253) (.slice (some ad264) x254000_2.length co72) x254000_2) := ⟨by rw [← hq_]; exact (by (with_reducible repeat (first | apply Kd.N_alloc | apply Kd.N_drewN | apply Kd.N_drew)); exact HO_254000.out)⟩; have n7_ : Aside0 (Kd.R (Kd.int .i64) 2 w79 w.heap.size (fun k_ => (w.heap.size ≤ k_)) (.slice Ao42 t256.length co42) t256) := ⟨by rw [← hq_]; exact (by (with_reducible repeat (first | apply Kd.R_alloc | apply Kd.R_drewN | apply Kd.R_drew)); exact HO_254001.out)⟩; have n8_ : Aside0 (Kd.V (Kd.int .i64) 2 w79 w.heap.size (fun k_ => ((P0_0_ k_ ∨ P1_2_ k_) ∨ w.heap.size ≤ k_) ∧ some k_ ≠ (.slice (some ad264) x254000_2.length co72 : Value).ownBlock ∧ some k_ ≠ (.slice Ao42 t256.length co42 : Value).ownBlock ∧ k_ ≠ gb250 ∧ k_ ≠ gb251 ∧ k_ ≠ gb252 ∧ k_ ≠ gb253) (.slice (some ad262) l1_2.length c1_2) l1_2) := ⟨by rw [← hq_]; exact (by (with_reducible repeat (first | apply Kd.V_alloc | apply Kd.V_drewN | apply Kd.V_drew)); exact HO_30.out)⟩; have n9_ : Aside0 (w79.heap[gb250]? = some (.cells #[u251000] 44 (0, 0))) := ⟨by rw [← hq_]; exact (by (with_reducible repeat (first | refine blk_drewN ?_ _ | refine blk_drew ?_ | refine blk_alloc ?_ _)); exact BK250.out)⟩; have n10_ : Aside0 (w79.heap[gb251]? = some (.cells #[.int .i64 a1_0, .int .i64 a1_1, .slice (some ad262) l1_2.length c1_2] 27 (0, 0))) := ⟨by rw [← hq_]; exact (by (with_reducible repeat (first | refine blk_drewN ?_ _ | refine blk_drew ?_ | refine blk_alloc ?_ _)); exact BK251.out)⟩; have n11_ : Aside0 (w79.heap[gb252]? = some (.cells #[.slice none 0 0, .slice none 0 0, .bool x253002_2, .bool x253003_2] 92 (0, 0))) := ⟨by rw [← hq_]; exact (by (with_reducible repeat (first | refine blk_drewN ?_ _ | refine blk_drew ?_ | refine blk_alloc ?_ _)); exact BK252.out)⟩; have n12_ : Aside0 (w79.heap[gb253]? = some (.cells #[.slice (some ad264) x254000_2.length co72, .slice Ao42 t256.length co42, .bool true, .bool true] 92 (0, 0))) := ⟨by rw [← hq_]; exact (by (with_reducible repeat (first | refine blk_drewN ?_ _ | refine blk_drew ?_ | refine blk_alloc ?_ _)); exact BK253.out)⟩; have n13_ : Aside0 (Below w.heap.size w w79) := ⟨by rw [← hq_]; exact (by repeat (first | (with_reducible first | exact HB.out | apply below_alloc | apply pw_below_drewN | apply below_drew1 | refine below_set ?_ GE250.out | refine below_set ?_ GE251.out | refine below_set ?_ GE252.out | refine below_set ?_ GE253.out) | exact HB.out))⟩; have n14_ : Aside0 (Kd.C (Kd.int .i64) w79 A264_0 (rd_L1 x254000_2 t263).length (rd_L1 x254000_2 t263)) := ⟨by rw [← hq_]; exact (by repeat (first | (with_reducible exact HR264_0.out) | (with_reducible refine Kd.C_alloc ?_ _) | (with_reducible refine Kd.C_drewN ?_ _) | (with_reducible refine Kd.C_drew ?_) | exact HR264_0.out))⟩; clear HL264_0 HO270 HO273 HO276 HO_251000 HO_252002 HO_254000 HO_254001 HO_30 BK250 BK251 BK252 BK253 HB HR264_0 hq_; have HL264_0 := n0_; have HO270 := n1_; have HO273 := n2_; have HO276 := n3_; have HO_251000 := n4_; have HO_252002 := n5_; have HO_254000 := n6_; have HO_254001 := n7_; have HO_30 := n8_; have BK250 := n9_; have BK251 := n10_; have BK252 := n11_; have BK253 := n12_; have HB := n13_; have HR264_0 := n14_; clear n0_ n1_ n2_ n3_ n4_ n5_ n6_ n7_ n8_ n9_ n10_ n11_ n12_ n13_ n14_; (try replace hcz71_0 := (blk_cell BK253.out 0).trans (rfl : _ = some _)); (try replace hcz71_1 := (blk_cell BK253.out 1).trans (rfl : _ = some _)); (try replace hcz71_2 := (blk_cell BK253.out 2).trans (rfl : _ = some _)); (try replace hcz71_3 := (blk_cell BK253.out 3).trans (rfl : _ = some _)); (try replace hfz71_0 := blk_frozen BK253.out 0); (try replace hfz71_1 := blk_frozen BK253.out 1); (try replace hfz71_2 := blk_frozen BK253.out 2); (try replace hfz71_3 := blk_frozen BK253.out 3))); have hcz81_0 : w79.cell? ⟨gb253, 0, none⟩ = some (.slice (some ad264) x254000_2.length co72) := (blk_cell BK253.out 0).trans rfl; have hcz81_1 : w79.cell? ⟨gb253, 1, none⟩ = some (.slice Ao42 t256.length co42) := (blk_cell BK253.out 1).trans rfl; have hcz81_2 : w79.cell? ⟨gb253, 2, none⟩ = some (.bool true) := (blk_cell BK253.out 2).trans rfl; have hcz81_3 : w79.cell? ⟨gb253, 3, none⟩ = some (.bool true) := (blk_cell BK253.out 3).trans rfl; have hfz81_0 := blk_frozen BK253.out 0; have hfz81_1 := blk_frozen BK253.out 1; have hfz81_2 := blk_frozen BK253.out 2; have hfz81_3 := blk_frozen BK253.out 3))
              have n0_ : Aside0 (Kd.V (Kd.int .i64) 2 (w79.setCell ⟨gb253, 3, none⟩ (.bool t277)) w.heap.size (fun k_ => ((P0_0_ k_ ∨ P1_2_ k_) ∨ w.heap.size ≤ k_) ∧ some k_ ≠ (.slice (some ad264) x254000_2.length co72 : Value).ownBlock ∧ some k_ ≠ (.slice Ao42 t256.length co42 : Value).ownBlock ∧ k_ ≠ gb250 ∧ k_ ≠ gb251 ∧ k_ ≠ gb252 ∧ k_ ≠ gb253) (.slice (some ad262) l1_2.length c1_2) l1_2) := ⟨by (with_reducible repeat (first | apply Kd.V_alloc | apply Kd.V_drewN | apply Kd.V_drew)); exact Kd.V_mono (Kd.V_far (p := ⟨gb253, 3, none⟩) (Kd.V_mono HO_30.out (fun k_ hk => (⟨hk, hk.2.2.2.2.2.2⟩ : _ ∧ k_ ≠ gb253))) (fun _ hk => hk.2) (.bool t277)) (fun _ hk => ⟨hk.1.1, ⟨hk.1.2.1, ⟨hk.1.2.2.1, ⟨hk.1.2.2.2.1, ⟨hk.1.2.2.2.2.1, ⟨hk.1.2.2.2.2.2.1, hk.1.2.2.2.2.2.2⟩⟩⟩⟩⟩⟩)⟩
              have n1_ : Aside0 (Kd.V (Kd.slice 2 (Kd.int .i64)) 22 (w79.setCell ⟨gb253, 3, none⟩ (.bool t277)) w.heap.size (fun k_ => ((P0_0_ k_ ∨ P1_2_ k_) ∨ w.heap.size ≤ k_) ∧ some k_ ≠ (.slice (some ad264) x254000_2.length co72 : Value).ownBlock ∧ some k_ ≠ (.slice Ao42 t256.length co42 : Value).ownBlock ∧ k_ ≠ gb250 ∧ k_ ≠ gb251 ∧ k_ ≠ gb252 ∧ k_ ≠ gb253) u251000 x251000_2) := ⟨by (with_reducible repeat (first | apply Kd.V_alloc | apply Kd.V_drewN | apply Kd.V_drew)); exact Kd.V_mono (Kd.V_far (p := ⟨gb253, 3, none⟩) (Kd.V_mono HO_251000.out (fun k_ hk => (⟨hk, hk.2.2.2.2.2.2⟩ : _ ∧ k_ ≠ gb253))) (fun _ hk => hk.2) (.bool t277)) (fun _ hk => ⟨hk.1.1, ⟨hk.1.2.1, ⟨hk.1.2.2.1, ⟨hk.1.2.2.2.1, ⟨hk.1.2.2.2.2.1, ⟨hk.1.2.2.2.2.2.1, hk.1.2.2.2.2.2.2⟩⟩⟩⟩⟩⟩)⟩
              have n2_ : Aside0 (Kd.V (Kd.int .i64) 2 (w79.setCell ⟨gb253, 3, none⟩ (.bool t277)) w.heap.size (fun k_ => ((P0_0_ k_ ∨ P1_2_ k_) ∨ w.heap.size ≤ k_) ∧ some k_ ≠ (.slice (some ad264) x254000_2.length co72 : Value).ownBlock ∧ some k_ ≠ (.slice Ao42 t256.length co42 : Value).ownBlock ∧ k_ ≠ gb250 ∧ k_ ≠ gb251 ∧ k_ ≠ gb252 ∧ k_ ≠ gb253) (.slice (some ad262) l1_2.length c1_2) l1_2) := ⟨by (with_reducible repeat (first | apply Kd.V_alloc | apply Kd.V_drewN | apply Kd.V_drew)); exact Kd.V_mono (Kd.V_far (p := ⟨gb253, 3, none⟩) (Kd.V_mono HO_252002.out (fun k_ hk => (⟨hk, hk.2.2.2.2.2.2⟩ : _ ∧ k_ ≠ gb253))) (fun _ hk => hk.2) (.bool t277)) (fun _ hk => ⟨hk.1.1, ⟨hk.1.2.1, ⟨hk.1.2.2.1, ⟨hk.1.2.2.2.1, ⟨hk.1.2.2.2.2.1, ⟨hk.1.2.2.2.2.2.1, hk.1.2.2.2.2.2.2⟩⟩⟩⟩⟩⟩)⟩
              have n3_ : Aside0 (Kd.N (Kd.slice 2 (Kd.int .i64)) 22 (w79.setCell ⟨gb253, 3, none⟩ (.bool t277)) w.heap.size (fun k_ => ((P0_0_ k_ ∨ P1_2_ k_) ∨ w.heap.size ≤ k_) ∧ some k_ ≠ (.slice Ao42 t256.length co42 : Value).ownBlock ∧ k_ ≠ gb250 ∧ k_ ≠ gb251 ∧ k_ ≠ gb252 ∧ k_ ≠ gb253) (.slice (some ad264) x254000_2.length co72) x254000_2) := ⟨by (with_reducible repeat (first | apply Kd.N_alloc | apply Kd.N_drewN | apply Kd.N_drew)); exact Kd.N_mono (Kd.N_far (p := ⟨gb253, 3, none⟩) (Kd.N_mono HO_254000.out (fun k_ hk => (⟨hk, hk.2.2.2.2.2⟩ : _ ∧ k_ ≠ gb253))) (fun _ hk => hk.2) (.bool t277)) (fun _ hk => ⟨hk.1.1, ⟨hk.1.2.1, ⟨hk.1.2.2.1, ⟨hk.1.2.2.2.1, ⟨hk.1.2.2.2.2.1, hk.1.2.2.2.2.2⟩⟩⟩⟩⟩)⟩
              have n4_ : Aside0 (Kd.R (Kd.int .i64) 2 (w79.setCell ⟨gb253, 3, none⟩ (.bool t277)) w.heap.size (fun k_ => (w.heap.size ≤ k_)) (.slice Ao42 t256.length co42) t256) := ⟨by (with_reducible repeat (first | apply Kd.R_alloc | apply Kd.R_drewN | apply Kd.R_drew)); exact Kd.R_mono (Kd.R_far (p := ⟨gb253, 3, none⟩) (Kd.R_types HO_254001.out BK253.out (by decide)) (fun _ hk => hk.2) (.bool t277)) (fun _ hk => hk.1)⟩
              have n5_ : Aside0 (Kd.V (Kd.int .i64) 2 (w79.setCell ⟨gb253, 3, none⟩ (.bool t277)) w.heap.size (fun k_ => ((P0_0_ k_ ∨ P1_2_ k_) ∨ w.heap.size ≤ k_) ∧ some k_ ≠ (.slice (some ad264) x254000_2.length co72 : Value).ownBlock ∧ some k_ ≠ (.slice Ao42 t256.length co42 : Value).ownBlock ∧ k_ ≠ gb250 ∧ k_ ≠ gb251 ∧ k_ ≠ gb252 ∧ k_ ≠ gb253) (.slice A264_0 (rd_L1 x254000_2 t263).length c264_0) (rd_L1 x254000_2 t263)) := ⟨by (with_reducible repeat (first | apply Kd.V_alloc | apply Kd.V_drewN | apply Kd.V_drew)); exact Kd.V_mono (Kd.V_far (p := ⟨gb253, 3, none⟩) (Kd.V_mono HL264_0.out (fun k_ hk => (⟨hk, hk.2.2.2.2.2.2⟩ : _ ∧ k_ ≠ gb253))) (fun _ hk => hk.2) (.bool t277)) (fun _ hk => ⟨hk.1.1, ⟨hk.1.2.1, ⟨hk.1.2.2.1, ⟨hk.1.2.2.2.1, ⟨hk.1.2.2.2.2.1, ⟨hk.1.2.2.2.2.2.1, hk.1.2.2.2.2.2.2⟩⟩⟩⟩⟩⟩)⟩
              have n6_ : Aside0 (Kd.V (Kd.int .i64) 2 (w79.setCell ⟨gb253, 3, none⟩ (.bool t277)) w.heap.size (fun k_ => ((P0_0_ k_ ∨ P1_2_ k_) ∨ w.heap.size ≤ k_) ∧ some k_ ≠ (.slice (some ad264) x254000_2.length co72 : Value).ownBlock ∧ some k_ ≠ (.slice Ao42 t256.length co42 : Value).ownBlock ∧ k_ ≠ gb250 ∧ k_ ≠ gb251 ∧ k_ ≠ gb252 ∧ k_ ≠ gb253) (.slice (some ad262) y266.length c1_2) y266) := ⟨by (with_reducible repeat (first | apply Kd.V_alloc | apply Kd.V_drewN | apply Kd.V_drew)); exact Kd.V_mono (Kd.V_far (p := ⟨gb253, 3, none⟩) (Kd.V_mono HO270.out (fun k_ hk => (⟨hk, hk.2.2.2.2.2.2⟩ : _ ∧ k_ ≠ gb253))) (fun _ hk => hk.2) (.bool t277)) (fun _ hk => ⟨hk.1.1, ⟨hk.1.2.1, ⟨hk.1.2.2.1, ⟨hk.1.2.2.2.1, ⟨hk.1.2.2.2.2.1, ⟨hk.1.2.2.2.2.2.1, hk.1.2.2.2.2.2.2⟩⟩⟩⟩⟩⟩)⟩
              have n7_ : Aside0 (Kd.V (Kd.int .i64) 2 (w79.setCell ⟨gb253, 3, none⟩ (.bool t277)) w.heap.size (fun k_ => ((P0_0_ k_ ∨ P1_2_ k_) ∨ w.heap.size ≤ k_) ∧ some k_ ≠ (.slice (some ad264) x254000_2.length co72 : Value).ownBlock ∧ some k_ ≠ (.slice Ao42 t256.length co42 : Value).ownBlock ∧ k_ ≠ gb250 ∧ k_ ≠ gb251 ∧ k_ ≠ gb252 ∧ k_ ≠ gb253) (.slice Ao78 t271.length co78) t271) := ⟨by (with_reducible repeat (first | apply Kd.V_alloc | apply Kd.V_drewN | apply Kd.V_drew)); exact Kd.V_mono (Kd.V_far (p := ⟨gb253, 3, none⟩) (Kd.V_mono HO273.out (fun k_ hk => (⟨hk, hk.2.2.2.2.2.2⟩ : _ ∧ k_ ≠ gb253))) (fun _ hk => hk.2) (.bool t277)) (fun _ hk => ⟨hk.1.1, ⟨hk.1.2.1, ⟨hk.1.2.2.1, ⟨hk.1.2.2.2.1, ⟨hk.1.2.2.2.2.1, ⟨hk.1.2.2.2.2.2.1, hk.1.2.2.2.2.2.2⟩⟩⟩⟩⟩⟩)⟩
              have n8_ : Aside0 (Kd.V (Kd.int .i64) 2 (w79.setCell ⟨gb253, 3, none⟩ (.bool t277)) w.heap.size (fun k_ => ((P0_0_ k_ ∨ P1_2_ k_) ∨ w.heap.size ≤ k_) ∧ some k_ ≠ (.slice (some ad264) x254000_2.length co72 : Value).ownBlock ∧ some k_ ≠ (.slice Ao42 t256.length co42 : Value).ownBlock ∧ k_ ≠ gb250 ∧ k_ ≠ gb251 ∧ k_ ≠ gb252 ∧ k_ ≠ gb253) (.slice Ao80 t274.length co80) t274) := ⟨by (with_reducible repeat (first | apply Kd.V_alloc | apply Kd.V_drewN | apply Kd.V_drew)); exact Kd.V_mono (Kd.V_far (p := ⟨gb253, 3, none⟩) (Kd.V_mono HO276.out (fun k_ hk => (⟨hk, hk.2.2.2.2.2.2⟩ : _ ∧ k_ ≠ gb253))) (fun _ hk => hk.2) (.bool t277)) (fun _ hk => ⟨hk.1.1, ⟨hk.1.2.1, ⟨hk.1.2.2.1, ⟨hk.1.2.2.2.1, ⟨hk.1.2.2.2.2.1, ⟨hk.1.2.2.2.2.2.1, hk.1.2.2.2.2.2.2⟩⟩⟩⟩⟩⟩)⟩
              have n9_ : Aside0 ((w79.setCell ⟨gb253, 3, none⟩ (.bool t277)).heap[gb250]? = some (.cells #[u251000] 44 (0, 0))) := ⟨by (with_reducible repeat (first | refine blk_drewN ?_ _ | refine blk_drew ?_ | refine blk_alloc ?_ _)); refine blk_far ?_ NB250_253.out _; (with_reducible repeat (first | refine blk_drewN ?_ _ | refine blk_drew ?_ | refine blk_alloc ?_ _)); exact BK250.out⟩
              have n10_ : Aside0 ((w79.setCell ⟨gb253, 3, none⟩ (.bool t277)).heap[gb251]? = some (.cells #[.int .i64 a1_0, .int .i64 a1_1, .slice (some ad262) l1_2.length c1_2] 27 (0, 0))) := ⟨by (with_reducible repeat (first | refine blk_drewN ?_ _ | refine blk_drew ?_ | refine blk_alloc ?_ _)); refine blk_far ?_ NB251_253.out _; (with_reducible repeat (first | refine blk_drewN ?_ _ | refine blk_drew ?_ | refine blk_alloc ?_ _)); exact BK251.out⟩
              have n11_ : Aside0 ((w79.setCell ⟨gb253, 3, none⟩ (.bool t277)).heap[gb252]? = some (.cells #[.slice none 0 0, .slice none 0 0, .bool x253002_2, .bool x253003_2] 92 (0, 0))) := ⟨by (with_reducible repeat (first | refine blk_drewN ?_ _ | refine blk_drew ?_ | refine blk_alloc ?_ _)); refine blk_far ?_ NB252_253.out _; (with_reducible repeat (first | refine blk_drewN ?_ _ | refine blk_drew ?_ | refine blk_alloc ?_ _)); exact BK252.out⟩
              have n12_ : Aside0 ((w79.setCell ⟨gb253, 3, none⟩ (.bool t277)).heap[gb253]? = some (.cells #[.slice (some ad264) x254000_2.length co72, .slice Ao42 t256.length co42, .bool true, .bool t277] 92 (0, 0))) := ⟨by (with_reducible repeat (first | refine blk_drewN ?_ _ | refine blk_drew ?_ | refine blk_alloc ?_ _)); refine blk_put (cs := #[.slice (some ad264) x254000_2.length co72, .slice Ao42 t256.length co42, .bool true, .bool true]) ?_ 3 _ rfl; (with_reducible repeat (first | refine blk_drewN ?_ _ | refine blk_drew ?_ | refine blk_alloc ?_ _)); exact BK253.out⟩
              have n13_ : Aside0 (Below w.heap.size w (w79.setCell ⟨gb253, 3, none⟩ (.bool t277))) := ⟨by repeat (first | (with_reducible first | exact HB.out | apply below_alloc | apply pw_below_drewN | apply below_drew1 | refine below_set ?_ GE250.out | refine below_set ?_ GE251.out | refine below_set ?_ GE252.out | refine below_set ?_ GE253.out) | exact HB.out)⟩
              (try clear HO_30)
              (try clear HO_251000)
              (try clear HO_252002)
              (try clear HO_254000)
              (try clear HO_254001)
              (try clear HL264_0)
              (try clear HO270)
              (try clear HO273)
              (try clear HO276)
              (try clear BK250)
              (try clear BK251)
              (try clear BK252)
              (try clear BK253)
              (try clear HB)
              generalize (w79.setCell ⟨gb253, 3, none⟩ (.bool t277)) = w82 at n0_ n1_ n2_ n3_ n4_ n5_ n6_ n7_ n8_ n9_ n10_ n11_ n12_ n13_ ⊢
              have HO_30 := n0_
              have HO_251000 := n1_
              have HO_252002 := n2_
              have HO_254000 := n3_
              have HO_254001 := n4_
              have HL264_0 := n5_
              have HO270 := n6_
              have HO273 := n7_
              have HO276 := n8_
              have BK250 := n9_
              have BK251 := n10_
              have BK252 := n11_
              have BK253 := n12_
              have HB := n13_
              clear n0_ n1_ n2_ n3_ n4_ n5_ n6_ n7_ n8_ n9_ n10_ n11_ n12_ n13_
              have n0_ := Aside0.mk (Kd.V_drew HO_30.out)
              have n1_ := Aside0.mk (Kd.V_drew HO_251000.out)
              have n2_ := Aside0.mk (Kd.V_drew HO_252002.out)
              have n3_ := Aside0.mk (Kd.N_drew HO_254000.out)
              have n4_ := Aside0.mk (Kd.R_drew HO_254001.out)
              have n5_ := Aside0.mk (Kd.V_drew HL264_0.out)
              have n6_ := Aside0.mk (Kd.V_drew HO270.out)
              have n7_ := Aside0.mk (Kd.V_drew HO273.out)
              have n8_ := Aside0.mk (Kd.V_drew HO276.out)
              have n9_ := Aside0.mk (blk_drew BK250.out)
              have n10_ := Aside0.mk (blk_drew BK251.out)
              have n11_ := Aside0.mk (blk_drew BK252.out)
              have n12_ := Aside0.mk (blk_drew BK253.out)
              have n13_ := Aside0.mk (below_drew1 HB.out)
              clear HO_30
              clear HO_251000
              clear HO_252002
              clear HO_254000
              clear HO_254001
              clear HL264_0
              clear HO270
              clear HO273
              clear HO276
              clear BK250
              clear BK251
              clear BK252
              clear BK253
              clear HB
              have HO_30 := n0_
              have HO_251000 := n1_
              have HO_252002 := n2_
              have HO_254000 := n3_
              have HO_254001 := n4_
              have HL264_0 := n5_
              have HO270 := n6_
              have HO273 := n7_
              have HO276 := n8_
              have BK250 := n9_
              have BK251 := n10_
              have BK252 := n11_
              have BK253 := n12_
              have HB := n13_
              clear n0_ n1_ n2_ n3_ n4_ n5_ n6_ n7_ n8_ n9_ n10_ n11_ n12_ n13_
              refine start_ (n := 8) (S := fun w' => w'.cell? ⟨gb253, 0, none⟩ = some (.slice (some ad264) x254000_2.length co72) ∧ w'.cell? ⟨gb253, 1, none⟩ = some (.slice Ao42 t256.length co42) ∧ w'.cell? ⟨gb253, 2, none⟩ = some (.bool true) ∧ w'.cell? ⟨gb253, 3, none⟩ = some (.bool t277)) (ds := [7]) #[false, false, false, false, false, false, false, false] (by kernel_rfl) rfl rfl ⟨(blk_cell BK253.out 0).trans rfl, (blk_cell BK253.out 1).trans rfl, (blk_cell BK253.out 2).trans rfl, (blk_cell BK253.out 3).trans rfl⟩ (fun hHeld => ?_); refine with_tabW impl_recordOf.tab13 impl_recordOf.bits13 (fun HT_ HW_ => ?_)
              generalize w82.drew = w83 at HO_30 HO_251000 HO_252002 HO_254000 HO_254001 HL264_0 HO270 HO273 HO276 BK250 BK251 BK252 BK253 HB hHeld ⊢
              refine pure_ (i := 0) (N := some 65) (v := ?_) (a' := ?_) #[true, false, false, false, false, false, false, false] rfl rfl (any_of HT_.out (by kernel_rfl)) (fun _ _ _ h => h) (Or.inl ⟨by rfl, ?_⟩) ?_ ?_
              rotate_left
              ·intro w'
               go_simp
               with_reducible rfl
              rotate_left
              ·simp only [Act.put, List.setIfInBounds_toArray, List.set_cons_zero, List.set_cons_succ, i64_w, i32_w]
               rfl
              refine pure_ (i := 2) (N := some 67) (v := ?_) (a' := ?_) #[true, false, true, false, false, false, false, false] rfl rfl (any_of HT_.out (by kernel_rfl)) (fun _ _ _ h => h) (Or.inl ⟨by rfl, ?_⟩) ?_ ?_
              rotate_left
              ·intro w'
               go_simp
               with_reducible rfl
              rotate_left
              ·simp only [Act.put, List.setIfInBounds_toArray, List.set_cons_zero, List.set_cons_succ, i64_w, i32_w]
               rfl
              refine pure_ (i := 3) (N := some 68) (v := ?_) (a' := ?_) #[true, false, true, true, false, false, false, false] rfl rfl (any_of HT_.out (by kernel_rfl)) (fun _ _ _ h => h) (Or.inl ⟨by rfl, ?_⟩) ?_ ?_
              rotate_left
              ·intro w'
               go_simp
               with_reducible rfl
              rotate_left
              ·simp only [Act.put, List.setIfInBounds_toArray, List.set_cons_zero, List.set_cons_succ, i64_w, i32_w]
               rfl
              refine pure_ (i := 4) (N := some 69) (v := ?_) (a' := ?_) #[true, false, true, true, true, false, false, false] rfl rfl (any_of HT_.out (by kernel_rfl)) (fun _ _ _ h => h) (Or.inl ⟨by rfl, ?_⟩) ?_ ?_
              rotate_left
              ·intro w'
               go_simp
               with_reducible rfl
              rotate_left
              ·simp only [Act.put, List.setIfInBounds_toArray, List.set_cons_zero, List.set_cons_succ, i64_w, i32_w]
               rfl
              refine take_ (i := 1) (N := some 66) (v := ?_) (a' := ?_) #[true, true, true, true, true, false, false, false] rfl rfl (take_ofW HT_.out HW_.out (by kernel_rfl)) (fun _ _ _ h => h) (Or.inl ⟨by rfl, ?_⟩) hHeld ?_ ?_
              rotate_left
              ·rintro w' ⟨s0, s1, s2, s3⟩
               go_simp
               with_reducible rfl
              rotate_left
              ·simp only [Act.put, List.setIfInBounds_toArray, List.set_cons_zero, List.set_cons_succ, i64_w, i32_w]
               rfl
              refine one_ (i := 5) (N := some 70) #[true, true, true, true, true, true, false, false] rfl rfl (one_of HT_.out (by kernel_rfl)) (by decide) (fun K hK => ?_)
              refine goes_ Try.func145 (by kernel_rfl) rfl #[.slice A264_0 (rd_L1 x254000_2 t263).length c264_0, .int .i64 (rd l1_2 x32_2)] (by rfl) rfl rfl (by (try simp only [List.map_toArray, List.map_cons, List.map_nil]); first | done | rfl | (simp only [List.length_drop, List.length_take]; rfl)) ?_
              with_reducible refine (impl_without.calls _ _ (rd_L1 x254000_2 t263) (rd l1_2 x32_2) t278 _ ?side1 ?side2 A66.out).mono ?_
              (case side1 => repeat (first | exact ((Kd.V_reads' (by (with_reducible repeat (first | apply Kd.V_alloc | apply Kd.V_drewN | apply Kd.V_drew)); exact HL264_0.out)).2.2) | (with_reducible refine Kd.C_alloc ?_ _) | (with_reducible refine Kd.C_drewN ?_ _) | (with_reducible refine Kd.C_drew ?_)))
              (case side2 => exact HC264_0.out)
              rintro e w84 ⟨v279, rfl, ho0, hb⟩
              refine ⟨_, rfl, ?_⟩
              have n0_ := Aside0.mk (Kd.V_elder' (by (with_reducible repeat (first | apply Kd.V_alloc | apply Kd.V_drewN | apply Kd.V_drew)); exact HO_30.out) (Kd.R_base ho0) hb)
              have n1_ := Aside0.mk (Kd.V_elder' (by (with_reducible repeat (first | apply Kd.V_alloc | apply Kd.V_drewN | apply Kd.V_drew)); exact HO_251000.out) (Kd.R_base ho0) hb)
              have n2_ := Aside0.mk (Kd.V_elder' (by (with_reducible repeat (first | apply Kd.V_alloc | apply Kd.V_drewN | apply Kd.V_drew)); exact HO_252002.out) (Kd.R_base ho0) hb)
              have n3_ := Aside0.mk (Kd.N_elder' (by (with_reducible repeat (first | apply Kd.N_alloc | apply Kd.N_drewN | apply Kd.N_drew)); exact HO_254000.out) (Kd.R_base ho0) hb)
              have n4_ := Aside0.mk (Kd.R_elder' (by (with_reducible repeat (first | apply Kd.R_alloc | apply Kd.R_drewN | apply Kd.R_drew)); exact HO_254001.out) (Kd.R_base ho0) hb)
              have n5_ := Aside0.mk (Kd.V_elder' (by (with_reducible repeat (first | apply Kd.V_alloc | apply Kd.V_drewN | apply Kd.V_drew)); exact HL264_0.out) (Kd.R_base ho0) hb)
              have n6_ := Aside0.mk (Kd.V_elder' (by (with_reducible repeat (first | apply Kd.V_alloc | apply Kd.V_drewN | apply Kd.V_drew)); exact HO270.out) (Kd.R_base ho0) hb)
              have n7_ := Aside0.mk (Kd.V_elder' (by (with_reducible repeat (first | apply Kd.V_alloc | apply Kd.V_drewN | apply Kd.V_drew)); exact HO273.out) (Kd.R_base ho0) hb)
              have n8_ := Aside0.mk (Kd.V_elder' (by (with_reducible repeat (first | apply Kd.V_alloc | apply Kd.V_drewN | apply Kd.V_drew)); exact HO276.out) (Kd.R_base ho0) hb)
              have n9_ := Aside0.mk (Kd.R_lower (Kd.R_new' (Kd.R_newM (M := fun k_ => (w.heap.size ≤ k_)) ho0 (below_size (by repeat (first | (with_reducible first | exact HB.out | apply below_alloc | apply pw_below_drewN | apply below_drew1 | refine below_set ?_ GE250.out | refine below_set ?_ GE251.out | refine below_set ?_ GE252.out | refine below_set ?_ GE253.out) | exact HB.out))) (fun k_ h_ => h_)) (Kd.R_lt (by (with_reducible repeat (first | apply Kd.R_alloc | apply Kd.R_drewN | apply Kd.R_drew)); exact HO_254001.out))) (below_size (by repeat (first | (with_reducible first | exact HB.out | apply below_alloc | apply pw_below_drewN | apply below_drew1 | refine below_set ?_ GE250.out | refine below_set ?_ GE251.out | refine below_set ?_ GE252.out | refine below_set ?_ GE253.out) | exact HB.out))))
              have n10_ := Aside0.mk (blk_below (g := gb250) (o := .cells #[u251000] 44 (0, 0)) (by (with_reducible repeat (first | refine blk_drewN ?_ _ | refine blk_drew ?_ | refine blk_alloc ?_ _)); exact BK250.out) hb)
              have n11_ := Aside0.mk (blk_below (g := gb251) (o := .cells #[.int .i64 a1_0, .int .i64 a1_1, .slice (some ad262) l1_2.length c1_2] 27 (0, 0)) (by (with_reducible repeat (first | refine blk_drewN ?_ _ | refine blk_drew ?_ | refine blk_alloc ?_ _)); exact BK251.out) hb)
              have n12_ := Aside0.mk (blk_below (g := gb252) (o := .cells #[.slice none 0 0, .slice none 0 0, .bool x253002_2, .bool x253003_2] 92 (0, 0)) (by (with_reducible repeat (first | refine blk_drewN ?_ _ | refine blk_drew ?_ | refine blk_alloc ?_ _)); exact BK252.out) hb)
              have n13_ := Aside0.mk (blk_below (g := gb253) (o := .cells #[.slice (some ad264) x254000_2.length co72, .slice Ao42 t256.length co42, .bool true, .bool t277] 92 (0, 0)) (by (with_reducible repeat (first | refine blk_drewN ?_ _ | refine blk_drew ?_ | refine blk_alloc ?_ _)); exact BK253.out) hb)
              have n14_ := Aside0.mk (below_step (by repeat (first | (with_reducible first | exact HB.out | apply below_alloc | apply pw_below_drewN | apply below_drew1 | refine below_set ?_ GE250.out | refine below_set ?_ GE251.out | refine below_set ?_ GE252.out | refine below_set ?_ GE253.out) | exact HB.out)) hb)
              clear HO_30
              clear HO_251000
              clear HO_252002
              clear HO_254000
              clear HO_254001
              clear HL264_0
              clear HO270
              clear HO273
              clear HO276
              clear BK250
              clear BK251
              clear BK252
              clear BK253
              clear HB
              have HO_30 := n0_
              have HO_251000 := n1_
              have HO_252002 := n2_
              have HO_254000 := n3_
              have HO_254001 := n4_
              have HL264_0 := n5_
              have HO270 := n6_
              have HO273 := n7_
              have HO276 := n8_
              have HO280 := n9_
              have BK250 := n10_
              have BK251 := n11_
              have BK252 := n12_
              have BK253 := n13_
              have HB := n14_
              clear n0_ n1_ n2_ n3_ n4_ n5_ n6_ n7_ n8_ n9_ n10_ n11_ n12_ n13_ n14_
              (try clear hb)
              (try clear hb2)
              (try clear hk)
              (try clear hi)
              (try clear ho0)
              have p67 : 0 ≤ (t263 : Int) := of_decide_eq_true (by first | (with_reducible assumption) | assumption)
              have q67 : (t263 : Int) < ((x254000_2.length : Int) : Int) := of_decide_eq_true (by first | (with_reducible assumption) | assumption)
              obtain ⟨go67, co67, eo67, gb67, gl67, cl67, HG67⟩ := Kd.N_form HO_254000.out (by omega)
              (first | cases eo67 | (injection eo67 with ea_ en_ ec_; (first | subst ea_ | (injection ea_ with ea_; subst ea_)); subst ec_; clear en_))
              have GB67 := Aside0.mk gb67
              have GG67 := Aside0.mk HG67
              clear gb67 gl67 HG67
              (first | simp only [add_plain] at hx264_0 | skip)
              obtain ⟨ce67, hcl67, hM67, hcc67, hfr67⟩ := Kd.N_elem HO_254000.out [] (t263 : Int) p67 q67
              obtain ⟨ua67_0, uc67_0, rfl, ul67_0, ge67_0⟩ := Kd.FK_slice_open hM67
              have hx67_0 := hcc67 0 _ rfl
              have hf67_0 := hfr67 0
              (try simp only [show ((Kd.slice 2 (Kd.int .i64))).sz = 1 from rfl, Nat.mul_one, Nat.add_zero] at hx67_0)
              (try simp only [show ((Kd.slice 2 (Kd.int .i64))).sz = 1 from rfl, Nat.mul_one, Nat.add_zero] at hf67_0)
              (try clear hM67); clear hcl67 hcc67 hfr67
              replace p67 := eq_true p67
              replace q67 := eq_true q67
              have HX85 := Aside0.mk (show Kd.N (Kd.slice 2 (Kd.int .i64)) 22 _ w.heap.size (fun k_ => ((P0_0_ k_ ∨ P1_2_ k_) ∨ w.heap.size ≤ k_) ∧ some k_ ≠ (.slice Ao42 t256.length co42 : Value).ownBlock ∧ some k_ ≠ (v279 : Value).ownBlock ∧ k_ ≠ gb250 ∧ k_ ≠ gb251 ∧ k_ ≠ gb252 ∧ k_ ≠ gb253) (.slice (some ⟨go67, 0, none⟩) x254000_2.length co72) x254000_2 from (Kd.N_mono (HO_254000.out) (fun k_ hk => ⟨hk.1.1, ⟨hk.1.2.1, ⟨hk.2, ⟨hk.1.2.2.1, ⟨hk.1.2.2.2.1, ⟨hk.1.2.2.2.2.1, hk.1.2.2.2.2.2⟩⟩⟩⟩⟩⟩)))
              replace HX85 := Aside0.mk (show Kd.N (Kd.slice 2 (Kd.int .i64)) 22 _ w.heap.size (fun k_ => ((P0_0_ k_ ∨ P1_2_ k_) ∨ w.heap.size ≤ k_) ∧ some k_ ≠ (.slice Ao42 t256.length co42 : Value).ownBlock ∧ k_ ≠ gb250 ∧ k_ ≠ gb251 ∧ k_ ≠ gb252 ∧ k_ ≠ gb253) (.slice (some ⟨go67, 0, none⟩) x254000_2.length co72) x254000_2 from Kd.N_mono HX85.out (fun k_ hk => ⟨hk.1, ⟨hk.2.1, ⟨hk.2.2.2.1, ⟨hk.2.2.2.2.1, ⟨hk.2.2.2.2.2.1, hk.2.2.2.2.2.2⟩⟩⟩⟩⟩))
              obtain ⟨ce85, hcl85, hM85, hcc85, hfr85⟩ := Kd.N_elem HX85.out [] (t263 : Int) (of_decide_eq_true (by first | (with_reducible assumption) | assumption)) (by have h_ : (t263 : Int) < ((x254000_2.length : Int) : Int) := of_decide_eq_true (by first | (with_reducible assumption) | assumption); first | exact h_ | (have e_ := (Kd.N_reads' HO_254000.out).1; omega) | simpa using h_)
              obtain ⟨ua85_0, uc85_0, rfl, ul85_0, ge85_0⟩ := Kd.FK_slice_open hM85
              have HP85 := (Kd.N_seg HX85.out (t263 : Int) (of_decide_eq_true (by first | (with_reducible assumption) | assumption)) (by have h_ : (t263 : Int) < ((x254000_2.length : Int) : Int) := of_decide_eq_true (by first | (with_reducible assumption) | assumption); first | exact h_ | (have e_ := (Kd.N_reads' HO_254000.out).1; omega) | simpa using h_) (seg := [v279]) (j := 0) hcl85 hcc85 (show 1 ≤ 1 from by decide) (x' := t278) (Kd.FK_of_M (Kd.M_row (Kd.R_mono (ok' := (fun k_ => ((fun k_ => ((P0_0_ k_ ∨ P1_2_ k_) ∨ w.heap.size ≤ k_) ∧ some k_ ≠ (.slice Ao42 t256.length co42 : Value).ownBlock ∧ k_ ≠ gb250 ∧ k_ ≠ gb251 ∧ k_ ≠ gb252 ∧ k_ ≠ gb253)) k_ ∧ k_ ≠ go67)) (Kd.R_types (Kd.R_types (Kd.R_types (Kd.R_types (Kd.R_apart' (HO280.out) (Kd.N_typed HO_254000.out) (by decide)) BK250.out (by decide)) BK251.out (by decide)) BK252.out (by decide)) BK253.out (by decide)) (fun k_ hk => ⟨⟨(.inr (hk.1.1.1.1.1.1.1)), ⟨hk.1.1.1.1.1.2, ⟨hk.1.1.1.2, ⟨hk.1.1.2, ⟨hk.1.2, hk.2⟩⟩⟩⟩⟩, fun e_ => (hk.1.1.1.1.2) (by rw [e_]; rfl)⟩)))) (fun _ hk => hk)).1
              (try simp only [show ((Kd.slice 2 (Kd.int .i64))).sz = 1 from rfl, Nat.mul_one, Nat.add_zero] at HP85)
              rw [← Ny281.out] at HP85
              have HQ85 := Aside0.mk HP85
              (try clear hM85); clear hcl85 hcc85 hfr85 HP85
              refine hK.out _ _ ⟨(blk_cell BK253.out 0).trans rfl, (blk_cell BK253.out 1).trans rfl, (blk_cell BK253.out 2).trans rfl, (blk_cell BK253.out 3).trans rfl⟩ (fun hHeld => ?_)
              clear hK K
              refine norm_ (a' := ?_) ?_ ?_
              rotate_left
              ·show Act.put _ (some 70) _ = _
               simp only [Act.put, List.setIfInBounds_toArray, List.set_cons_zero, List.set_cons_succ, i64_w, i32_w]
               rfl
              refine pure_ (i := 6) (N := some 71) (v := ?_) (a' := ?_) #[true, true, true, true, true, true, true, false] rfl rfl (any_of HT_.out (by kernel_rfl)) (fun _ _ _ h => h) (Or.inl ⟨by rfl, ?_⟩) ?_ ?_
              rotate_left
              ·intro w'
               go_simp
               with_reducible rfl
              rotate_left
              ·simp only [Act.put, List.setIfInBounds_toArray, List.set_cons_zero, List.set_cons_succ, i64_w, i32_w]
               rfl
              refine last_ (i := 7) (N := none) #[true, true, true, true, true, true, true, true] rfl rfl (one_of HT_.out (by kernel_rfl)) (by decide) (fun K hK => ?_)
              refine skip_ (w1 := (w84.setCell ⟨go67, (t263 : Int).toNat, none⟩ (v279))) (by rfl) rfl ?_ ?_
              ·obtain ⟨Av_, cv_, ev_⟩ := Kd.R_slice HO280.out
               subst ev_
               go_simp
               try rfl
              refine hK.out _ _ ?_
              clear hK K
              refine done_ (done_of HT_.out (by kernel_rfl)) ?_
              try go_wp2
              go_roundg k2
              case measure => have := HJ2.out; have := HK2.out; omega
              case rel => exact ⟨(wrap64 (x32_2 + 1)), (x251000_2), (x253002_2), (x253003_2), (y281), (t277), (u251000), (.slice (some ⟨go67, 0, none⟩) x254000_2.length co72), (by first | rfl | (simp; done) | (simp [*]; done)), H', ⟨by have := HJ2.out; have := HK2.out; omega⟩, ⟨by (with_reducible repeat (first | apply Kd.V_alloc | apply Kd.V_drewN | apply Kd.V_drew)); exact Kd.V_mono (Kd.V_far (p := ⟨go67, (t263 : Int).toNat, none⟩) (Kd.V_mono HO_30.out (fun k_ hk => (⟨hk, fun e_ => hk.1.2.1 (by rw [e_]; rfl)⟩ : _ ∧ k_ ≠ go67))) (fun _ hk => hk.2) (v279)) (fun _ hk => ⟨hk.1.1.1, ⟨hk.1.1.2.1, ⟨hk.1.1.2.2.1, ⟨hk.1.1.2.2.2.1, ⟨hk.1.1.2.2.2.2.1, ⟨hk.1.1.2.2.2.2.2.1, hk.1.1.2.2.2.2.2.2⟩⟩⟩⟩⟩⟩)⟩, ⟨by (with_reducible repeat (first | apply Kd.V_alloc | apply Kd.V_drewN | apply Kd.V_drew)); exact Kd.V_mono (Kd.V_far (p := ⟨go67, (t263 : Int).toNat, none⟩) (Kd.V_mono HO_251000.out (fun k_ hk => (⟨hk, fun e_ => hk.1.2.1 (by rw [e_]; rfl)⟩ : _ ∧ k_ ≠ go67))) (fun _ hk => hk.2) (v279)) (fun _ hk => ⟨hk.1.1.1, ⟨hk.1.1.2.1, ⟨hk.1.1.2.2.1, ⟨hk.1.1.2.2.2.1, ⟨hk.1.1.2.2.2.2.1, ⟨hk.1.1.2.2.2.2.2.1, hk.1.1.2.2.2.2.2.2⟩⟩⟩⟩⟩⟩)⟩, ⟨by (with_reducible repeat (first | apply Kd.V_alloc | apply Kd.V_drewN | apply Kd.V_drew)); exact Kd.V_mono (Kd.V_far (p := ⟨go67, (t263 : Int).toNat, none⟩) (Kd.V_mono HO_252002.out (fun k_ hk => (⟨hk, fun e_ => hk.1.2.1 (by rw [e_]; rfl)⟩ : _ ∧ k_ ≠ go67))) (fun _ hk => hk.2) (v279)) (fun _ hk => ⟨hk.1.1.1, ⟨hk.1.1.2.1, ⟨hk.1.1.2.2.1, ⟨hk.1.1.2.2.2.1, ⟨hk.1.1.2.2.2.2.1, ⟨hk.1.1.2.2.2.2.2.1, hk.1.1.2.2.2.2.2.2⟩⟩⟩⟩⟩⟩)⟩, ⟨by (with_reducible repeat (first | apply Kd.N_alloc | apply Kd.N_drewN | apply Kd.N_drew)); exact HQ85.out⟩, ⟨by (with_reducible repeat (first | apply Kd.R_alloc | apply Kd.R_drewN | apply Kd.R_drew)); exact Kd.R_mono (Kd.R_far (p := ⟨go67, (t263 : Int).toNat, none⟩) (Kd.R_types HO_254001.out GG67.out (by decide)) (fun _ hk => hk.2) (v279)) (fun _ hk => hk.1.1)⟩, ⟨by (with_reducible repeat (first | refine blk_drewN ?_ _ | refine blk_drew ?_ | refine blk_alloc ?_ _)); refine blk_far ?_ (by have h_ := Kd.N_away (g := gb250) HO_254000.out (fun k_ hk_ => by have h_ := hk_; (try simp only [and_assoc, true_and] at h_); first | with_reducible exact h_.1 | with_reducible exact h_.2.1 | with_reducible exact h_.2.2.1 | with_reducible exact h_.2.2.2.1 | with_reducible exact h_.2.2.2.2.1 | with_reducible exact h_.2.2.2.2.2.1 | with_reducible exact h_.2.2.2.2.2.2.1 | with_reducible exact h_.2.2.2.2.2.2.2.1 | with_reducible exact h_.2.2.2.2.2.2.2.2.1 | with_reducible exact h_.2 | with_reducible exact h_.2.2 | with_reducible exact h_.2.2.2 | with_reducible exact h_.2.2.2.2 | with_reducible exact h_.2.2.2.2.2 | with_reducible exact h_.2.2.2.2.2.2 | with_reducible exact h_.2.2.2.2.2.2.2 | with_reducible exact h_.2.2.2.2.2.2.2.2); intro e_; exact h_ (by rw [e_]; rfl)) _; (with_reducible repeat (first | refine blk_drewN ?_ _ | refine blk_drew ?_ | refine blk_alloc ?_ _)); exact BK250.out⟩, ⟨by (with_reducible repeat (first | refine blk_drewN ?_ _ | refine blk_drew ?_ | refine blk_alloc ?_ _)); refine blk_far ?_ (by have h_ := Kd.N_away (g := gb251) HO_254000.out (fun k_ hk_ => by have h_ := hk_; (try simp only [and_assoc, true_and] at h_); first | with_reducible exact h_.1 | with_reducible exact h_.2.1 | with_reducible exact h_.2.2.1 | with_reducible exact h_.2.2.2.1 | with_reducible exact h_.2.2.2.2.1 | with_reducible exact h_.2.2.2.2.2.1 | with_reducible exact h_.2.2.2.2.2.2.1 | with_reducible exact h_.2.2.2.2.2.2.2.1 | with_reducible exact h_.2.2.2.2.2.2.2.2.1 | with_reducible exact h_.2 | with_reducible exact h_.2.2 | with_reducible exact h_.2.2.2 | with_reducible exact h_.2.2.2.2 | with_reducible exact h_.2.2.2.2.2 | with_reducible exact h_.2.2.2.2.2.2 | with_reducible exact h_.2.2.2.2.2.2.2 | with_reducible exact h_.2.2.2.2.2.2.2.2); intro e_; exact h_ (by rw [e_]; rfl)) _; (with_reducible repeat (first | refine blk_drewN ?_ _ | refine blk_drew ?_ | refine blk_alloc ?_ _)); exact BK251.out⟩, ⟨by (with_reducible repeat (first | refine blk_drewN ?_ _ | refine blk_drew ?_ | refine blk_alloc ?_ _)); refine blk_far ?_ (by have h_ := Kd.N_away (g := gb252) HO_254000.out (fun k_ hk_ => by have h_ := hk_; (try simp only [and_assoc, true_and] at h_); first | with_reducible exact h_.1 | with_reducible exact h_.2.1 | with_reducible exact h_.2.2.1 | with_reducible exact h_.2.2.2.1 | with_reducible exact h_.2.2.2.2.1 | with_reducible exact h_.2.2.2.2.2.1 | with_reducible exact h_.2.2.2.2.2.2.1 | with_reducible exact h_.2.2.2.2.2.2.2.1 | with_reducible exact h_.2.2.2.2.2.2.2.2.1 | with_reducible exact h_.2 | with_reducible exact h_.2.2 | with_reducible exact h_.2.2.2 | with_reducible exact h_.2.2.2.2 | with_reducible exact h_.2.2.2.2.2 | with_reducible exact h_.2.2.2.2.2.2 | with_reducible exact h_.2.2.2.2.2.2.2 | with_reducible exact h_.2.2.2.2.2.2.2.2); intro e_; exact h_ (by rw [e_]; rfl)) _; (with_reducible repeat (first | refine blk_drewN ?_ _ | refine blk_drew ?_ | refine blk_alloc ?_ _)); exact BK252.out⟩, ⟨by (with_reducible repeat (first | refine blk_drewN ?_ _ | refine blk_drew ?_ | refine blk_alloc ?_ _)); refine blk_far ?_ (by have h_ := Kd.N_away (g := gb253) HO_254000.out (fun k_ hk_ => by have h_ := hk_; (try simp only [and_assoc, true_and] at h_); first | with_reducible exact h_.1 | with_reducible exact h_.2.1 | with_reducible exact h_.2.2.1 | with_reducible exact h_.2.2.2.1 | with_reducible exact h_.2.2.2.2.1 | with_reducible exact h_.2.2.2.2.2.1 | with_reducible exact h_.2.2.2.2.2.2.1 | with_reducible exact h_.2.2.2.2.2.2.2.1 | with_reducible exact h_.2.2.2.2.2.2.2.2.1 | with_reducible exact h_.2 | with_reducible exact h_.2.2 | with_reducible exact h_.2.2.2 | with_reducible exact h_.2.2.2.2 | with_reducible exact h_.2.2.2.2.2 | with_reducible exact h_.2.2.2.2.2.2 | with_reducible exact h_.2.2.2.2.2.2.2 | with_reducible exact h_.2.2.2.2.2.2.2.2); intro e_; exact h_ (by rw [e_]; rfl)) _; (with_reducible repeat (first | refine blk_drewN ?_ _ | refine blk_drew ?_ | refine blk_alloc ?_ _)); exact BK253.out⟩, ⟨by repeat (first | (with_reducible first | exact HB.out | apply below_alloc | apply pw_below_drewN | apply below_drew1 | refine below_set ?_ GB67.out | refine below_set ?_ GE250.out | refine below_set ?_ GE251.out | refine below_set ?_ GE252.out | refine below_set ?_ GE253.out) | exact HB.out)⟩⟩
             ·rw [if_neg c62] at H
              exact absurd H (by simp)
            ·replace c60 := Bool.eq_false_iff.mpr c60
             subst c60
             have H1 : ((impl_without.f (rd_L1 x254000_2 t263) (rd l1_2 x32_2)).bind fun t282 => (impl_recordOf.l0 k2 l1_2 (l1_2.length : Int) (wrap64 (x32_2 + 1)) a1_0 a1_1 l1_2 (x254000_2.set (t263 : Int).toNat t282) t256 true false)) = some (r1, r2, r3, r4) := by rw [if_neg (show ¬ (false = true) by decide)] at H; exact H
             clear H
             have H := H1
             clear H1
             replace H := Option.bind_eq_some_iff.mp H
             obtain ⟨t282, A860, H⟩ := H
             replace H : (impl_recordOf.l0 k2 l1_2 (l1_2.length : Int) (wrap64 (x32_2 + 1)) a1_0 a1_1 l1_2 (x254000_2.set (t263 : Int).toNat t282) t256 true false) = some (r1, r2, r3, r4) := H
             have A86 := Aside0.mk A860
             clear A860
             obtain ⟨y285, hy285⟩ : ∃ y_ : List (List Int), y_ = (x254000_2.set (t263 : Int).toNat t282) := ⟨_, rfl⟩
             replace H : (impl_recordOf.l0 k2 l1_2 (l1_2.length : Int) (wrap64 (x32_2 + 1)) a1_0 a1_1 l1_2 y285 t256 true false) = some (r1, r2, r3, r4) := by first | (rw [hy285]; with_reducible exact H) | (have H2_ := (Option.bind_some _ _).symm.trans H; rw [hy285]; with_reducible exact H2_) | (have H2_ := (Option.bind_some _ _).symm.trans H; with_reducible exact H2_) | with_reducible exact H | (rw [hy285]; exact H) | exact H
             have Ny285 := Aside0.mk hy285
             clear hy285
             have H' := Aside0.mk H
             clear H
             have p262 : 0 ≤ (x32_2 : Int) := of_decide_eq_true (by first | (with_reducible assumption) | assumption)
             have q262 : x32_2 < (l1_2.length : Int) := of_decide_eq_true (by first | (with_reducible assumption) | assumption)
             obtain ⟨ad262, e262, hx262_0⟩ := Kd.at_int (Kd.V_reads' HO_30.out).2.2 x32_2 p262 q262
             cases e262
             replace p262 := eq_true p262
             replace q262 := eq_true q262
             have hnb88 := NB253_250.out
             have hnc88 := NB250_253.out
             have hnb89 := NB253_251.out
             have hnc89 := NB251_253.out
             have hnb90 := NB253_252.out
             have hnc90 := NB252_253.out
             have hcz91_0 : wr.cell? ⟨gb253, 0, none⟩ = some (u254000) := (blk_cell BK253.out 0).trans rfl
             have hcz91_1 : wr.cell? ⟨gb253, 1, none⟩ = some (.slice Ao42 t256.length co42) := (blk_cell BK253.out 1).trans rfl
             have hcz91_2 : wr.cell? ⟨gb253, 2, none⟩ = some (.bool true) := (blk_cell BK253.out 2).trans rfl
             have hcz91_3 : wr.cell? ⟨gb253, 3, none⟩ = some (.bool false) := (blk_cell BK253.out 3).trans rfl
             have hfz91_0 := blk_frozen BK253.out 0
             have hfz91_1 := blk_frozen BK253.out 1
             have hfz91_2 := blk_frozen BK253.out 2
             have hfz91_3 := blk_frozen BK253.out 3
             try go_wp2_with (first | ((with_reducible refine gate_callee (f := 110) rfl ?_); refine goesL_ (some 40) rfl rfl Try.func110 (by kernel_rfl) rfl #[.slice Ao42 t256.length co42, .int .i64 x32_2] rfl (by (try simp only [List.map_toArray, List.map_cons, List.map_nil]); first | done | rfl | (simp only [List.length_drop, List.length_take]; rfl)) ?_; (with_reducible refine (impl_seatOf.calls _ _ t256 x32_2 t263 _ ?side1 ?side2 A55.out).mono ?_); (case side1 => repeat (first | exact (Kd.R_reads' HO_254001.out).2.2 | (with_reducible refine Kd.C_alloc ?_ _) | (with_reducible refine Kd.C_drewN ?_ _) | (with_reducible refine Kd.C_drew ?_))); (case side2 => exact (Kd.R_reads' HO_254001.out).2.1); rintro e w' ⟨rfl, ⟨nd, rfl⟩⟩; refine ⟨_, rfl, ?_⟩; (try (rw [drewN_self wr]; generalize hq_ : World.drewN wr _ = wr; have n0_ : Aside0 (Kd.V (Kd.slice 2 (Kd.int .i64)) 22 wr w.heap.size (fun k_ => ((P0_0_ k_ ∨ P1_2_ k_) ∨ w.heap.size ≤ k_) ∧ some k_ ≠ (u254000 : Value).ownBlock ∧ some k_ ≠ (.slice Ao42 t256.length co42 : Value).ownBlock ∧ k_ ≠ gb250 ∧ k_ ≠ gb251 ∧ k_ ≠ gb252 ∧ k_ ≠ gb253) u251000 x251000_2) := ⟨by rw [← hq_]; exact (by (with_reducible repeat (first | apply Kd.V_alloc | apply Kd.V_drewN | apply Kd.V_drew)); exact HO_251000.out)⟩; have n1_ : Aside0 (Kd.V (Kd.int .i64) 2 wr w.heap.size (fun k_ => ((P0_0_ k_ ∨ P1_2_ k_) ∨ w.heap.size ≤ k_) ∧ some k_ ≠ (u254000 : Value).ownBlock ∧ some k_ ≠ (.slice Ao42 t256.length co42 : Value).ownBlock ∧ k_ ≠ gb250 ∧ k_ ≠ gb251 ∧ k_ ≠ gb252 ∧ k_ ≠ gb253) (.slice (some ad262) l1_2.length c1_2) l1_2) := ⟨by rw [← hq_]; exact (by (with_reducible repeat (first | apply Kd.V_alloc | apply Kd.V_drewN | apply Kd.V_drew)); exact HO_252002.out)⟩; have n2_ : Aside0 (Kd.N (Kd.slice 2 (Kd.int .i64)) 22 wr w.heap.size (fun k_ => ((P0_0_ k_ ∨ P1_2_ k_) ∨ w.heap.size ≤ k_) ∧ some k_ ≠ (.slice Ao42 t256.length co42 : Value).ownBlock ∧ k_ ≠ gb250 ∧ k_ ≠ gb251 ∧ k_ ≠ gb252 ∧ k_ ≠ gb253) u254000 x254000_2) := ⟨by rw [← hq_]; exact (by (with_reducible repeat (first | apply Kd.N_alloc | apply Kd.N_drewN | apply Kd.N_drew)); exact HO_254000.out)⟩; have n3_ : Aside0 (Kd.R (Kd.int .i64) 2 wr w.heap.size (fun k_ => (w.heap.size ≤ k_)) (.slice Ao42 t256.length co42) t256) := ⟨by rw [← hq_]; exact (by (with_reducible repeat (first | apply Kd.R_alloc | apply Kd.R_drewN | apply Kd.R_drew)); exact HO_254001.out)⟩; have n4_ : Aside0 (Kd.V (Kd.int .i64) 2 wr w.heap.size (fun k_ => ((P0_0_ k_ ∨ P1_2_ k_) ∨ w.heap.size ≤ k_) ∧ some k_ ≠ (u254000 : Value).ownBlock ∧ some k_ ≠ (.slice Ao42 t256.length co42 : Value).ownBlock ∧ k_ ≠ gb250 ∧ k_ ≠ gb251 ∧ k_ ≠ gb252 ∧ k_ ≠ gb253) (.slice (some ad262) l1_2.length c1_2) l1_2) := ⟨by rw [← hq_]; exact (by (with_reducible repeat (first | apply Kd.V_alloc | apply Kd.V_drewN | apply Kd.V_drew)); exact HO_30.out)⟩; have n5_ : Aside0 (wr.heap[gb250]? = some (.cells #[u251000] 44 (0, 0))) := ⟨by rw [← hq_]; exact (by (with_reducible repeat (first | refine blk_drewN ?_ _ | refine blk_drew ?_ | refine blk_alloc ?_ _)); exact BK250.out)⟩; have n6_ : Aside0 (wr.heap[gb251]? = some (.cells #[.int .i64 a1_0, .int .i64 a1_1, .slice (some ad262) l1_2.length c1_2] 27 (0, 0))) := ⟨by rw [← hq_]; exact (by (with_reducible repeat (first | refine blk_drewN ?_ _ | refine blk_drew ?_ | refine blk_alloc ?_ _)); exact BK251.out)⟩; have n7_ : Aside0 (wr.heap[gb252]? = some (.cells #[.slice none 0 0, .slice none 0 0, .bool x253002_2, .bool x253003_2] 92 (0, 0))) := ⟨by rw [← hq_]; exact (by (with_reducible repeat (first | refine blk_drewN ?_ _ | refine blk_drew ?_ | refine blk_alloc ?_ _)); exact BK252.out)⟩; have n8_ : Aside0 (wr.heap[gb253]? = some (.cells #[u254000, .slice Ao42 t256.length co42, .bool true, .bool false] 92 (0, 0))) := ⟨by rw [← hq_]; exact (by (with_reducible repeat (first | refine blk_drewN ?_ _ | refine blk_drew ?_ | refine blk_alloc ?_ _)); exact BK253.out)⟩; have n9_ : Aside0 (Below w.heap.size w wr) := ⟨by rw [← hq_]; exact (by repeat (first | (with_reducible first | exact HB.out | apply below_alloc | apply pw_below_drewN | apply below_drew1 | refine below_set ?_ GE250.out | refine below_set ?_ GE251.out | refine below_set ?_ GE252.out | refine below_set ?_ GE253.out) | exact HB.out))⟩; clear HO_251000 HO_252002 HO_254000 HO_254001 HO_30 BK250 BK251 BK252 BK253 HB hq_; have HO_251000 := n0_; have HO_252002 := n1_; have HO_254000 := n2_; have HO_254001 := n3_; have HO_30 := n4_; have BK250 := n5_; have BK251 := n6_; have BK252 := n7_; have BK253 := n8_; have HB := n9_; clear n0_ n1_ n2_ n3_ n4_ n5_ n6_ n7_ n8_ n9_; (try replace hcz91_0 := (blk_cell BK253.out 0).trans (rfl : _ = some _)); (try replace hcz91_1 := (blk_cell BK253.out 1).trans (rfl : _ = some _)); (try replace hcz91_2 := (blk_cell BK253.out 2).trans (rfl : _ = some _)); (try replace hcz91_3 := (blk_cell BK253.out 3).trans (rfl : _ = some _)); (try replace hfz91_0 := blk_frozen BK253.out 0); (try replace hfz91_1 := blk_frozen BK253.out 1); (try replace hfz91_2 := blk_frozen BK253.out 2); (try replace hfz91_3 := blk_frozen BK253.out 3))); obtain ⟨Ao92, co92, eo92⟩ := Kd.N_slice HO_254000.out; subst eo92; have p264 : 0 ≤ (t263 : Int) := of_decide_eq_true (by first | (with_reducible assumption) | assumption); have q264 : t263 < (x254000_2.length : Int) := of_decide_eq_true (by first | (with_reducible assumption) | assumption); obtain ⟨ad264, A264_0, c264_0, e264, hx264_0, hl264_0, hi264_0⟩ := at_L1 (Kd.N_reads' HO_254000.out).2.2 t263 p264 q264; cases e264; obtain ⟨ce264, hce264, hMe264, hcc264⟩ := Kd.N_get HO_254000.out [] t263 p264 (by first | exact q264 | exact of_decide_eq_true (by first | (with_reducible assumption) | assumption) | (have e_ := (Kd.N_reads' HO_254000.out).1; omega)); obtain ⟨ua264_0, uc264_0, rfl, ul264_0, ge264_0⟩ := Kd.FK_slice_open hMe264; have hv264_0 := hcc264 0 _ rfl; rw [Nat.add_zero, show ((Kd.slice 2 (Kd.int .i64))).sz = 1 from rfl, Nat.mul_one] at hv264_0; replace hv264_0 := Option.some.inj (hv264_0.symm.trans hx264_0); injection hv264_0 with hva_ hvn_ hvc_; rw [hva_] at ge264_0; rw [hvc_] at ul264_0; have HL264_0 := Aside0.mk (show Kd.V (Kd.int .i64) 2 _ w.heap.size _ _ (rd_L1 x254000_2 t263) from Kd.V_mk ul264_0 ge264_0); clear hva_ hvn_ hvc_ ge264_0 ul264_0; clear hcc264 hce264; have HR264_0 := Aside0.mk hi264_0; have HC264_0 := Aside0.mk hl264_0; clear hi264_0 hl264_0; replace p264 := eq_true p264; replace q264 := eq_true q264) | ((with_reducible refine gate_callee (f := 122) rfl ?_); refine goesL_ (some 48) rfl rfl Try.func122 (by kernel_rfl) rfl #[.slice A264_0 (rd_L1 x254000_2 t263).length c264_0, .int .i64 (rd l1_2 x32_2)] rfl (by (try simp only [List.map_toArray, List.map_cons, List.map_nil]); first | done | rfl | (simp only [List.length_drop, List.length_take]; rfl)) ?_; (with_reducible refine (slices_Contains_int64_int64.calls k2 _ _ (rd_L1 x254000_2 t263) (rd l1_2 x32_2) true _ ?side1 ?side2 A58.out).mono ?_); (case side1 => repeat (first | exact (by repeat (first | (with_reducible exact HR264_0.out) | (with_reducible refine Kd.C_alloc ?_ _) | (with_reducible refine Kd.C_drewN ?_ _) | (with_reducible refine Kd.C_drew ?_) | exact HR264_0.out)) | (with_reducible refine Kd.C_alloc ?_ _) | (with_reducible refine Kd.C_drewN ?_ _) | (with_reducible refine Kd.C_drew ?_))); (case side2 => exact HC264_0.out); rintro e w' ⟨rfl, ⟨nd, rfl⟩⟩; refine ⟨_, rfl, ?_⟩; (try (rw [drewN_self wr]; generalize hq_ : World.drewN wr _ = wr; have n0_ : Aside0 (Kd.V (Kd.int .i64) 2 wr w.heap.size (fun k_ => ((P0_0_ k_ ∨ P1_2_ k_) ∨ w.heap.size ≤ k_) ∧ some k_ ≠ (.slice (some ad264) x254000_2.length co92 : Value).ownBlock ∧ some k_ ≠ (.slice Ao42 t256.length co42 : Value).ownBlock ∧ k_ ≠ gb250 ∧ k_ ≠ gb251 ∧ k_ ≠ gb252 ∧ k_ ≠ gb253) (.slice A264_0 (rd_L1 x254000_2 t263).length c264_0) (rd_L1 x254000_2 t263)) := ⟨by rw [← hq_]; exact (by (with_reducible repeat (first | apply Kd.V_alloc | apply Kd.V_drewN | apply Kd.V_drew)); exact Kd.V_mono HL264_0.out (fun _ hk => ⟨hk.1.1, ⟨hk.2, ⟨hk.1.2.1, ⟨hk.1.2.2.1, ⟨hk.1.2.2.2.1, ⟨hk.1.2.2.2.2.1, hk.1.2.2.2.2.2⟩⟩⟩⟩⟩⟩))⟩; have n1_ : Aside0 (Kd.V (Kd.slice 2 (Kd.int .i64)) 22 wr w.heap.size (fun k_ => ((P0_0_ k_ ∨ P1_2_ k_) ∨ w.heap.size ≤ k_) ∧ some k_ ≠ (.slice (some ad264) x254000_2.length co92 : Value).ownBlock ∧ some k_ ≠ (.slice Ao42 t256.length co42 : Value).ownBlock ∧ k_ ≠ gb250 ∧ k_ ≠ gb251 ∧ k_ ≠ gb252 ∧ k_ ≠ gb253) u251000 x251000_2) := ⟨by rw [← hq_]; exact (by (with_reducible repeat (first | apply Kd.V_alloc | apply Kd.V_drewN | apply Kd.V_drew)); exact HO_251000.out)⟩; have n2_ : Aside0 (Kd.V (Kd.int .i64) 2 wr w.heap.size (fun k_ => ((P0_0_ k_ ∨ P1_2_ k_) ∨ w.heap.size ≤ k_) ∧ some k_ ≠ (.slice (some ad264) x254000_2.length co92 : Value).ownBlock ∧ some k_ ≠ (.slice Ao42 t256.length co42 : Value).ownBlock ∧ k_ ≠ gb250 ∧ k_ ≠ gb251 ∧ k_ ≠ gb252 ∧ k_ ≠ gb253) (.slice (some ad262) l1_2.length c1_2) l1_2) := ⟨by rw [← hq_]; exact (by (with_reducible repeat (first | apply Kd.V_alloc | apply Kd.V_drewN | apply Kd.V_drew)); exact HO_252002.out)⟩; have n3_ : Aside0 (Kd.N (Kd.slice 2 (Kd.int .i64)) 22 wr w.heap.size (fun k_ => ((P0_0_ k_ ∨ P1_2_ k_) ∨ w.heap.size ≤ k_) ∧ some k_ ≠ (.slice Ao42 t256.length co42 : Value).ownBlock ∧ k_ ≠ gb250 ∧ k_ ≠ gb251 ∧ k_ ≠ gb252 ∧ k_ ≠ gb253) (.slice (some ad264) x254000_2.length co92) x254000_2) := ⟨by rw [← hq_]; exact (by (with_reducible repeat (first | apply Kd.N_alloc | apply Kd.N_drewN | apply Kd.N_drew)); exact HO_254000.out)⟩; have n4_ : Aside0 (Kd.R (Kd.int .i64) 2 wr w.heap.size (fun k_ => (w.heap.size ≤ k_)) (.slice Ao42 t256.length co42) t256) := ⟨by rw [← hq_]; exact (by (with_reducible repeat (first | apply Kd.R_alloc | apply Kd.R_drewN | apply Kd.R_drew)); exact HO_254001.out)⟩; have n5_ : Aside0 (Kd.V (Kd.int .i64) 2 wr w.heap.size (fun k_ => ((P0_0_ k_ ∨ P1_2_ k_) ∨ w.heap.size ≤ k_) ∧ some k_ ≠ (.slice (some ad264) x254000_2.length co92 : Value).ownBlock ∧ some k_ ≠ (.slice Ao42 t256.length co42 : Value).ownBlock ∧ k_ ≠ gb250 ∧ k_ ≠ gb251 ∧ k_ ≠ gb252 ∧ k_ ≠ gb253) (.slice (some ad262) l1_2.length c1_2) l1_2) := ⟨by rw [← hq_]; exact (by (with_reducible repeat (first | apply Kd.V_alloc | apply Kd.V_drewN | apply Kd.V_drew)); exact HO_30.out)⟩; have n6_ : Aside0 (wr.heap[gb250]? = some (.cells #[u251000] 44 (0, 0))) := ⟨by rw [← hq_]; exact (by (with_reducible repeat (first | refine blk_drewN ?_ _ | refine blk_drew ?_ | refine blk_alloc ?_ _)); exact BK250.out)⟩; have n7_ : Aside0 (wr.heap[gb251]? = some (.cells #[.int .i64 a1_0, .int .i64 a1_1, .slice (some ad262) l1_2.length c1_2] 27 (0, 0))) := ⟨by rw [← hq_]; exact (by (with_reducible repeat (first | refine blk_drewN ?_ _ | refine blk_drew ?_ | refine blk_alloc ?_ _)); exact BK251.out)⟩; have n8_ : Aside0 (wr.heap[gb252]? = some (.cells #[.slice none 0 0, .slice none 0 0, .bool x253002_2, .bool x253003_2] 92 (0, 0))) := ⟨by rw [← hq_]; exact (by (with_reducible repeat (first | refine blk_drewN ?_ _ | refine blk_drew ?_ | refine blk_alloc ?_ _)); exact BK252.out)⟩; have n9_ : Aside0 (wr.heap[gb253]? = some (.cells #[.slice (some ad264) x254000_2.length co92, .slice Ao42 t256.length co42, .bool true, .bool false] 92 (0, 0))) := ⟨by rw [← hq_]; exact (by (with_reducible repeat (first | refine blk_drewN ?_ _ | refine blk_drew ?_ | refine blk_alloc ?_ _)); exact BK253.out)⟩; have n10_ : Aside0 (Below w.heap.size w wr) := ⟨by rw [← hq_]; exact (by repeat (first | (with_reducible first | exact HB.out | apply below_alloc | apply pw_below_drewN | apply below_drew1 | refine below_set ?_ GE250.out | refine below_set ?_ GE251.out | refine below_set ?_ GE252.out | refine below_set ?_ GE253.out) | exact HB.out))⟩; have n11_ : Aside0 (Kd.C (Kd.int .i64) wr A264_0 (rd_L1 x254000_2 t263).length (rd_L1 x254000_2 t263)) := ⟨by rw [← hq_]; exact (by repeat (first | (with_reducible exact HR264_0.out) | (with_reducible refine Kd.C_alloc ?_ _) | (with_reducible refine Kd.C_drewN ?_ _) | (with_reducible refine Kd.C_drew ?_) | exact HR264_0.out))⟩; clear HL264_0 HO_251000 HO_252002 HO_254000 HO_254001 HO_30 BK250 BK251 BK252 BK253 HB HR264_0 hq_; have HL264_0 := n0_; have HO_251000 := n1_; have HO_252002 := n2_; have HO_254000 := n3_; have HO_254001 := n4_; have HO_30 := n5_; have BK250 := n6_; have BK251 := n7_; have BK252 := n8_; have BK253 := n9_; have HB := n10_; have HR264_0 := n11_; clear n0_ n1_ n2_ n3_ n4_ n5_ n6_ n7_ n8_ n9_ n10_ n11_; (try replace hcz91_0 := (blk_cell BK253.out 0).trans (rfl : _ = some _)); (try replace hcz91_1 := (blk_cell BK253.out 1).trans (rfl : _ = some _)); (try replace hcz91_2 := (blk_cell BK253.out 2).trans (rfl : _ = some _)); (try replace hcz91_3 := (blk_cell BK253.out 3).trans (rfl : _ = some _)); (try replace hfz91_0 := blk_frozen BK253.out 0); (try replace hfz91_1 := blk_frozen BK253.out 1); (try replace hfz91_2 := blk_frozen BK253.out 2); (try replace hfz91_3 := blk_frozen BK253.out 3)))))
             have n0_ : Aside0 (Kd.V (Kd.int .i64) 2 (wr.setCell ⟨gb253, 3, none⟩ (.bool false)) w.heap.size (fun k_ => ((P0_0_ k_ ∨ P1_2_ k_) ∨ w.heap.size ≤ k_) ∧ some k_ ≠ (.slice (some ad264) x254000_2.length co92 : Value).ownBlock ∧ some k_ ≠ (.slice Ao42 t256.length co42 : Value).ownBlock ∧ k_ ≠ gb250 ∧ k_ ≠ gb251 ∧ k_ ≠ gb252 ∧ k_ ≠ gb253) (.slice (some ad262) l1_2.length c1_2) l1_2) := ⟨by (with_reducible repeat (first | apply Kd.V_alloc | apply Kd.V_drewN | apply Kd.V_drew)); exact Kd.V_mono (Kd.V_far (p := ⟨gb253, 3, none⟩) (Kd.V_mono HO_30.out (fun k_ hk => (⟨hk, hk.2.2.2.2.2.2⟩ : _ ∧ k_ ≠ gb253))) (fun _ hk => hk.2) (.bool false)) (fun _ hk => ⟨hk.1.1, ⟨hk.1.2.1, ⟨hk.1.2.2.1, ⟨hk.1.2.2.2.1, ⟨hk.1.2.2.2.2.1, ⟨hk.1.2.2.2.2.2.1, hk.1.2.2.2.2.2.2⟩⟩⟩⟩⟩⟩)⟩
             have n1_ : Aside0 (Kd.V (Kd.slice 2 (Kd.int .i64)) 22 (wr.setCell ⟨gb253, 3, none⟩ (.bool false)) w.heap.size (fun k_ => ((P0_0_ k_ ∨ P1_2_ k_) ∨ w.heap.size ≤ k_) ∧ some k_ ≠ (.slice (some ad264) x254000_2.length co92 : Value).ownBlock ∧ some k_ ≠ (.slice Ao42 t256.length co42 : Value).ownBlock ∧ k_ ≠ gb250 ∧ k_ ≠ gb251 ∧ k_ ≠ gb252 ∧ k_ ≠ gb253) u251000 x251000_2) := ⟨by (with_reducible repeat (first | apply Kd.V_alloc | apply Kd.V_drewN | apply Kd.V_drew)); exact Kd.V_mono (Kd.V_far (p := ⟨gb253, 3, none⟩) (Kd.V_mono HO_251000.out (fun k_ hk => (⟨hk, hk.2.2.2.2.2.2⟩ : _ ∧ k_ ≠ gb253))) (fun _ hk => hk.2) (.bool false)) (fun _ hk => ⟨hk.1.1, ⟨hk.1.2.1, ⟨hk.1.2.2.1, ⟨hk.1.2.2.2.1, ⟨hk.1.2.2.2.2.1, ⟨hk.1.2.2.2.2.2.1, hk.1.2.2.2.2.2.2⟩⟩⟩⟩⟩⟩)⟩
             have n2_ : Aside0 (Kd.V (Kd.int .i64) 2 (wr.setCell ⟨gb253, 3, none⟩ (.bool false)) w.heap.size (fun k_ => ((P0_0_ k_ ∨ P1_2_ k_) ∨ w.heap.size ≤ k_) ∧ some k_ ≠ (.slice (some ad264) x254000_2.length co92 : Value).ownBlock ∧ some k_ ≠ (.slice Ao42 t256.length co42 : Value).ownBlock ∧ k_ ≠ gb250 ∧ k_ ≠ gb251 ∧ k_ ≠ gb252 ∧ k_ ≠ gb253) (.slice (some ad262) l1_2.length c1_2) l1_2) := ⟨by (with_reducible repeat (first | apply Kd.V_alloc | apply Kd.V_drewN | apply Kd.V_drew)); exact Kd.V_mono (Kd.V_far (p := ⟨gb253, 3, none⟩) (Kd.V_mono HO_252002.out (fun k_ hk => (⟨hk, hk.2.2.2.2.2.2⟩ : _ ∧ k_ ≠ gb253))) (fun _ hk => hk.2) (.bool false)) (fun _ hk => ⟨hk.1.1, ⟨hk.1.2.1, ⟨hk.1.2.2.1, ⟨hk.1.2.2.2.1, ⟨hk.1.2.2.2.2.1, ⟨hk.1.2.2.2.2.2.1, hk.1.2.2.2.2.2.2⟩⟩⟩⟩⟩⟩)⟩
             have n3_ : Aside0 (Kd.N (Kd.slice 2 (Kd.int .i64)) 22 (wr.setCell ⟨gb253, 3, none⟩ (.bool false)) w.heap.size (fun k_ => ((P0_0_ k_ ∨ P1_2_ k_) ∨ w.heap.size ≤ k_) ∧ some k_ ≠ (.slice Ao42 t256.length co42 : Value).ownBlock ∧ k_ ≠ gb250 ∧ k_ ≠ gb251 ∧ k_ ≠ gb252 ∧ k_ ≠ gb253) (.slice (some ad264) x254000_2.length co92) x254000_2) := ⟨by (with_reducible repeat (first | apply Kd.N_alloc | apply Kd.N_drewN | apply Kd.N_drew)); exact Kd.N_mono (Kd.N_far (p := ⟨gb253, 3, none⟩) (Kd.N_mono HO_254000.out (fun k_ hk => (⟨hk, hk.2.2.2.2.2⟩ : _ ∧ k_ ≠ gb253))) (fun _ hk => hk.2) (.bool false)) (fun _ hk => ⟨hk.1.1, ⟨hk.1.2.1, ⟨hk.1.2.2.1, ⟨hk.1.2.2.2.1, ⟨hk.1.2.2.2.2.1, hk.1.2.2.2.2.2⟩⟩⟩⟩⟩)⟩
             have n4_ : Aside0 (Kd.R (Kd.int .i64) 2 (wr.setCell ⟨gb253, 3, none⟩ (.bool false)) w.heap.size (fun k_ => (w.heap.size ≤ k_)) (.slice Ao42 t256.length co42) t256) := ⟨by (with_reducible repeat (first | apply Kd.R_alloc | apply Kd.R_drewN | apply Kd.R_drew)); exact Kd.R_mono (Kd.R_far (p := ⟨gb253, 3, none⟩) (Kd.R_types HO_254001.out BK253.out (by decide)) (fun _ hk => hk.2) (.bool false)) (fun _ hk => hk.1)⟩
             have n5_ : Aside0 (Kd.V (Kd.int .i64) 2 (wr.setCell ⟨gb253, 3, none⟩ (.bool false)) w.heap.size (fun k_ => ((P0_0_ k_ ∨ P1_2_ k_) ∨ w.heap.size ≤ k_) ∧ some k_ ≠ (.slice (some ad264) x254000_2.length co92 : Value).ownBlock ∧ some k_ ≠ (.slice Ao42 t256.length co42 : Value).ownBlock ∧ k_ ≠ gb250 ∧ k_ ≠ gb251 ∧ k_ ≠ gb252 ∧ k_ ≠ gb253) (.slice A264_0 (rd_L1 x254000_2 t263).length c264_0) (rd_L1 x254000_2 t263)) := ⟨by (with_reducible repeat (first | apply Kd.V_alloc | apply Kd.V_drewN | apply Kd.V_drew)); exact Kd.V_mono (Kd.V_far (p := ⟨gb253, 3, none⟩) (Kd.V_mono HL264_0.out (fun k_ hk => (⟨hk, hk.2.2.2.2.2.2⟩ : _ ∧ k_ ≠ gb253))) (fun _ hk => hk.2) (.bool false)) (fun _ hk => ⟨hk.1.1, ⟨hk.1.2.1, ⟨hk.1.2.2.1, ⟨hk.1.2.2.2.1, ⟨hk.1.2.2.2.2.1, ⟨hk.1.2.2.2.2.2.1, hk.1.2.2.2.2.2.2⟩⟩⟩⟩⟩⟩)⟩
             have n6_ : Aside0 ((wr.setCell ⟨gb253, 3, none⟩ (.bool false)).heap[gb250]? = some (.cells #[u251000] 44 (0, 0))) := ⟨by (with_reducible repeat (first | refine blk_drewN ?_ _ | refine blk_drew ?_ | refine blk_alloc ?_ _)); refine blk_far ?_ NB250_253.out _; (with_reducible repeat (first | refine blk_drewN ?_ _ | refine blk_drew ?_ | refine blk_alloc ?_ _)); exact BK250.out⟩
             have n7_ : Aside0 ((wr.setCell ⟨gb253, 3, none⟩ (.bool false)).heap[gb251]? = some (.cells #[.int .i64 a1_0, .int .i64 a1_1, .slice (some ad262) l1_2.length c1_2] 27 (0, 0))) := ⟨by (with_reducible repeat (first | refine blk_drewN ?_ _ | refine blk_drew ?_ | refine blk_alloc ?_ _)); refine blk_far ?_ NB251_253.out _; (with_reducible repeat (first | refine blk_drewN ?_ _ | refine blk_drew ?_ | refine blk_alloc ?_ _)); exact BK251.out⟩
             have n8_ : Aside0 ((wr.setCell ⟨gb253, 3, none⟩ (.bool false)).heap[gb252]? = some (.cells #[.slice none 0 0, .slice none 0 0, .bool x253002_2, .bool x253003_2] 92 (0, 0))) := ⟨by (with_reducible repeat (first | refine blk_drewN ?_ _ | refine blk_drew ?_ | refine blk_alloc ?_ _)); refine blk_far ?_ NB252_253.out _; (with_reducible repeat (first | refine blk_drewN ?_ _ | refine blk_drew ?_ | refine blk_alloc ?_ _)); exact BK252.out⟩
             have n9_ : Aside0 ((wr.setCell ⟨gb253, 3, none⟩ (.bool false)).heap[gb253]? = some (.cells #[.slice (some ad264) x254000_2.length co92, .slice Ao42 t256.length co42, .bool true, .bool false] 92 (0, 0))) := ⟨by (with_reducible repeat (first | refine blk_drewN ?_ _ | refine blk_drew ?_ | refine blk_alloc ?_ _)); refine blk_put (cs := #[.slice (some ad264) x254000_2.length co92, .slice Ao42 t256.length co42, .bool true, .bool false]) ?_ 3 _ rfl; (with_reducible repeat (first | refine blk_drewN ?_ _ | refine blk_drew ?_ | refine blk_alloc ?_ _)); exact BK253.out⟩
             have n10_ : Aside0 (Below w.heap.size w (wr.setCell ⟨gb253, 3, none⟩ (.bool false))) := ⟨by repeat (first | (with_reducible first | exact HB.out | apply below_alloc | apply pw_below_drewN | apply below_drew1 | refine below_set ?_ GE250.out | refine below_set ?_ GE251.out | refine below_set ?_ GE252.out | refine below_set ?_ GE253.out) | exact HB.out)⟩
             (try clear HO_30)
             (try clear HO_251000)
             (try clear HO_252002)
             (try clear HO_254000)
             (try clear HO_254001)
             (try clear HL264_0)
             (try clear BK250)
             (try clear BK251)
             (try clear BK252)
             (try clear BK253)
             (try clear HB)
             generalize (wr.setCell ⟨gb253, 3, none⟩ (.bool false)) = w93 at n0_ n1_ n2_ n3_ n4_ n5_ n6_ n7_ n8_ n9_ n10_ ⊢
             have HO_30 := n0_
             have HO_251000 := n1_
             have HO_252002 := n2_
             have HO_254000 := n3_
             have HO_254001 := n4_
             have HL264_0 := n5_
             have BK250 := n6_
             have BK251 := n7_
             have BK252 := n8_
             have BK253 := n9_
             have HB := n10_
             clear n0_ n1_ n2_ n3_ n4_ n5_ n6_ n7_ n8_ n9_ n10_
             have n0_ := Aside0.mk (Kd.V_drew HO_30.out)
             have n1_ := Aside0.mk (Kd.V_drew HO_251000.out)
             have n2_ := Aside0.mk (Kd.V_drew HO_252002.out)
             have n3_ := Aside0.mk (Kd.N_drew HO_254000.out)
             have n4_ := Aside0.mk (Kd.R_drew HO_254001.out)
             have n5_ := Aside0.mk (Kd.V_drew HL264_0.out)
             have n6_ := Aside0.mk (blk_drew BK250.out)
             have n7_ := Aside0.mk (blk_drew BK251.out)
             have n8_ := Aside0.mk (blk_drew BK252.out)
             have n9_ := Aside0.mk (blk_drew BK253.out)
             have n10_ := Aside0.mk (below_drew1 HB.out)
             clear HO_30
             clear HO_251000
             clear HO_252002
             clear HO_254000
             clear HO_254001
             clear HL264_0
             clear BK250
             clear BK251
             clear BK252
             clear BK253
             clear HB
             have HO_30 := n0_
             have HO_251000 := n1_
             have HO_252002 := n2_
             have HO_254000 := n3_
             have HO_254001 := n4_
             have HL264_0 := n5_
             have BK250 := n6_
             have BK251 := n7_
             have BK252 := n8_
             have BK253 := n9_
             have HB := n10_
             clear n0_ n1_ n2_ n3_ n4_ n5_ n6_ n7_ n8_ n9_ n10_
             refine start_ (n := 8) (S := fun w' => w'.cell? ⟨gb253, 0, none⟩ = some (.slice (some ad264) x254000_2.length co92) ∧ w'.cell? ⟨gb253, 1, none⟩ = some (.slice Ao42 t256.length co42) ∧ w'.cell? ⟨gb253, 2, none⟩ = some (.bool true) ∧ w'.cell? ⟨gb253, 3, none⟩ = some (.bool false)) (ds := [7]) #[false, false, false, false, false, false, false, false] (by kernel_rfl) rfl rfl ⟨(blk_cell BK253.out 0).trans rfl, (blk_cell BK253.out 1).trans rfl, (blk_cell BK253.out 2).trans rfl, (blk_cell BK253.out 3).trans rfl⟩ (fun hHeld => ?_); refine with_tabW impl_recordOf.tab13 impl_recordOf.bits13 (fun HT_ HW_ => ?_)
             generalize w93.drew = w94 at HO_30 HO_251000 HO_252002 HO_254000 HO_254001 HL264_0 BK250 BK251 BK252 BK253 HB hHeld ⊢
             refine pure_ (i := 0) (N := some 65) (v := ?_) (a' := ?_) #[true, false, false, false, false, false, false, false] rfl rfl (any_of HT_.out (by kernel_rfl)) (fun _ _ _ h => h) (Or.inl ⟨by rfl, ?_⟩) ?_ ?_
             rotate_left
             ·intro w'
              go_simp
              with_reducible rfl
             rotate_left
             ·simp only [Act.put, List.setIfInBounds_toArray, List.set_cons_zero, List.set_cons_succ, i64_w, i32_w]
              rfl
             refine pure_ (i := 2) (N := some 67) (v := ?_) (a' := ?_) #[true, false, true, false, false, false, false, false] rfl rfl (any_of HT_.out (by kernel_rfl)) (fun _ _ _ h => h) (Or.inl ⟨by rfl, ?_⟩) ?_ ?_
             rotate_left
             ·intro w'
              go_simp
              with_reducible rfl
             rotate_left
             ·simp only [Act.put, List.setIfInBounds_toArray, List.set_cons_zero, List.set_cons_succ, i64_w, i32_w]
              rfl
             refine pure_ (i := 3) (N := some 68) (v := ?_) (a' := ?_) #[true, false, true, true, false, false, false, false] rfl rfl (any_of HT_.out (by kernel_rfl)) (fun _ _ _ h => h) (Or.inl ⟨by rfl, ?_⟩) ?_ ?_
             rotate_left
             ·intro w'
              go_simp
              with_reducible rfl
             rotate_left
             ·simp only [Act.put, List.setIfInBounds_toArray, List.set_cons_zero, List.set_cons_succ, i64_w, i32_w]
              rfl
             refine pure_ (i := 4) (N := some 69) (v := ?_) (a' := ?_) #[true, false, true, true, true, false, false, false] rfl rfl (any_of HT_.out (by kernel_rfl)) (fun _ _ _ h => h) (Or.inl ⟨by rfl, ?_⟩) ?_ ?_
             rotate_left
             ·intro w'
              go_simp
              with_reducible rfl
             rotate_left
             ·simp only [Act.put, List.setIfInBounds_toArray, List.set_cons_zero, List.set_cons_succ, i64_w, i32_w]
              rfl
             refine take_ (i := 1) (N := some 66) (v := ?_) (a' := ?_) #[true, true, true, true, true, false, false, false] rfl rfl (take_ofW HT_.out HW_.out (by kernel_rfl)) (fun _ _ _ h => h) (Or.inl ⟨by rfl, ?_⟩) hHeld ?_ ?_
             rotate_left
             ·rintro w' ⟨s0, s1, s2, s3⟩
              go_simp
              with_reducible rfl
             rotate_left
             ·simp only [Act.put, List.setIfInBounds_toArray, List.set_cons_zero, List.set_cons_succ, i64_w, i32_w]
              rfl
             refine one_ (i := 5) (N := some 70) #[true, true, true, true, true, true, false, false] rfl rfl (one_of HT_.out (by kernel_rfl)) (by decide) (fun K hK => ?_)
             refine goes_ Try.func145 (by kernel_rfl) rfl #[.slice A264_0 (rd_L1 x254000_2 t263).length c264_0, .int .i64 (rd l1_2 x32_2)] (by rfl) rfl rfl (by (try simp only [List.map_toArray, List.map_cons, List.map_nil]); first | done | rfl | (simp only [List.length_drop, List.length_take]; rfl)) ?_
             with_reducible refine (impl_without.calls _ _ (rd_L1 x254000_2 t263) (rd l1_2 x32_2) t282 _ ?side1 ?side2 A86.out).mono ?_
             (case side1 => repeat (first | exact ((Kd.V_reads' (by (with_reducible repeat (first | apply Kd.V_alloc | apply Kd.V_drewN | apply Kd.V_drew)); exact HL264_0.out)).2.2) | (with_reducible refine Kd.C_alloc ?_ _) | (with_reducible refine Kd.C_drewN ?_ _) | (with_reducible refine Kd.C_drew ?_)))
             (case side2 => exact HC264_0.out)
             rintro e w95 ⟨v283, rfl, ho0, hb⟩
             refine ⟨_, rfl, ?_⟩
             have n0_ := Aside0.mk (Kd.V_elder' (by (with_reducible repeat (first | apply Kd.V_alloc | apply Kd.V_drewN | apply Kd.V_drew)); exact HO_30.out) (Kd.R_base ho0) hb)
             have n1_ := Aside0.mk (Kd.V_elder' (by (with_reducible repeat (first | apply Kd.V_alloc | apply Kd.V_drewN | apply Kd.V_drew)); exact HO_251000.out) (Kd.R_base ho0) hb)
             have n2_ := Aside0.mk (Kd.V_elder' (by (with_reducible repeat (first | apply Kd.V_alloc | apply Kd.V_drewN | apply Kd.V_drew)); exact HO_252002.out) (Kd.R_base ho0) hb)
             have n3_ := Aside0.mk (Kd.N_elder' (by (with_reducible repeat (first | apply Kd.N_alloc | apply Kd.N_drewN | apply Kd.N_drew)); exact HO_254000.out) (Kd.R_base ho0) hb)
             have n4_ := Aside0.mk (Kd.R_elder' (by (with_reducible repeat (first | apply Kd.R_alloc | apply Kd.R_drewN | apply Kd.R_drew)); exact HO_254001.out) (Kd.R_base ho0) hb)
             have n5_ := Aside0.mk (Kd.V_elder' (by (with_reducible repeat (first | apply Kd.V_alloc | apply Kd.V_drewN | apply Kd.V_drew)); exact HL264_0.out) (Kd.R_base ho0) hb)
             have n6_ := Aside0.mk (Kd.R_lower (Kd.R_new' (Kd.R_newM (M := fun k_ => (w.heap.size ≤ k_)) ho0 (below_size (by repeat (first | (with_reducible first | exact HB.out | apply below_alloc | apply pw_below_drewN | apply below_drew1 | refine below_set ?_ GE250.out | refine below_set ?_ GE251.out | refine below_set ?_ GE252.out | refine below_set ?_ GE253.out) | exact HB.out))) (fun k_ h_ => h_)) (Kd.R_lt (by (with_reducible repeat (first | apply Kd.R_alloc | apply Kd.R_drewN | apply Kd.R_drew)); exact HO_254001.out))) (below_size (by repeat (first | (with_reducible first | exact HB.out | apply below_alloc | apply pw_below_drewN | apply below_drew1 | refine below_set ?_ GE250.out | refine below_set ?_ GE251.out | refine below_set ?_ GE252.out | refine below_set ?_ GE253.out) | exact HB.out))))
             have n7_ := Aside0.mk (blk_below (g := gb250) (o := .cells #[u251000] 44 (0, 0)) (by (with_reducible repeat (first | refine blk_drewN ?_ _ | refine blk_drew ?_ | refine blk_alloc ?_ _)); exact BK250.out) hb)
             have n8_ := Aside0.mk (blk_below (g := gb251) (o := .cells #[.int .i64 a1_0, .int .i64 a1_1, .slice (some ad262) l1_2.length c1_2] 27 (0, 0)) (by (with_reducible repeat (first | refine blk_drewN ?_ _ | refine blk_drew ?_ | refine blk_alloc ?_ _)); exact BK251.out) hb)
             have n9_ := Aside0.mk (blk_below (g := gb252) (o := .cells #[.slice none 0 0, .slice none 0 0, .bool x253002_2, .bool x253003_2] 92 (0, 0)) (by (with_reducible repeat (first | refine blk_drewN ?_ _ | refine blk_drew ?_ | refine blk_alloc ?_ _)); exact BK252.out) hb)
             have n10_ := Aside0.mk (blk_below (g := gb253) (o := .cells #[.slice (some ad264) x254000_2.length co92, .slice Ao42 t256.length co42, .bool true, .bool false] 92 (0, 0)) (by (with_reducible repeat (first | refine blk_drewN ?_ _ | refine blk_drew ?_ | refine blk_alloc ?_ _)); exact BK253.out) hb)
             have n11_ := Aside0.mk (below_step (by repeat (first | (with_reducible first | exact HB.out | apply below_alloc | apply pw_below_drewN | apply below_drew1 | refine below_set ?_ GE250.out | refine below_set ?_ GE251.out | refine below_set ?_ GE252.out | refine below_set ?_ GE253.out) | exact HB.out)) hb)
             clear HO_30
             clear HO_251000
             clear HO_252002
             clear HO_254000
             clear HO_254001
             clear HL264_0
             clear BK250
             clear BK251
             clear BK252
             clear BK253
             clear HB
             have HO_30 := n0_
             have HO_251000 := n1_
             have HO_252002 := n2_
             have HO_254000 := n3_
             have HO_254001 := n4_
             have HL264_0 := n5_
             have HO284 := n6_
             have BK250 := n7_
             have BK251 := n8_
             have BK252 := n9_
             have BK253 := n10_
             have HB := n11_
             clear n0_ n1_ n2_ n3_ n4_ n5_ n6_ n7_ n8_ n9_ n10_ n11_
             (try clear hb)
             (try clear hb2)
             (try clear hk)
             (try clear hi)
             (try clear ho0)
             have p87 : 0 ≤ (t263 : Int) := of_decide_eq_true (by first | (with_reducible assumption) | assumption)
             have q87 : (t263 : Int) < ((x254000_2.length : Int) : Int) := of_decide_eq_true (by first | (with_reducible assumption) | assumption)
             obtain ⟨go87, co87, eo87, gb87, gl87, cl87, HG87⟩ := Kd.N_form HO_254000.out (by omega)
             (first | cases eo87 | (injection eo87 with ea_ en_ ec_; (first | subst ea_ | (injection ea_ with ea_; subst ea_)); subst ec_; clear en_))
             have GB87 := Aside0.mk gb87
             have GG87 := Aside0.mk HG87
             clear gb87 gl87 HG87
             (first | simp only [add_plain] at hx264_0 | skip)
             obtain ⟨ce87, hcl87, hM87, hcc87, hfr87⟩ := Kd.N_elem HO_254000.out [] (t263 : Int) p87 q87
             obtain ⟨ua87_0, uc87_0, rfl, ul87_0, ge87_0⟩ := Kd.FK_slice_open hM87
             have hx87_0 := hcc87 0 _ rfl
             have hf87_0 := hfr87 0
             (try simp only [show ((Kd.slice 2 (Kd.int .i64))).sz = 1 from rfl, Nat.mul_one, Nat.add_zero] at hx87_0)
             (try simp only [show ((Kd.slice 2 (Kd.int .i64))).sz = 1 from rfl, Nat.mul_one, Nat.add_zero] at hf87_0)
             (try clear hM87); clear hcl87 hcc87 hfr87
             replace p87 := eq_true p87
             replace q87 := eq_true q87
             have HX96 := Aside0.mk (show Kd.N (Kd.slice 2 (Kd.int .i64)) 22 _ w.heap.size (fun k_ => ((P0_0_ k_ ∨ P1_2_ k_) ∨ w.heap.size ≤ k_) ∧ some k_ ≠ (.slice Ao42 t256.length co42 : Value).ownBlock ∧ some k_ ≠ (v283 : Value).ownBlock ∧ k_ ≠ gb250 ∧ k_ ≠ gb251 ∧ k_ ≠ gb252 ∧ k_ ≠ gb253) (.slice (some ⟨go87, 0, none⟩) x254000_2.length co92) x254000_2 from (Kd.N_mono (HO_254000.out) (fun k_ hk => ⟨hk.1.1, ⟨hk.1.2.1, ⟨hk.2, ⟨hk.1.2.2.1, ⟨hk.1.2.2.2.1, ⟨hk.1.2.2.2.2.1, hk.1.2.2.2.2.2⟩⟩⟩⟩⟩⟩)))
             replace HX96 := Aside0.mk (show Kd.N (Kd.slice 2 (Kd.int .i64)) 22 _ w.heap.size (fun k_ => ((P0_0_ k_ ∨ P1_2_ k_) ∨ w.heap.size ≤ k_) ∧ some k_ ≠ (.slice Ao42 t256.length co42 : Value).ownBlock ∧ k_ ≠ gb250 ∧ k_ ≠ gb251 ∧ k_ ≠ gb252 ∧ k_ ≠ gb253) (.slice (some ⟨go87, 0, none⟩) x254000_2.length co92) x254000_2 from Kd.N_mono HX96.out (fun k_ hk => ⟨hk.1, ⟨hk.2.1, ⟨hk.2.2.2.1, ⟨hk.2.2.2.2.1, ⟨hk.2.2.2.2.2.1, hk.2.2.2.2.2.2⟩⟩⟩⟩⟩))
             obtain ⟨ce96, hcl96, hM96, hcc96, hfr96⟩ := Kd.N_elem HX96.out [] (t263 : Int) (of_decide_eq_true (by first | (with_reducible assumption) | assumption)) (by have h_ : (t263 : Int) < ((x254000_2.length : Int) : Int) := of_decide_eq_true (by first | (with_reducible assumption) | assumption); first | exact h_ | (have e_ := (Kd.N_reads' HO_254000.out).1; omega) | simpa using h_)
             obtain ⟨ua96_0, uc96_0, rfl, ul96_0, ge96_0⟩ := Kd.FK_slice_open hM96
             have HP96 := (Kd.N_seg HX96.out (t263 : Int) (of_decide_eq_true (by first | (with_reducible assumption) | assumption)) (by have h_ : (t263 : Int) < ((x254000_2.length : Int) : Int) := of_decide_eq_true (by first | (with_reducible assumption) | assumption); first | exact h_ | (have e_ := (Kd.N_reads' HO_254000.out).1; omega) | simpa using h_) (seg := [v283]) (j := 0) hcl96 hcc96 (show 1 ≤ 1 from by decide) (x' := t282) (Kd.FK_of_M (Kd.M_row (Kd.R_mono (ok' := (fun k_ => ((fun k_ => ((P0_0_ k_ ∨ P1_2_ k_) ∨ w.heap.size ≤ k_) ∧ some k_ ≠ (.slice Ao42 t256.length co42 : Value).ownBlock ∧ k_ ≠ gb250 ∧ k_ ≠ gb251 ∧ k_ ≠ gb252 ∧ k_ ≠ gb253)) k_ ∧ k_ ≠ go87)) (Kd.R_types (Kd.R_types (Kd.R_types (Kd.R_types (Kd.R_apart' (HO284.out) (Kd.N_typed HO_254000.out) (by decide)) BK250.out (by decide)) BK251.out (by decide)) BK252.out (by decide)) BK253.out (by decide)) (fun k_ hk => ⟨⟨(.inr (hk.1.1.1.1.1.1.1)), ⟨hk.1.1.1.1.1.2, ⟨hk.1.1.1.2, ⟨hk.1.1.2, ⟨hk.1.2, hk.2⟩⟩⟩⟩⟩, fun e_ => (hk.1.1.1.1.2) (by rw [e_]; rfl)⟩)))) (fun _ hk => hk)).1
             (try simp only [show ((Kd.slice 2 (Kd.int .i64))).sz = 1 from rfl, Nat.mul_one, Nat.add_zero] at HP96)
             rw [← Ny285.out] at HP96
             have HQ96 := Aside0.mk HP96
             (try clear hM96); clear hcl96 hcc96 hfr96 HP96
             refine hK.out _ _ ⟨(blk_cell BK253.out 0).trans rfl, (blk_cell BK253.out 1).trans rfl, (blk_cell BK253.out 2).trans rfl, (blk_cell BK253.out 3).trans rfl⟩ (fun hHeld => ?_)
             clear hK K
             refine norm_ (a' := ?_) ?_ ?_
             rotate_left
             ·show Act.put _ (some 70) _ = _
              simp only [Act.put, List.setIfInBounds_toArray, List.set_cons_zero, List.set_cons_succ, i64_w, i32_w]
              rfl
             refine pure_ (i := 6) (N := some 71) (v := ?_) (a' := ?_) #[true, true, true, true, true, true, true, false] rfl rfl (any_of HT_.out (by kernel_rfl)) (fun _ _ _ h => h) (Or.inl ⟨by rfl, ?_⟩) ?_ ?_
             rotate_left
             ·intro w'
              go_simp
              with_reducible rfl
             rotate_left
             ·simp only [Act.put, List.setIfInBounds_toArray, List.set_cons_zero, List.set_cons_succ, i64_w, i32_w]
              rfl
             refine last_ (i := 7) (N := none) #[true, true, true, true, true, true, true, true] rfl rfl (one_of HT_.out (by kernel_rfl)) (by decide) (fun K hK => ?_)
             refine skip_ (w1 := (w95.setCell ⟨go87, (t263 : Int).toNat, none⟩ (v283))) (by rfl) rfl ?_ ?_
             ·obtain ⟨Av_, cv_, ev_⟩ := Kd.R_slice HO284.out
              subst ev_
              go_simp
              try rfl
             refine hK.out _ _ ?_
             clear hK K
             refine done_ (done_of HT_.out (by kernel_rfl)) ?_
             try go_wp2
             go_roundg k2
             case measure => have := HJ2.out; have := HK2.out; omega
             case rel => exact ⟨(wrap64 (x32_2 + 1)), (x251000_2), (x253002_2), (x253003_2), (y285), (false), (u251000), (.slice (some ⟨go87, 0, none⟩) x254000_2.length co92), (by first | rfl | (simp; done) | (simp [*]; done)), H', ⟨by have := HJ2.out; have := HK2.out; omega⟩, ⟨by (with_reducible repeat (first | apply Kd.V_alloc | apply Kd.V_drewN | apply Kd.V_drew)); exact Kd.V_mono (Kd.V_far (p := ⟨go87, (t263 : Int).toNat, none⟩) (Kd.V_mono HO_30.out (fun k_ hk => (⟨hk, fun e_ => hk.1.2.1 (by rw [e_]; rfl)⟩ : _ ∧ k_ ≠ go87))) (fun _ hk => hk.2) (v283)) (fun _ hk => ⟨hk.1.1.1, ⟨hk.1.1.2.1, ⟨hk.1.1.2.2.1, ⟨hk.1.1.2.2.2.1, ⟨hk.1.1.2.2.2.2.1, ⟨hk.1.1.2.2.2.2.2.1, hk.1.1.2.2.2.2.2.2⟩⟩⟩⟩⟩⟩)⟩, ⟨by (with_reducible repeat (first | apply Kd.V_alloc | apply Kd.V_drewN | apply Kd.V_drew)); exact Kd.V_mono (Kd.V_far (p := ⟨go87, (t263 : Int).toNat, none⟩) (Kd.V_mono HO_251000.out (fun k_ hk => (⟨hk, fun e_ => hk.1.2.1 (by rw [e_]; rfl)⟩ : _ ∧ k_ ≠ go87))) (fun _ hk => hk.2) (v283)) (fun _ hk => ⟨hk.1.1.1, ⟨hk.1.1.2.1, ⟨hk.1.1.2.2.1, ⟨hk.1.1.2.2.2.1, ⟨hk.1.1.2.2.2.2.1, ⟨hk.1.1.2.2.2.2.2.1, hk.1.1.2.2.2.2.2.2⟩⟩⟩⟩⟩⟩)⟩, ⟨by (with_reducible repeat (first | apply Kd.V_alloc | apply Kd.V_drewN | apply Kd.V_drew)); exact Kd.V_mono (Kd.V_far (p := ⟨go87, (t263 : Int).toNat, none⟩) (Kd.V_mono HO_252002.out (fun k_ hk => (⟨hk, fun e_ => hk.1.2.1 (by rw [e_]; rfl)⟩ : _ ∧ k_ ≠ go87))) (fun _ hk => hk.2) (v283)) (fun _ hk => ⟨hk.1.1.1, ⟨hk.1.1.2.1, ⟨hk.1.1.2.2.1, ⟨hk.1.1.2.2.2.1, ⟨hk.1.1.2.2.2.2.1, ⟨hk.1.1.2.2.2.2.2.1, hk.1.1.2.2.2.2.2.2⟩⟩⟩⟩⟩⟩)⟩, ⟨by (with_reducible repeat (first | apply Kd.N_alloc | apply Kd.N_drewN | apply Kd.N_drew)); exact HQ96.out⟩, ⟨by (with_reducible repeat (first | apply Kd.R_alloc | apply Kd.R_drewN | apply Kd.R_drew)); exact Kd.R_mono (Kd.R_far (p := ⟨go87, (t263 : Int).toNat, none⟩) (Kd.R_types HO_254001.out GG87.out (by decide)) (fun _ hk => hk.2) (v283)) (fun _ hk => hk.1.1)⟩, ⟨by (with_reducible repeat (first | refine blk_drewN ?_ _ | refine blk_drew ?_ | refine blk_alloc ?_ _)); refine blk_far ?_ (by have h_ := Kd.N_away (g := gb250) HO_254000.out (fun k_ hk_ => by have h_ := hk_; (try simp only [and_assoc, true_and] at h_); first | with_reducible exact h_.1 | with_reducible exact h_.2.1 | with_reducible exact h_.2.2.1 | with_reducible exact h_.2.2.2.1 | with_reducible exact h_.2.2.2.2.1 | with_reducible exact h_.2.2.2.2.2.1 | with_reducible exact h_.2.2.2.2.2.2.1 | with_reducible exact h_.2.2.2.2.2.2.2.1 | with_reducible exact h_.2.2.2.2.2.2.2.2.1 | with_reducible exact h_.2 | with_reducible exact h_.2.2 | with_reducible exact h_.2.2.2 | with_reducible exact h_.2.2.2.2 | with_reducible exact h_.2.2.2.2.2 | with_reducible exact h_.2.2.2.2.2.2 | with_reducible exact h_.2.2.2.2.2.2.2 | with_reducible exact h_.2.2.2.2.2.2.2.2); intro e_; exact h_ (by rw [e_]; rfl)) _; (with_reducible repeat (first | refine blk_drewN ?_ _ | refine blk_drew ?_ | refine blk_alloc ?_ _)); exact BK250.out⟩, ⟨by (with_reducible repeat (first | refine blk_drewN ?_ _ | refine blk_drew ?_ | refine blk_alloc ?_ _)); refine blk_far ?_ (by have h_ := Kd.N_away (g := gb251) HO_254000.out (fun k_ hk_ => by have h_ := hk_; (try simp only [and_assoc, true_and] at h_); first | with_reducible exact h_.1 | with_reducible exact h_.2.1 | with_reducible exact h_.2.2.1 | with_reducible exact h_.2.2.2.1 | with_reducible exact h_.2.2.2.2.1 | with_reducible exact h_.2.2.2.2.2.1 | with_reducible exact h_.2.2.2.2.2.2.1 | with_reducible exact h_.2.2.2.2.2.2.2.1 | with_reducible exact h_.2.2.2.2.2.2.2.2.1 | with_reducible exact h_.2 | with_reducible exact h_.2.2 | with_reducible exact h_.2.2.2 | with_reducible exact h_.2.2.2.2 | with_reducible exact h_.2.2.2.2.2 | with_reducible exact h_.2.2.2.2.2.2 | with_reducible exact h_.2.2.2.2.2.2.2 | with_reducible exact h_.2.2.2.2.2.2.2.2); intro e_; exact h_ (by rw [e_]; rfl)) _; (with_reducible repeat (first | refine blk_drewN ?_ _ | refine blk_drew ?_ | refine blk_alloc ?_ _)); exact BK251.out⟩, ⟨by (with_reducible repeat (first | refine blk_drewN ?_ _ | refine blk_drew ?_ | refine blk_alloc ?_ _)); refine blk_far ?_ (by have h_ := Kd.N_away (g := gb252) HO_254000.out (fun k_ hk_ => by have h_ := hk_; (try simp only [and_assoc, true_and] at h_); first | with_reducible exact h_.1 | with_reducible exact h_.2.1 | with_reducible exact h_.2.2.1 | with_reducible exact h_.2.2.2.1 | with_reducible exact h_.2.2.2.2.1 | with_reducible exact h_.2.2.2.2.2.1 | with_reducible exact h_.2.2.2.2.2.2.1 | with_reducible exact h_.2.2.2.2.2.2.2.1 | with_reducible exact h_.2.2.2.2.2.2.2.2.1 | with_reducible exact h_.2 | with_reducible exact h_.2.2 | with_reducible exact h_.2.2.2 | with_reducible exact h_.2.2.2.2 | with_reducible exact h_.2.2.2.2.2 | with_reducible exact h_.2.2.2.2.2.2 | with_reducible exact h_.2.2.2.2.2.2.2 | with_reducible exact h_.2.2.2.2.2.2.2.2); intro e_; exact h_ (by rw [e_]; rfl)) _; (with_reducible repeat (first | refine blk_drewN ?_ _ | refine blk_drew ?_ | refine blk_alloc ?_ _)); exact BK252.out⟩, ⟨by (with_reducible repeat (first | refine blk_drewN ?_ _ | refine blk_drew ?_ | refine blk_alloc ?_ _)); refine blk_far ?_ (by have h_ := Kd.N_away (g := gb253) HO_254000.out (fun k_ hk_ => by have h_ := hk_; (try simp only [and_assoc, true_and] at h_); first | with_reducible exact h_.1 | with_reducible exact h_.2.1 | with_reducible exact h_.2.2.1 | with_reducible exact h_.2.2.2.1 | with_reducible exact h_.2.2.2.2.1 | with_reducible exact h_.2.2.2.2.2.1 | with_reducible exact h_.2.2.2.2.2.2.1 | with_reducible exact h_.2.2.2.2.2.2.2.1 | with_reducible exact h_.2.2.2.2.2.2.2.2.1 | with_reducible exact h_.2 | with_reducible exact h_.2.2 | with_reducible exact h_.2.2.2 | with_reducible exact h_.2.2.2.2 | with_reducible exact h_.2.2.2.2.2 | with_reducible exact h_.2.2.2.2.2.2 | with_reducible exact h_.2.2.2.2.2.2.2 | with_reducible exact h_.2.2.2.2.2.2.2.2); intro e_; exact h_ (by rw [e_]; rfl)) _; (with_reducible repeat (first | refine blk_drewN ?_ _ | refine blk_drew ?_ | refine blk_alloc ?_ _)); exact BK253.out⟩, ⟨by repeat (first | (with_reducible first | exact HB.out | apply below_alloc | apply pw_below_drewN | apply below_drew1 | refine below_set ?_ GB87.out | refine below_set ?_ GE250.out | refine below_set ?_ GE251.out | refine below_set ?_ GE252.out | refine below_set ?_ GE253.out) | exact HB.out)⟩⟩
           ·replace c59 := Bool.eq_false_iff.mpr c59
            subst c59
            have H1 : (some (([] : List (List Int)), ([] : List Int), false, false)) = some (r1, r2, r3, r4) := by rw [if_neg (show ¬ (false = true) by decide)] at H; exact H
            clear H
            have H := H1
            clear H1
            simp only [Option.some.injEq, Prod.mk.injEq] at H
            obtain ⟨rfl, rfl, rfl, rfl⟩ := H
            have p262 : 0 ≤ (x32_2 : Int) := of_decide_eq_true (by first | (with_reducible assumption) | assumption)
            have q262 : x32_2 < (l1_2.length : Int) := of_decide_eq_true (by first | (with_reducible assumption) | assumption)
            obtain ⟨ad262, e262, hx262_0⟩ := Kd.at_int (Kd.V_reads' HO_30.out).2.2 x32_2 p262 q262
            cases e262
            replace p262 := eq_true p262
            replace q262 := eq_true q262
            have hnb97 := NB253_250.out
            have hnc97 := NB250_253.out
            have hnb98 := NB253_251.out
            have hnc98 := NB251_253.out
            have hnb99 := NB253_252.out
            have hnc99 := NB252_253.out
            have hcz100_0 : wr.cell? ⟨gb253, 0, none⟩ = some (u254000) := (blk_cell BK253.out 0).trans rfl
            have hcz100_1 : wr.cell? ⟨gb253, 1, none⟩ = some (.slice Ao42 t256.length co42) := (blk_cell BK253.out 1).trans rfl
            have hcz100_2 : wr.cell? ⟨gb253, 2, none⟩ = some (.bool true) := (blk_cell BK253.out 2).trans rfl
            have hcz100_3 : wr.cell? ⟨gb253, 3, none⟩ = some (.bool x254003_2) := (blk_cell BK253.out 3).trans rfl
            have hfz100_0 := blk_frozen BK253.out 0
            have hfz100_1 := blk_frozen BK253.out 1
            have hfz100_2 := blk_frozen BK253.out 2
            have hfz100_3 := blk_frozen BK253.out 3
            go_wp2_with (first | ((with_reducible refine gate_callee (f := 110) rfl ?_); refine goesL_ (some 40) rfl rfl Try.func110 (by kernel_rfl) rfl #[.slice Ao42 t256.length co42, .int .i64 x32_2] rfl (by (try simp only [List.map_toArray, List.map_cons, List.map_nil]); first | done | rfl | (simp only [List.length_drop, List.length_take]; rfl)) ?_; (with_reducible refine (impl_seatOf.calls _ _ t256 x32_2 t263 _ ?side1 ?side2 A55.out).mono ?_); (case side1 => repeat (first | exact (Kd.R_reads' HO_254001.out).2.2 | (with_reducible refine Kd.C_alloc ?_ _) | (with_reducible refine Kd.C_drewN ?_ _) | (with_reducible refine Kd.C_drew ?_))); (case side2 => exact (Kd.R_reads' HO_254001.out).2.1); rintro e w' ⟨rfl, ⟨nd, rfl⟩⟩; refine ⟨_, rfl, ?_⟩; (try (rw [drewN_self wr]; generalize hq_ : World.drewN wr _ = wr; have n0_ : Aside0 (Kd.V (Kd.slice 2 (Kd.int .i64)) 22 wr w.heap.size (fun k_ => ((P0_0_ k_ ∨ P1_2_ k_) ∨ w.heap.size ≤ k_) ∧ some k_ ≠ (u254000 : Value).ownBlock ∧ some k_ ≠ (.slice Ao42 t256.length co42 : Value).ownBlock ∧ k_ ≠ gb250 ∧ k_ ≠ gb251 ∧ k_ ≠ gb252 ∧ k_ ≠ gb253) u251000 x251000_2) := ⟨by rw [← hq_]; exact (by (with_reducible repeat (first | apply Kd.V_alloc | apply Kd.V_drewN | apply Kd.V_drew)); exact HO_251000.out)⟩; have n1_ : Aside0 (Kd.V (Kd.int .i64) 2 wr w.heap.size (fun k_ => ((P0_0_ k_ ∨ P1_2_ k_) ∨ w.heap.size ≤ k_) ∧ some k_ ≠ (u254000 : Value).ownBlock ∧ some k_ ≠ (.slice Ao42 t256.length co42 : Value).ownBlock ∧ k_ ≠ gb250 ∧ k_ ≠ gb251 ∧ k_ ≠ gb252 ∧ k_ ≠ gb253) (.slice (some ad262) l1_2.length c1_2) l1_2) := ⟨by rw [← hq_]; exact (by (with_reducible repeat (first | apply Kd.V_alloc | apply Kd.V_drewN | apply Kd.V_drew)); exact HO_252002.out)⟩; have n2_ : Aside0 (Kd.N (Kd.slice 2 (Kd.int .i64)) 22 wr w.heap.size (fun k_ => ((P0_0_ k_ ∨ P1_2_ k_) ∨ w.heap.size ≤ k_) ∧ some k_ ≠ (.slice Ao42 t256.length co42 : Value).ownBlock ∧ k_ ≠ gb250 ∧ k_ ≠ gb251 ∧ k_ ≠ gb252 ∧ k_ ≠ gb253) u254000 x254000_2) := ⟨by rw [← hq_]; exact (by (with_reducible repeat (first | apply Kd.N_alloc | apply Kd.N_drewN | apply Kd.N_drew)); exact HO_254000.out)⟩; have n3_ : Aside0 (Kd.R (Kd.int .i64) 2 wr w.heap.size (fun k_ => (w.heap.size ≤ k_)) (.slice Ao42 t256.length co42) t256) := ⟨by rw [← hq_]; exact (by (with_reducible repeat (first | apply Kd.R_alloc | apply Kd.R_drewN | apply Kd.R_drew)); exact HO_254001.out)⟩; have n4_ : Aside0 (Kd.V (Kd.int .i64) 2 wr w.heap.size (fun k_ => ((P0_0_ k_ ∨ P1_2_ k_) ∨ w.heap.size ≤ k_) ∧ some k_ ≠ (u254000 : Value).ownBlock ∧ some k_ ≠ (.slice Ao42 t256.length co42 : Value).ownBlock ∧ k_ ≠ gb250 ∧ k_ ≠ gb251 ∧ k_ ≠ gb252 ∧ k_ ≠ gb253) (.slice (some ad262) l1_2.length c1_2) l1_2) := ⟨by rw [← hq_]; exact (by (with_reducible repeat (first | apply Kd.V_alloc | apply Kd.V_drewN | apply Kd.V_drew)); exact HO_30.out)⟩; have n5_ : Aside0 (wr.heap[gb250]? = some (.cells #[u251000] 44 (0, 0))) := ⟨by rw [← hq_]; exact (by (with_reducible repeat (first | refine blk_drewN ?_ _ | refine blk_drew ?_ | refine blk_alloc ?_ _)); exact BK250.out)⟩; have n6_ : Aside0 (wr.heap[gb251]? = some (.cells #[.int .i64 a1_0, .int .i64 a1_1, .slice (some ad262) l1_2.length c1_2] 27 (0, 0))) := ⟨by rw [← hq_]; exact (by (with_reducible repeat (first | refine blk_drewN ?_ _ | refine blk_drew ?_ | refine blk_alloc ?_ _)); exact BK251.out)⟩; have n7_ : Aside0 (wr.heap[gb252]? = some (.cells #[.slice none 0 0, .slice none 0 0, .bool x253002_2, .bool x253003_2] 92 (0, 0))) := ⟨by rw [← hq_]; exact (by (with_reducible repeat (first | refine blk_drewN ?_ _ | refine blk_drew ?_ | refine blk_alloc ?_ _)); exact BK252.out)⟩; have n8_ : Aside0 (wr.heap[gb253]? = some (.cells #[u254000, .slice Ao42 t256.length co42, .bool true, .bool x254003_2] 92 (0, 0))) := ⟨by rw [← hq_]; exact (by (with_reducible repeat (first | refine blk_drewN ?_ _ | refine blk_drew ?_ | refine blk_alloc ?_ _)); exact BK253.out)⟩; have n9_ : Aside0 (Below w.heap.size w wr) := ⟨by rw [← hq_]; exact (by repeat (first | (with_reducible first | exact HB.out | apply below_alloc | apply pw_below_drewN | apply below_drew1 | refine below_set ?_ GE250.out | refine below_set ?_ GE251.out | refine below_set ?_ GE252.out | refine below_set ?_ GE253.out) | exact HB.out))⟩; clear HO_251000 HO_252002 HO_254000 HO_254001 HO_30 BK250 BK251 BK252 BK253 HB hq_; have HO_251000 := n0_; have HO_252002 := n1_; have HO_254000 := n2_; have HO_254001 := n3_; have HO_30 := n4_; have BK250 := n5_; have BK251 := n6_; have BK252 := n7_; have BK253 := n8_; have HB := n9_; clear n0_ n1_ n2_ n3_ n4_ n5_ n6_ n7_ n8_ n9_; (try replace hcz100_0 := (blk_cell BK253.out 0).trans (rfl : _ = some _)); (try replace hcz100_1 := (blk_cell BK253.out 1).trans (rfl : _ = some _)); (try replace hcz100_2 := (blk_cell BK253.out 2).trans (rfl : _ = some _)); (try replace hcz100_3 := (blk_cell BK253.out 3).trans (rfl : _ = some _)); (try replace hfz100_0 := blk_frozen BK253.out 0); (try replace hfz100_1 := blk_frozen BK253.out 1); (try replace hfz100_2 := blk_frozen BK253.out 2); (try replace hfz100_3 := blk_frozen BK253.out 3))); obtain ⟨Ao101, co101, eo101⟩ := Kd.N_slice HO_254000.out; subst eo101; have p264 : 0 ≤ (t263 : Int) := of_decide_eq_true (by first | (with_reducible assumption) | assumption); have q264 : t263 < (x254000_2.length : Int) := of_decide_eq_true (by first | (with_reducible assumption) | assumption); obtain ⟨ad264, A264_0, c264_0, e264, hx264_0, hl264_0, hi264_0⟩ := at_L1 (Kd.N_reads' HO_254000.out).2.2 t263 p264 q264; cases e264; obtain ⟨ce264, hce264, hMe264, hcc264⟩ := Kd.N_get HO_254000.out [] t263 p264 (by first | exact q264 | exact of_decide_eq_true (by first | (with_reducible assumption) | assumption) | (have e_ := (Kd.N_reads' HO_254000.out).1; omega)); obtain ⟨ua264_0, uc264_0, rfl, ul264_0, ge264_0⟩ := Kd.FK_slice_open hMe264; have hv264_0 := hcc264 0 _ rfl; rw [Nat.add_zero, show ((Kd.slice 2 (Kd.int .i64))).sz = 1 from rfl, Nat.mul_one] at hv264_0; replace hv264_0 := Option.some.inj (hv264_0.symm.trans hx264_0); injection hv264_0 with hva_ hvn_ hvc_; rw [hva_] at ge264_0; rw [hvc_] at ul264_0; have HL264_0 := Aside0.mk (show Kd.V (Kd.int .i64) 2 _ w.heap.size _ _ (rd_L1 x254000_2 t263) from Kd.V_mk ul264_0 ge264_0); clear hva_ hvn_ hvc_ ge264_0 ul264_0; clear hcc264 hce264; have HR264_0 := Aside0.mk hi264_0; have HC264_0 := Aside0.mk hl264_0; clear hi264_0 hl264_0; replace p264 := eq_true p264; replace q264 := eq_true q264) | ((with_reducible refine gate_callee (f := 122) rfl ?_); refine goesL_ (some 48) rfl rfl Try.func122 (by kernel_rfl) rfl #[.slice A264_0 (rd_L1 x254000_2 t263).length c264_0, .int .i64 (rd l1_2 x32_2)] rfl (by (try simp only [List.map_toArray, List.map_cons, List.map_nil]); first | done | rfl | (simp only [List.length_drop, List.length_take]; rfl)) ?_; (with_reducible refine (slices_Contains_int64_int64.calls k2 _ _ (rd_L1 x254000_2 t263) (rd l1_2 x32_2) false _ ?side1 ?side2 A58.out).mono ?_); (case side1 => repeat (first | exact (by repeat (first | (with_reducible exact HR264_0.out) | (with_reducible refine Kd.C_alloc ?_ _) | (with_reducible refine Kd.C_drewN ?_ _) | (with_reducible refine Kd.C_drew ?_) | exact HR264_0.out)) | (with_reducible refine Kd.C_alloc ?_ _) | (with_reducible refine Kd.C_drewN ?_ _) | (with_reducible refine Kd.C_drew ?_))); (case side2 => exact HC264_0.out); rintro e w' ⟨rfl, ⟨nd, rfl⟩⟩; refine ⟨_, rfl, ?_⟩; (try (rw [drewN_self wr]; generalize hq_ : World.drewN wr _ = wr; have n0_ : Aside0 (Kd.V (Kd.int .i64) 2 wr w.heap.size (fun k_ => ((P0_0_ k_ ∨ P1_2_ k_) ∨ w.heap.size ≤ k_) ∧ some k_ ≠ (.slice (some ad264) x254000_2.length co101 : Value).ownBlock ∧ some k_ ≠ (.slice Ao42 t256.length co42 : Value).ownBlock ∧ k_ ≠ gb250 ∧ k_ ≠ gb251 ∧ k_ ≠ gb252 ∧ k_ ≠ gb253) (.slice A264_0 (rd_L1 x254000_2 t263).length c264_0) (rd_L1 x254000_2 t263)) := ⟨by rw [← hq_]; exact (by (with_reducible repeat (first | apply Kd.V_alloc | apply Kd.V_drewN | apply Kd.V_drew)); exact Kd.V_mono HL264_0.out (fun _ hk => ⟨hk.1.1, ⟨hk.2, ⟨hk.1.2.1, ⟨hk.1.2.2.1, ⟨hk.1.2.2.2.1, ⟨hk.1.2.2.2.2.1, hk.1.2.2.2.2.2⟩⟩⟩⟩⟩⟩))⟩; have n1_ : Aside0 (Kd.V (Kd.slice 2 (Kd.int .i64)) 22 wr w.heap.size (fun k_ => ((P0_0_ k_ ∨ P1_2_ k_) ∨ w.heap.size ≤ k_) ∧ some k_ ≠ (.slice (some ad264) x254000_2.length co101 : Value).ownBlock ∧ some k_ ≠ (.slice Ao42 t256.length co42 : Value).ownBlock ∧ k_ ≠ gb250 ∧ k_ ≠ gb251 ∧ k_ ≠ gb252 ∧ k_ ≠ gb253) u251000 x251000_2) := ⟨by rw [← hq_]; exact (by (with_reducible repeat (first | apply Kd.V_alloc | apply Kd.V_drewN | apply Kd.V_drew)); exact HO_251000.out)⟩; have n2_ : Aside0 (Kd.V (Kd.int .i64) 2 wr w.heap.size (fun k_ => ((P0_0_ k_ ∨ P1_2_ k_) ∨ w.heap.size ≤ k_) ∧ some k_ ≠ (.slice (some ad264) x254000_2.length co101 : Value).ownBlock ∧ some k_ ≠ (.slice Ao42 t256.length co42 : Value).ownBlock ∧ k_ ≠ gb250 ∧ k_ ≠ gb251 ∧ k_ ≠ gb252 ∧ k_ ≠ gb253) (.slice (some ad262) l1_2.length c1_2) l1_2) := ⟨by rw [← hq_]; exact (by (with_reducible repeat (first | apply Kd.V_alloc | apply Kd.V_drewN | apply Kd.V_drew)); exact HO_252002.out)⟩; have n3_ : Aside0 (Kd.N (Kd.slice 2 (Kd.int .i64)) 22 wr w.heap.size (fun k_ => ((P0_0_ k_ ∨ P1_2_ k_) ∨ w.heap.size ≤ k_) ∧ some k_ ≠ (.slice Ao42 t256.length co42 : Value).ownBlock ∧ k_ ≠ gb250 ∧ k_ ≠ gb251 ∧ k_ ≠ gb252 ∧ k_ ≠ gb253) (.slice (some ad264) x254000_2.length co101) x254000_2) := ⟨by rw [← hq_]; exact (by (with_reducible repeat (first | apply Kd.N_alloc | apply Kd.N_drewN | apply Kd.N_drew)); exact HO_254000.out)⟩; have n4_ : Aside0 (Kd.R (Kd.int .i64) 2 wr w.heap.size (fun k_ => (w.heap.size ≤ k_)) (.slice Ao42 t256.length co42) t256) := ⟨by rw [← hq_]; exact (by (with_reducible repeat (first | apply Kd.R_alloc | apply Kd.R_drewN | apply Kd.R_drew)); exact HO_254001.out)⟩; have n5_ : Aside0 (Kd.V (Kd.int .i64) 2 wr w.heap.size (fun k_ => ((P0_0_ k_ ∨ P1_2_ k_) ∨ w.heap.size ≤ k_) ∧ some k_ ≠ (.slice (some ad264) x254000_2.length co101 : Value).ownBlock ∧ some k_ ≠ (.slice Ao42 t256.length co42 : Value).ownBlock ∧ k_ ≠ gb250 ∧ k_ ≠ gb251 ∧ k_ ≠ gb252 ∧ k_ ≠ gb253) (.slice (some ad262) l1_2.length c1_2) l1_2) := ⟨by rw [← hq_]; exact (by (with_reducible repeat (first | apply Kd.V_alloc | apply Kd.V_drewN | apply Kd.V_drew)); exact HO_30.out)⟩; have n6_ : Aside0 (wr.heap[gb250]? = some (.cells #[u251000] 44 (0, 0))) := ⟨by rw [← hq_]; exact (by (with_reducible repeat (first | refine blk_drewN ?_ _ | refine blk_drew ?_ | refine blk_alloc ?_ _)); exact BK250.out)⟩; have n7_ : Aside0 (wr.heap[gb251]? = some (.cells #[.int .i64 a1_0, .int .i64 a1_1, .slice (some ad262) l1_2.length c1_2] 27 (0, 0))) := ⟨by rw [← hq_]; exact (by (with_reducible repeat (first | refine blk_drewN ?_ _ | refine blk_drew ?_ | refine blk_alloc ?_ _)); exact BK251.out)⟩; have n8_ : Aside0 (wr.heap[gb252]? = some (.cells #[.slice none 0 0, .slice none 0 0, .bool x253002_2, .bool x253003_2] 92 (0, 0))) := ⟨by rw [← hq_]; exact (by (with_reducible repeat (first | refine blk_drewN ?_ _ | refine blk_drew ?_ | refine blk_alloc ?_ _)); exact BK252.out)⟩; have n9_ : Aside0 (wr.heap[gb253]? = some (.cells #[.slice (some ad264) x254000_2.length co101, .slice Ao42 t256.length co42, .bool true, .bool x254003_2] 92 (0, 0))) := ⟨by rw [← hq_]; exact (by (with_reducible repeat (first | refine blk_drewN ?_ _ | refine blk_drew ?_ | refine blk_alloc ?_ _)); exact BK253.out)⟩; have n10_ : Aside0 (Below w.heap.size w wr) := ⟨by rw [← hq_]; exact (by repeat (first | (with_reducible first | exact HB.out | apply below_alloc | apply pw_below_drewN | apply below_drew1 | refine below_set ?_ GE250.out | refine below_set ?_ GE251.out | refine below_set ?_ GE252.out | refine below_set ?_ GE253.out) | exact HB.out))⟩; have n11_ : Aside0 (Kd.C (Kd.int .i64) wr A264_0 (rd_L1 x254000_2 t263).length (rd_L1 x254000_2 t263)) := ⟨by rw [← hq_]; exact (by repeat (first | (with_reducible exact HR264_0.out) | (with_reducible refine Kd.C_alloc ?_ _) | (with_reducible refine Kd.C_drewN ?_ _) | (with_reducible refine Kd.C_drew ?_) | exact HR264_0.out))⟩; clear HL264_0 HO_251000 HO_252002 HO_254000 HO_254001 HO_30 BK250 BK251 BK252 BK253 HB HR264_0 hq_; have HL264_0 := n0_; have HO_251000 := n1_; have HO_252002 := n2_; have HO_254000 := n3_; have HO_254001 := n4_; have HO_30 := n5_; have BK250 := n6_; have BK251 := n7_; have BK252 := n8_; have BK253 := n9_; have HB := n10_; have HR264_0 := n11_; clear n0_ n1_ n2_ n3_ n4_ n5_ n6_ n7_ n8_ n9_ n10_ n11_; (try replace hcz100_0 := (blk_cell BK253.out 0).trans (rfl : _ = some _)); (try replace hcz100_1 := (blk_cell BK253.out 1).trans (rfl : _ = some _)); (try replace hcz100_2 := (blk_cell BK253.out 2).trans (rfl : _ = some _)); (try replace hcz100_3 := (blk_cell BK253.out 3).trans (rfl : _ = some _)); (try replace hfz100_0 := blk_frozen BK253.out 0); (try replace hfz100_1 := blk_frozen BK253.out 1); (try replace hfz100_2 := blk_frozen BK253.out 2); (try replace hfz100_3 := blk_frozen BK253.out 3))); have hnb102 := NB252_250.out; have hnc102 := NB250_252.out; have hnb103 := NB252_251.out; have hnc103 := NB251_252.out; have hcz104_0 : wr.cell? ⟨gb252, 0, none⟩ = some (.slice none 0 0) := (blk_cell BK252.out 0).trans rfl; have hcz104_1 : wr.cell? ⟨gb252, 1, none⟩ = some (.slice none 0 0) := (blk_cell BK252.out 1).trans rfl; have hcz104_2 : wr.cell? ⟨gb252, 2, none⟩ = some (.bool x253002_2) := (blk_cell BK252.out 2).trans rfl; have hcz104_3 : wr.cell? ⟨gb252, 3, none⟩ = some (.bool x253003_2) := (blk_cell BK252.out 3).trans rfl; have hfz104_0 := blk_frozen BK252.out 0; have hfz104_1 := blk_frozen BK252.out 1; have hfz104_2 := blk_frozen BK252.out 2; have hfz104_3 := blk_frozen BK252.out 3))
            refine bodyPost_ret (results_cell_row rfl _ _ gb252 92 #[.slice none 0 0, .slice none 0 0, .bool false, .bool false] (0, 0) _ rfl (by (with_reducible repeat (first | refine blk_drewN ?_ _ | refine blk_drew ?_ | refine blk_alloc ?_ _)); refine blk_put (cs := #[.slice none 0 0, .slice none 0 0, .bool false, .bool x253003_2]) ?_ 3 _ rfl; (with_reducible repeat (first | refine blk_drewN ?_ _ | refine blk_drew ?_ | refine blk_alloc ?_ _)); refine blk_put (cs := #[.slice none 0 0, .slice none 0 0, .bool x253002_2, .bool x253003_2]) ?_ 2 _ rfl; (with_reducible repeat (first | refine blk_drewN ?_ _ | refine blk_drew ?_ | refine blk_alloc ?_ _)); refine blk_put (cs := #[.slice none 0 0, .slice none 0 0, .bool x253002_2, .bool x253003_2]) ?_ 1 _ rfl; (with_reducible repeat (first | refine blk_drewN ?_ _ | refine blk_drew ?_ | refine blk_alloc ?_ _)); refine blk_put (cs := #[.slice none 0 0, .slice none 0 0, .bool x253002_2, .bool x253003_2]) ?_ 0 _ rfl; (with_reducible repeat (first | refine blk_drewN ?_ _ | refine blk_drew ?_ | refine blk_alloc ?_ _)); exact BK252.out) Try.underlying92 rfl (by kernel_rfl)) rfl ?_
            exact ⟨_, _, by first | rfl | (simp [errW_none, errW_some] <;> rfl) | (simp [*, errW_none, errW_some] <;> rfl), by first | exact Kd.S_nil _ _ _ _ _ | exact Kd.N_nil _ _ _ _ _ | exact Kd.V_nil _ _ _ _ _ | exact Kd.Q_nil _ _ _ _ _ | exact Kd.R_nil _ _ _ _ _, by first | exact Kd.R_nil _ _ _ _ _ | exact Kd.N_nil _ _ _ _ _ | exact Kd.V_nil _ _ _ _ _ | exact Kd.Q_nil _ _ _ _ _ | exact Kd.S_nil _ _ _ _ _, by repeat (first | (with_reducible first | exact HB.out | apply below_alloc | apply pw_below_drewN | apply below_drew1 | refine below_set ?_ GE250.out | refine below_set ?_ GE251.out | refine below_set ?_ GE252.out | refine below_set ?_ GE253.out) | exact HB.out)⟩
          ·rw [if_neg c57] at H
           exact absurd H (by simp)
         ·rw [if_neg c56] at H
          exact absurd H (by simp)
        ·rw [if_neg c54] at H
         exact absurd H (by simp)
       ·rw [if_neg c53] at H
        exact absurd H (by simp)
      ·rw [if_neg c52] at H
       have c52b0 : decide (x32_2 < (l1_2.length : Int)) = false := decide_eq_false c52
       clear c52
       simp only [Option.some.injEq, Prod.mk.injEq] at H
       obtain ⟨rfl, rfl, rfl, rfl⟩ := H
       have hnb105 := NB253_250.out
       have hnc105 := NB250_253.out
       have hnb106 := NB253_251.out
       have hnc106 := NB251_253.out
       have hnb107 := NB253_252.out
       have hnc107 := NB252_253.out
       have hcz108_0 : wr.cell? ⟨gb253, 0, none⟩ = some (u254000) := (blk_cell BK253.out 0).trans rfl
       have hcz108_1 : wr.cell? ⟨gb253, 1, none⟩ = some (.slice Ao42 t256.length co42) := (blk_cell BK253.out 1).trans rfl
       have hcz108_2 : wr.cell? ⟨gb253, 2, none⟩ = some (.bool true) := (blk_cell BK253.out 2).trans rfl
       have hcz108_3 : wr.cell? ⟨gb253, 3, none⟩ = some (.bool x254003_2) := (blk_cell BK253.out 3).trans rfl
       have hfz108_0 := blk_frozen BK253.out 0
       have hfz108_1 := blk_frozen BK253.out 1
       have hfz108_2 := blk_frozen BK253.out 2
       have hfz108_3 := blk_frozen BK253.out 3
       obtain ⟨Ao109, co109, eo109⟩ := Kd.N_slice HO_254000.out
       subst eo109
       have hnb110 := NB252_250.out
       have hnc110 := NB250_252.out
       have hnb111 := NB252_251.out
       have hnc111 := NB251_252.out
       have hcz112_0 : wr.cell? ⟨gb252, 0, none⟩ = some (.slice none 0 0) := (blk_cell BK252.out 0).trans rfl
       have hcz112_1 : wr.cell? ⟨gb252, 1, none⟩ = some (.slice none 0 0) := (blk_cell BK252.out 1).trans rfl
       have hcz112_2 : wr.cell? ⟨gb252, 2, none⟩ = some (.bool x253002_2) := (blk_cell BK252.out 2).trans rfl
       have hcz112_3 : wr.cell? ⟨gb252, 3, none⟩ = some (.bool x253003_2) := (blk_cell BK252.out 3).trans rfl
       have hfz112_0 := blk_frozen BK252.out 0
       have hfz112_1 := blk_frozen BK252.out 1
       have hfz112_2 := blk_frozen BK252.out 2
       have hfz112_3 := blk_frozen BK252.out 3
       go_wp2
       refine bodyPost_ret (results_cell_row rfl _ _ gb252 92 #[.slice Ao109 x254000_2.length co109, .slice Ao42 t256.length co42, .bool true, .bool x254003_2] (0, 0) _ rfl (by (with_reducible repeat (first | refine blk_drewN ?_ _ | refine blk_drew ?_ | refine blk_alloc ?_ _)); refine blk_put (cs := #[.slice Ao109 x254000_2.length co109, .slice Ao42 t256.length co42, .bool true, .bool x253003_2]) ?_ 3 _ rfl; (with_reducible repeat (first | refine blk_drewN ?_ _ | refine blk_drew ?_ | refine blk_alloc ?_ _)); refine blk_put (cs := #[.slice Ao109 x254000_2.length co109, .slice Ao42 t256.length co42, .bool x253002_2, .bool x253003_2]) ?_ 2 _ rfl; (with_reducible repeat (first | refine blk_drewN ?_ _ | refine blk_drew ?_ | refine blk_alloc ?_ _)); refine blk_put (cs := #[.slice Ao109 x254000_2.length co109, .slice none 0 0, .bool x253002_2, .bool x253003_2]) ?_ 1 _ rfl; (with_reducible repeat (first | refine blk_drewN ?_ _ | refine blk_drew ?_ | refine blk_alloc ?_ _)); refine blk_put (cs := #[.slice none 0 0, .slice none 0 0, .bool x253002_2, .bool x253003_2]) ?_ 0 _ rfl; (with_reducible repeat (first | refine blk_drewN ?_ _ | refine blk_drew ?_ | refine blk_alloc ?_ _)); exact BK252.out) Try.underlying92 rfl (by kernel_rfl)) rfl ?_
       exact ⟨_, _, by first | rfl | (simp [errW_none, errW_some] <;> rfl) | (simp [*, errW_none, errW_some] <;> rfl), by (with_reducible repeat (first | apply Kd.N_alloc | apply Kd.N_drewN | apply Kd.N_drew)); exact Kd.N_mono (Kd.N_far (p := ⟨gb252, 3, none⟩) (Kd.N_far (p := ⟨gb252, 2, none⟩) (Kd.N_far (p := ⟨gb252, 1, none⟩) (Kd.N_far (p := ⟨gb252, 0, none⟩) (Kd.N_mono HO_254000.out (fun k_ hk => (⟨hk, hk.2.2.2.2.1⟩ : _ ∧ k_ ≠ gb252))) (fun _ hk => hk.2) (.slice Ao109 x254000_2.length co109)) (fun _ hk => hk.2) (.slice Ao42 t256.length co42)) (fun _ hk => hk.2) (.bool true)) (fun _ hk => hk.2) (.bool x254003_2)) (fun _ hk => ⟨hk.1.1, hk.1.2.1⟩), by (with_reducible repeat (first | apply Kd.R_alloc | apply Kd.R_drewN | apply Kd.R_drew)); exact Kd.R_mono (Kd.R_far (p := ⟨gb252, 3, none⟩) (Kd.R_far (p := ⟨gb252, 2, none⟩) (Kd.R_far (p := ⟨gb252, 1, none⟩) (Kd.R_far (p := ⟨gb252, 0, none⟩) (Kd.R_types HO_254001.out BK252.out (by decide)) (fun _ hk => hk.2) (.slice Ao109 x254000_2.length co109)) (fun _ hk => hk.2) (.slice Ao42 t256.length co42)) (fun _ hk => hk.2) (.bool true)) (fun _ hk => hk.2) (.bool x254003_2)) (fun _ hk => hk.1), by repeat (first | (with_reducible first | exact HB.out | apply below_alloc | apply pw_below_drewN | apply below_drew1 | refine below_set ?_ GE250.out | refine below_set ?_ GE251.out | refine below_set ?_ GE252.out | refine below_set ?_ GE253.out) | exact HB.out)⟩

end Go.Proofs.Ytakepkjcmgcepaa.QFnExactIsLoosePlay
