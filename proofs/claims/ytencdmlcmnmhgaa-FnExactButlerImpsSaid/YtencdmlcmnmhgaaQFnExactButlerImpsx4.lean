/- The functions that the law FnExactButlerImps reaches, as plain functions, and the walks that show that the machine's calls answer so. Written by a program of this session (wip/myprint.py) on the kit's print. -/
import Derived.Test.YtencdmlcmnmhgaaQFnExactButlerImpsx0
import Derived.Test.YtencdmlcmnmhgaaQFnExactButlerImpsx3
namespace Go.Proofs.Ytencdmlcmnmhgaa.QFnExactButlerImps
open Go.RowKit Go.Proofs.YtencdmlcmnmhgaaW.PrintWords Go.Proofs.YtencdmlcmnmhgaaW.PrintLast Go.Proofs.YtencdmlcmnmhgaaW.PrintMore
attribute [local go_sem] max2_int min2_int max_two min_two max_three min_three max_four min_four   -- for this text's walks alone
set_option linter.unusedVariables false
set_option linter.unusedSimpArgs false

/-! ### impl_DatumOf: function 31 -/
def impl_DatumOf.l0 : Nat → Int → Int → Int → List Int → Int → Int → Option (Int × Int)
 | 0, _, _, _, _, _, _ => none
 | k + 1, x1, x6, x8, x43, x44, x45 => if x45 < x44 then (if 0 ≤ x45 then (if x45 < (x43.length : Int) then (impl_DatumOf.l0 k x1 x6 (wrap64 (x8 + (rd x43 x45))) x43 x44 (wrap64 (x45 + 1))) else (none)) else (none)) else (if (wrap64 (10 * (wrap64 (x6 - (wrap64 (2 * x1)))))) = 0 then (none) else (if (wrap64 (2 * (Int.tmod (mx x8 (wrap64 (-x8))) (wrap64 (10 * (wrap64 (x6 - (wrap64 (2 * x1))))))))) > (wrap64 (10 * (wrap64 (x6 - (wrap64 (2 * x1)))))) then (if x8 < 0 then (some (wrap64 (-(wrap64 ((wrap64 ((wrap64 (Int.tdiv (mx x8 (wrap64 (-x8))) (wrap64 (10 * (wrap64 (x6 - (wrap64 (2 * x1)))))))) * 10)) + 10))), 0)) else (some (wrap64 ((wrap64 ((wrap64 (Int.tdiv (mx x8 (wrap64 (-x8))) (wrap64 (10 * (wrap64 (x6 - (wrap64 (2 * x1)))))))) * 10)) + 10), 0))) else (if x8 < 0 then (some (wrap64 (-(wrap64 ((wrap64 (Int.tdiv (mx x8 (wrap64 (-x8))) (wrap64 (10 * (wrap64 (x6 - (wrap64 (2 * x1)))))))) * 10))), 0)) else (some (wrap64 ((wrap64 (Int.tdiv (mx x8 (wrap64 (-x8))) (wrap64 (10 * (wrap64 (x6 - (wrap64 (2 * x1)))))))) * 10), 0)))))
def impl_DatumOf.f (k : Nat) (l0 : List Int) (a1 : Int) : Option (Int × Int) := (impl_areTeamScores.f l0).bind fun t199 => (if t199 = true then (if a1 < 0 then (some (0, 2)) else (if a1 > (wrap64 (Int.tdiv (wrap64 ((l0.length : Int) - 1)) 2)) then (some (0, 2)) else (if (l0.length : Int) = 0 then (some (0, 2)) else ((slices_Clone_int64_int64.f l0).bind fun t200 => ((slices_Sort_int64_int64.f t200).bind fun t203 => (if 0 ≤ a1 then (if a1 ≤ (wrap64 ((l0.length : Int) - a1)) then (if (wrap64 ((l0.length : Int) - a1)) ≤ (t200.length : Int) then ((some ((t203.take ((wrap64 ((l0.length : Int) - a1)) : Int).toNat).drop (a1 : Int).toNat : List Int)).bind fun y204 => (impl_DatumOf.l0 k a1 (l0.length : Int) 0 y204 (y204.length : Int) 0)) else (none)) else (none)) else (none))))))) else (some (0, 1)))
theorem impl_DatumOf.mono_l : ∀ k, (∀ y0 y1 y2 y3 y4 y5, LeO (impl_DatumOf.l0 k y0 y1 y2 y3 y4 y5) (impl_DatumOf.l0 (k + 1) y0 y1 y2 y3 y4 y5))
 | 0 => fun _ _ _ _ _ _ r h => by simp [impl_DatumOf.l0] at h
 | k + 1 => by
  have ih0 := impl_DatumOf.mono_l k
  ·intro y0 y1 y2 y3 y4 y5
   unfold impl_DatumOf.l0
   repeat' first
   | (with_reducible exact ih0 _ _ _ _ _ _)
   | (with_reducible exact LeO.refl _)
   | (with_reducible exact LeO.none _)
   | (with_reducible refine LeO.ite ?_ ?_)
   | (with_reducible refine LeO.bind ?_ (fun _ => ?_))
   | exact ih0 _ _ _ _ _ _
   | exact LeO.none _
   | refine LeO.ite ?_ ?_
   | refine LeO.bind ?_ (fun _ => ?_)
theorem impl_DatumOf.mono : ∀ a0 a1 k, LeO (impl_DatumOf.f k a0 a1) (impl_DatumOf.f (k + 1) a0 a1) := by
 intro a0 a1 k
 have ih0 := impl_DatumOf.mono_l k
 unfold impl_DatumOf.f
 repeat' first
   | (with_reducible exact ih0 _ _ _ _ _ _)
   | (with_reducible exact LeO.refl _)
   | (with_reducible exact LeO.none _)
   | (with_reducible refine LeO.ite ?_ ?_)
   | (with_reducible refine LeO.bind ?_ (fun _ => ?_))
   | exact ih0 _ _ _ _ _ _
   | exact LeO.none _
   | refine LeO.ite ?_ ?_
   | refine LeO.bind ?_ (fun _ => ?_)
set_option maxHeartbeats 8000000 in
set_option maxRecDepth 100000 in
theorem impl_DatumOf.calls (k : Nat) (A0 : Option Addr) (c0 : Nat) (l0 : List Int) (a1 : Int) (r1 : Int) (r2 : Int) (w : World) (hr0 : Kd.C (Kd.int .i64) w A0 l0.length l0) (hc0 : l0.length ≤ c0) (h : impl_DatumOf.f k l0 a1 = some (r1, r2)) :
  Calls Try.prog 31 #[.slice A0 l0.length c0, .int .i64 a1] w fun e w' => e = .returned (.tuple #[.int .i64 r1, .int .i64 r2]) ∧ Below w.heap.size w w' := by
 have HR0 := Aside0.mk hr0
 have HC0 := Aside0.mk hc0
 clear hr0 hc0
 have HB := Aside0.mk (Below.refl w.heap.size w)
 have H : ((impl_areTeamScores.f l0).bind fun t199 => (if t199 = true then (if a1 < 0 then (some (0, 2)) else (if a1 > (wrap64 (Int.tdiv (wrap64 ((l0.length : Int) - 1)) 2)) then (some (0, 2)) else (if (l0.length : Int) = 0 then (some (0, 2)) else ((slices_Clone_int64_int64.f l0).bind fun t200 => ((slices_Sort_int64_int64.f t200).bind fun t203 => (if 0 ≤ a1 then (if a1 ≤ (wrap64 ((l0.length : Int) - a1)) then (if (wrap64 ((l0.length : Int) - a1)) ≤ (t200.length : Int) then ((some ((t203.take ((wrap64 ((l0.length : Int) - a1)) : Int).toNat).drop (a1 : Int).toNat : List Int)).bind fun y204 => (impl_DatumOf.l0 k a1 (l0.length : Int) 0 y204 (y204.length : Int) 0)) else (none)) else (none)) else (none))))))) else (some (0, 1)))) = some (r1, r2) := h
 clear h
 replace H := Option.bind_eq_some_iff.mp H
 obtain ⟨t199, A30, H⟩ := H
 replace H : (if t199 = true then (if a1 < 0 then (some (0, 2)) else (if a1 > (wrap64 (Int.tdiv (wrap64 ((l0.length : Int) - 1)) 2)) then (some (0, 2)) else (if (l0.length : Int) = 0 then (some (0, 2)) else ((slices_Clone_int64_int64.f l0).bind fun t200 => ((slices_Sort_int64_int64.f t200).bind fun t203 => (if 0 ≤ a1 then (if a1 ≤ (wrap64 ((l0.length : Int) - a1)) then (if (wrap64 ((l0.length : Int) - a1)) ≤ (t200.length : Int) then ((some ((t203.take ((wrap64 ((l0.length : Int) - a1)) : Int).toNat).drop (a1 : Int).toNat : List Int)).bind fun y204 => (impl_DatumOf.l0 k a1 (l0.length : Int) 0 y204 (y204.length : Int) 0)) else (none)) else (none)) else (none))))))) else (some (0, 1))) = some (r1, r2) := H
 have A3 := Aside0.mk A30
 clear A30
 by_cases c4 : t199 = true
 ·subst c4
  have H1 : (if a1 < 0 then (some (0, 2)) else (if a1 > (wrap64 (Int.tdiv (wrap64 ((l0.length : Int) - 1)) 2)) then (some (0, 2)) else (if (l0.length : Int) = 0 then (some (0, 2)) else ((slices_Clone_int64_int64.f l0).bind fun t200 => ((slices_Sort_int64_int64.f t200).bind fun t203 => (if 0 ≤ a1 then (if a1 ≤ (wrap64 ((l0.length : Int) - a1)) then (if (wrap64 ((l0.length : Int) - a1)) ≤ (t200.length : Int) then ((some ((t203.take ((wrap64 ((l0.length : Int) - a1)) : Int).toNat).drop (a1 : Int).toNat : List Int)).bind fun y204 => (impl_DatumOf.l0 k a1 (l0.length : Int) 0 y204 (y204.length : Int) 0)) else (none)) else (none)) else (none))))))) = some (r1, r2) := by rw [if_pos rfl] at H; exact H
  clear H
  have H := H1
  clear H1
  by_cases c5 : a1 < 0
  ·rw [if_pos c5] at H
   have c5b0 : decide (a1 < 0) = true := decide_eq_true c5
   clear c5
   simp only [Option.some.injEq, Prod.mk.injEq] at H
   obtain ⟨rfl, rfl⟩ := H
   go_enter Try.func31, Try.ntmps31
   go_wp2_with (first | ((with_reducible refine gate_callee (f := 39) rfl ?_); refine goesL_ (some 18) rfl rfl Try.func39 (by kernel_rfl) rfl #[.slice A0 l0.length c0] rfl (by (try simp only [List.map_toArray, List.map_cons, List.map_nil]); first | done | rfl | (simp only [List.length_drop, List.length_take]; rfl)) ?_; (with_reducible refine (impl_areTeamScores.calls _ _ l0 true _ ?side1 ?side2 A3.out).mono ?_); (case side1 => repeat (first | exact HR0.out | (with_reducible refine Kd.C_alloc ?_ _) | (with_reducible refine Kd.C_drewN ?_ _) | (with_reducible refine Kd.C_drew ?_))); (case side2 => exact HC0.out); rintro e w' ⟨rfl, ⟨nd, rfl⟩⟩; refine ⟨_, rfl, ?_⟩))
   go_ret2
   exact ⟨by first | rfl | (simp [errW_none, errW_some] <;> rfl) | (simp [*, errW_none, errW_some] <;> rfl), by repeat (first | (with_reducible first | exact HB.out | apply below_alloc | apply pw_below_drewN | apply below_drew1) | exact HB.out)⟩
  ·rw [if_neg c5] at H
   have c5b0 : decide (a1 < 0) = false := decide_eq_false c5
   clear c5
   by_cases c6 : a1 > (wrap64 (Int.tdiv (wrap64 ((l0.length : Int) - 1)) 2))
   ·rw [if_pos c6] at H
    have c6b0 : decide ((wrap64 (Int.tdiv (wrap64 ((l0.length : Int) - 1)) 2)) < a1) = true := decide_eq_true c6
    clear c6
    simp only [Option.some.injEq, Prod.mk.injEq] at H
    obtain ⟨rfl, rfl⟩ := H
    go_enter Try.func31, Try.ntmps31
    go_wp2_with (first | ((with_reducible refine gate_callee (f := 39) rfl ?_); refine goesL_ (some 18) rfl rfl Try.func39 (by kernel_rfl) rfl #[.slice A0 l0.length c0] rfl (by (try simp only [List.map_toArray, List.map_cons, List.map_nil]); first | done | rfl | (simp only [List.length_drop, List.length_take]; rfl)) ?_; (with_reducible refine (impl_areTeamScores.calls _ _ l0 true _ ?side1 ?side2 A3.out).mono ?_); (case side1 => repeat (first | exact HR0.out | (with_reducible refine Kd.C_alloc ?_ _) | (with_reducible refine Kd.C_drewN ?_ _) | (with_reducible refine Kd.C_drew ?_))); (case side2 => exact HC0.out); rintro e w' ⟨rfl, ⟨nd, rfl⟩⟩; refine ⟨_, rfl, ?_⟩))
    go_ret2
    exact ⟨by first | rfl | (simp [errW_none, errW_some] <;> rfl) | (simp [*, errW_none, errW_some] <;> rfl), by repeat (first | (with_reducible first | exact HB.out | apply below_alloc | apply pw_below_drewN | apply below_drew1) | exact HB.out)⟩
   ·rw [if_neg c6] at H
    have c6b0 : decide ((wrap64 (Int.tdiv (wrap64 ((l0.length : Int) - 1)) 2)) < a1) = false := decide_eq_false c6
    clear c6
    by_cases c7 : (l0.length : Int) = 0
    ·rw [if_pos c7] at H
     have c7b0 : ((l0.length : Int) == 0) = true := beq_iff_eq.mpr c7
     have c7b1 : ((l0.length : Int) != 0) = false := bne_eq_false_iff_eq.mpr c7
     clear c7
     simp only [Option.some.injEq, Prod.mk.injEq] at H
     obtain ⟨rfl, rfl⟩ := H
     go_enter Try.func31, Try.ntmps31
     go_wp2_with (first | ((with_reducible refine gate_callee (f := 39) rfl ?_); refine goesL_ (some 18) rfl rfl Try.func39 (by kernel_rfl) rfl #[.slice A0 l0.length c0] rfl (by (try simp only [List.map_toArray, List.map_cons, List.map_nil]); first | done | rfl | (simp only [List.length_drop, List.length_take]; rfl)) ?_; (with_reducible refine (impl_areTeamScores.calls _ _ l0 true _ ?side1 ?side2 A3.out).mono ?_); (case side1 => repeat (first | exact HR0.out | (with_reducible refine Kd.C_alloc ?_ _) | (with_reducible refine Kd.C_drewN ?_ _) | (with_reducible refine Kd.C_drew ?_))); (case side2 => exact HC0.out); rintro e w' ⟨rfl, ⟨nd, rfl⟩⟩; refine ⟨_, rfl, ?_⟩))
     go_ret2
     exact ⟨by first | rfl | (simp [errW_none, errW_some] <;> rfl) | (simp [*, errW_none, errW_some] <;> rfl), by repeat (first | (with_reducible first | exact HB.out | apply below_alloc | apply pw_below_drewN | apply below_drew1) | exact HB.out)⟩
    ·rw [if_neg c7] at H
     have c7b0 : ((l0.length : Int) == 0) = false := beq_eq_false_iff_ne.mpr c7
     have c7b1 : ((l0.length : Int) != 0) = true := bne_iff_ne.mpr c7
     have c7b2 : ¬ (l0 = []) := fun h_ => c7 (by rw [h_]; rfl)
     replace H := Option.bind_eq_some_iff.mp H
     obtain ⟨t200, A80, H⟩ := H
     replace H : ((slices_Sort_int64_int64.f t200).bind fun t203 => (if 0 ≤ a1 then (if a1 ≤ (wrap64 ((l0.length : Int) - a1)) then (if (wrap64 ((l0.length : Int) - a1)) ≤ (t200.length : Int) then ((some ((t203.take ((wrap64 ((l0.length : Int) - a1)) : Int).toNat).drop (a1 : Int).toNat : List Int)).bind fun y204 => (impl_DatumOf.l0 k a1 (l0.length : Int) 0 y204 (y204.length : Int) 0)) else (none)) else (none)) else (none))) = some (r1, r2) := H
     have A8 := Aside0.mk A80
     clear A80
     replace H := Option.bind_eq_some_iff.mp H
     obtain ⟨t203, A90, H⟩ := H
     replace H : (if 0 ≤ a1 then (if a1 ≤ (wrap64 ((l0.length : Int) - a1)) then (if (wrap64 ((l0.length : Int) - a1)) ≤ (t200.length : Int) then ((some ((t203.take ((wrap64 ((l0.length : Int) - a1)) : Int).toNat).drop (a1 : Int).toNat : List Int)).bind fun y204 => (impl_DatumOf.l0 k a1 (l0.length : Int) 0 y204 (y204.length : Int) 0)) else (none)) else (none)) else (none)) = some (r1, r2) := H
     have A9 := Aside0.mk A90
     clear A90
     by_cases c10 : 0 ≤ a1
     ·rw [if_pos c10] at H
      have c10b0 := eq_true c10
      have c10b1 : decide (0 ≤ a1) = true := decide_eq_true c10
      clear c10
      by_cases c11 : a1 ≤ (wrap64 ((l0.length : Int) - a1))
      ·rw [if_pos c11] at H
       have c11b0 := eq_true c11
       have c11b1 : decide (a1 ≤ (wrap64 ((l0.length : Int) - a1))) = true := decide_eq_true c11
       clear c11
       by_cases c12 : (wrap64 ((l0.length : Int) - a1)) ≤ (t200.length : Int)
       ·rw [if_pos c12] at H
        have c12b0 := eq_true c12
        have c12b1 : decide ((wrap64 ((l0.length : Int) - a1)) ≤ (t200.length : Int)) = true := decide_eq_true c12
        clear c12
        obtain ⟨y204, hy204⟩ : ∃ y_ : List Int, y_ = ((t203.take ((wrap64 ((l0.length : Int) - a1)) : Int).toNat).drop (a1 : Int).toNat) := ⟨_, rfl⟩
        replace H : (impl_DatumOf.l0 k a1 (l0.length : Int) 0 y204 (y204.length : Int) 0) = some (r1, r2) := by first | (rw [hy204]; with_reducible exact H) | (have H2_ := (Option.bind_some _ _).symm.trans H; rw [hy204]; with_reducible exact H2_) | (have H2_ := (Option.bind_some _ _).symm.trans H; with_reducible exact H2_) | with_reducible exact H | (rw [hy204]; exact H) | exact H
        have Ny204 := Aside0.mk hy204
        clear hy204
        have H' := Aside0.mk H
        clear H
        go_enter Try.func31, Try.ntmps31
        go_wp2_with (first | ((with_reducible refine gate_callee (f := 39) rfl ?_); refine goesL_ (some 18) rfl rfl Try.func39 (by kernel_rfl) rfl #[.slice A0 l0.length c0] rfl (by (try simp only [List.map_toArray, List.map_cons, List.map_nil]); first | done | rfl | (simp only [List.length_drop, List.length_take]; rfl)) ?_; (with_reducible refine (impl_areTeamScores.calls _ _ l0 true _ ?side1 ?side2 A3.out).mono ?_); (case side1 => repeat (first | exact HR0.out | (with_reducible refine Kd.C_alloc ?_ _) | (with_reducible refine Kd.C_drewN ?_ _) | (with_reducible refine Kd.C_drew ?_))); (case side2 => exact HC0.out); rintro e w' ⟨rfl, ⟨nd, rfl⟩⟩; refine ⟨_, rfl, ?_⟩) | ((with_reducible refine gate_callee (f := 49) rfl ?_); refine goesL_ (some 35) rfl rfl Try.func49 (by kernel_rfl) rfl #[.slice A0 l0.length c0] rfl (by (try simp only [List.map_toArray, List.map_cons, List.map_nil]); first | done | rfl | (simp only [List.length_drop, List.length_take]; rfl)) ?_; (with_reducible refine (slices_Clone_int64_int64.calls _ _ l0 t200 _ ?side1 ?side2 A8.out).mono ?_); (case side1 => repeat (first | exact HR0.out | (with_reducible refine Kd.C_alloc ?_ _) | (with_reducible refine Kd.C_drewN ?_ _) | (with_reducible refine Kd.C_drew ?_))); (case side2 => exact HC0.out); rintro e w13 ⟨v201, rfl, ho0, hb⟩; refine ⟨_, rfl, ?_⟩; have n0_ := Aside0.mk (Kd.R_lower ho0 (below_size (by repeat (first | (with_reducible first | exact HB.out | apply below_alloc | apply pw_below_drewN | apply below_drew1) | exact HB.out)))); have n1_ := Aside0.mk (below_step (by repeat (first | (with_reducible first | exact HB.out | apply below_alloc | apply pw_below_drewN | apply below_drew1) | exact HB.out)) hb); clear HB; have HO202 := n0_; have HB := n1_; clear n0_ n1_; (try clear hb); (try clear hb2); (try clear hk); (try clear hi); (try clear ho0); obtain ⟨Ao14, co14, eo14⟩ := Kd.R_slice HO202.out; subst eo14) | ((with_reducible refine gate_callee (f := 50) rfl ?_); refine goesL_ (some 37) rfl rfl Try.func50 (by kernel_rfl) rfl #[.slice Ao14 t200.length co14] rfl (by (try simp only [List.map_toArray, List.map_cons, List.map_nil]); first | done | rfl | (simp only [List.length_drop, List.length_take]; rfl)) ?_; (with_reducible refine (slices_Sort_int64_int64.calls (fun k_ => some k_ = (.slice Ao14 t200.length co14 : Value).ownBlock) (.slice Ao14 t200.length co14) t200 t203 w _ ?side1 ?side2 A9.out).mono ?_); (case side1 => repeat (first | (with_reducible first | exact HB.out | apply below_alloc | apply pw_below_drewN | apply below_drew1) | exact HB.out)); (case side2 => exact Kd.R_tight rfl HO202.out); rintro e w15 ⟨rfl, hy0, hb, hkp⟩; refine ⟨_, rfl, ?_⟩; have n0_ := Aside0.mk (Kd.R_reok rfl hy0 (fun k_ e_ => HO202.out.1 k_ e_)); have n1_ := Aside0.mk (hb); clear HO202; clear HB; have HO202 := n0_; have HB := n1_; clear n0_ n1_; (try clear hb); (try clear hkp); (try clear hy0); have hlx16 := (Kd.R_reads' HO202.out).1; have q16 : ((wrap64 ((l0.length : Int) - a1)) : Int) ≤ ((t200.length : Int) : Int) := of_decide_eq_true (by first | (with_reducible assumption) | assumption); obtain ⟨i016, hi016, _, hsz16, _⟩ := info_parts info2; have hroom16 : t200.length ≤ co14 := (Kd.R_reads' HO202.out).2.1; have hroomc16 : t203.length ≤ co14 := (by rw [← hlx16]; exact hroom16); have hC16 : Kd.C (Kd.int .i64) _ Ao14 t203.length t203 := (Kd.R_reads' HO202.out).2.2; have ql16 : (a1 : Int) ≤ ((wrap64 ((l0.length : Int) - a1)) : Int) := of_decide_eq_true (by first | (with_reducible assumption) | assumption); have q016 : (0 : Int) ≤ (a1 : Int) := of_decide_eq_true (by first | (with_reducible assumption) | assumption); have hcut16 := cut_mid (P := Try.prog) 22 2 .i64 .i64 Try.underlying22 hi016 1 hsz16 Ao14 t200.length co14 a1 (wrap64 ((l0.length : Int) - a1)) q016 ql16 q16 hroom16; have hr16 := Kd.C_mid (lo := (a1 : Int).toNat) (hi := ((wrap64 ((l0.length : Int) - a1)) : Int).toNat) (c := co14) hC16 (by omega) (by omega) hroomc16; obtain ⟨A16, hA16⟩ : ∃ A1, A1 = (if co14 = (a1 : Int).toNat then Ao14 else (Ao14 : Option Addr).map (·.add ((a1 : Int).toNat * 1))) := ⟨_, rfl⟩; obtain ⟨c16, hc16⟩ : ∃ c1, c1 = co14 - (a1 : Int).toNat := ⟨_, rfl⟩; have hy16 : y204.length = ((wrap64 ((l0.length : Int) - a1)) : Int).toNat - (a1 : Int).toNat := (by rw [Ny204.out, List.length_drop, List.length_take] <;> omega); rw [show ((t203).take ((wrap64 ((l0.length : Int) - a1)) : Int).toNat).drop (a1 : Int).toNat = y204 from Ny204.out.symm] at hr16; replace hr16 : Kd.C (Kd.int .i64) _ A16 y204.length y204 := (by rw [hA16]; exact hr16); rw [← hy16, ← hA16, ← hc16] at hcut16; have HR207 := Aside0.mk hr16; have HC207 := Aside0.mk (show y204.length ≤ c16 from by rw [hy16, hc16]; exact Nat.sub_le_sub_right (Nat.le_trans (by omega) hroom16) _); clear hr16 hC16 hroom16 hi016 hsz16 hc16 hroomc16; have KY16 := Aside0.mk hy16; have KA16 := Aside0.mk hA16; clear hy16 hA16; have KE16 := Aside0.mk hlx16; have KL16 := Aside0.mk (show ((wrap64 ((l0.length : Int) - a1)) : Int).toNat ≤ t203.length from by omega); have KM16 := Aside0.mk (show (a1 : Int).toNat ≤ ((wrap64 ((l0.length : Int) - a1)) : Int).toNat from by omega); clear hlx16; replace q16 := eq_true q16))
        go_loopg [8, 45] k (fun kq v8 v45 w' => ∃ (x8_1 : Int) (x45_1 : Int), v8 = .int .i64 x8_1 ∧ v45 = .int .i64 x45_1 ∧ Aside0 (impl_DatumOf.l0 kq a1 (l0.length : Int) x8_1 y204 (y204.length : Int) x45_1 = some (r1, r2)) ∧ Aside0 (kq ≤ k) ∧ Aside0 (Kd.C (Kd.int .i64) w' A16 y204.length y204) ∧ Aside0 (Below w.heap.size w w'))
        case atStart => exact ⟨(0), (0), (by first | rfl | (simp; done) | (simp [*]; done)), (by first | rfl | (simp; done) | (simp [*]; done)), H', ⟨Nat.le_refl _⟩, ⟨by repeat (first | (with_reducible exact HR207.out) | (with_reducible refine Kd.C_alloc ?_ _) | (with_reducible refine Kd.C_drewN ?_ _) | (with_reducible refine Kd.C_drew ?_) | exact HR207.out)⟩, ⟨by repeat (first | (with_reducible first | exact HB.out | apply below_alloc | apply pw_below_drewN | apply below_drew1) | exact HB.out)⟩⟩
        case round =>
         clear H'
         try clear c1
         try clear q1
         try clear p2
         try clear c3
         try clear c4
         try clear c5
         try clear c5b0
         try clear c6
         try clear c6b0
         try clear p6
         try clear c7
         try clear c7b0
         try clear c7b1
         try clear c7b2
         try clear c10
         try clear c10b0
         try clear c10b1
         try clear c11
         try clear c11b0
         try clear c11b1
         try clear c12
         try clear c12b0
         try clear c12b1
         try clear c16
         try clear q16
         try clear q016
         try clear q16
         obtain ⟨x8_1, x45_1, rfl, rfl, HA, HK1, HR207, HB⟩ := hrel
         cases gk with
         | zero => exact absurd HA.out (by simp [impl_DatumOf.l0])
         | succ k1 =>
          have H := HA.out
          clear HA
          simp only [impl_DatumOf.l0] at H
          by_cases c17 : x45_1 < (y204.length : Int)
          ·rw [if_pos c17] at H
           have c17b0 : decide (x45_1 < (y204.length : Int)) = true := decide_eq_true c17
           clear c17
           by_cases c18 : 0 ≤ x45_1
           ·rw [if_pos c18] at H
            have c18b0 : decide (0 ≤ x45_1) = true := decide_eq_true c18
            clear c18
            by_cases c19 : x45_1 < (y204.length : Int)
            ·rw [if_pos c19] at H
             have c19b0 : decide (x45_1 < (y204.length : Int)) = true := decide_eq_true c19
             clear c19
             have H' := Aside0.mk H
             clear H
             have p208 : 0 ≤ (x45_1 : Int) := of_decide_eq_true (by first | (with_reducible assumption) | assumption)
             have q208 : x45_1 < (y204.length : Int) := of_decide_eq_true (by first | (with_reducible assumption) | assumption)
             obtain ⟨ad208, e208, hx208_0⟩ := Kd.at_int HR207.out x45_1 p208 q208
             cases e208
             replace p208 := eq_true p208
             replace q208 := eq_true q208
             go_wp2
             go_roundg k1
             case measure => have := HK1.out; omega
             case rel => exact ⟨(wrap64 (x8_1 + (rd y204 x45_1))), (wrap64 (x45_1 + 1)), (by first | rfl | (simp; done) | (simp [*]; done)), (by first | rfl | (simp; done) | (simp [*]; done)), H', ⟨by have := HK1.out; omega⟩, ⟨by repeat (first | (with_reducible exact HR207.out) | (with_reducible refine Kd.C_alloc ?_ _) | (with_reducible refine Kd.C_drewN ?_ _) | (with_reducible refine Kd.C_drew ?_) | exact HR207.out)⟩, ⟨by repeat (first | (with_reducible first | exact HB.out | apply below_alloc | apply pw_below_drewN | apply below_drew1) | exact HB.out)⟩⟩
            ·rw [if_neg c19] at H
             exact absurd H (by simp)
           ·rw [if_neg c18] at H
            exact absurd H (by simp)
          ·rw [if_neg c17] at H
           have c17b0 : decide (x45_1 < (y204.length : Int)) = false := decide_eq_false c17
           clear c17
           obtain ⟨ji20, hji20⟩ : ∃ j_ : Int, (mx x8_1 (wrap64 (-x8_1))) = j_ := ⟨_, rfl⟩
           replace H : (if (wrap64 (10 * (wrap64 ((l0.length : Int) - (wrap64 (2 * a1)))))) = 0 then (none) else (if (wrap64 (2 * (Int.tmod (ji20) (wrap64 (10 * (wrap64 ((l0.length : Int) - (wrap64 (2 * a1))))))))) > (wrap64 (10 * (wrap64 ((l0.length : Int) - (wrap64 (2 * a1)))))) then (if x8_1 < 0 then (some (wrap64 (-(wrap64 ((wrap64 ((wrap64 (Int.tdiv (ji20) (wrap64 (10 * (wrap64 ((l0.length : Int) - (wrap64 (2 * a1)))))))) * 10)) + 10))), 0)) else (some (wrap64 ((wrap64 ((wrap64 (Int.tdiv (ji20) (wrap64 (10 * (wrap64 ((l0.length : Int) - (wrap64 (2 * a1)))))))) * 10)) + 10), 0))) else (if x8_1 < 0 then (some (wrap64 (-(wrap64 ((wrap64 (Int.tdiv (ji20) (wrap64 (10 * (wrap64 ((l0.length : Int) - (wrap64 (2 * a1)))))))) * 10))), 0)) else (some (wrap64 ((wrap64 (Int.tdiv (ji20) (wrap64 (10 * (wrap64 ((l0.length : Int) - (wrap64 (2 * a1)))))))) * 10), 0))))) = some (r1, r2) := by first | (rw [hji20] at H; exact H) | (simp only [hji20] at H ⊢; exact H)
           have hji20_ : (if x8_1 < (wrap64 (-x8_1)) then (wrap64 (-x8_1)) else x8_1) = ji20 := hji20
           by_cases c21 : (wrap64 (10 * (wrap64 ((l0.length : Int) - (wrap64 (2 * a1)))))) = 0
           ·rw [if_pos c21] at H
            exact absurd H (by simp)
           ·rw [if_neg c21] at H
            have c21b0 : ((wrap64 (10 * (wrap64 ((l0.length : Int) - (wrap64 (2 * a1)))))) == 0) = false := beq_eq_false_iff_ne.mpr c21
            have c21b1 : ((wrap64 (10 * (wrap64 ((l0.length : Int) - (wrap64 (2 * a1)))))) != 0) = true := bne_iff_ne.mpr c21
            by_cases c22 : (wrap64 (2 * (Int.tmod (ji20) (wrap64 (10 * (wrap64 ((l0.length : Int) - (wrap64 (2 * a1))))))))) > (wrap64 (10 * (wrap64 ((l0.length : Int) - (wrap64 (2 * a1))))))
            ·rw [if_pos c22] at H
             have c22b0 : decide ((wrap64 (10 * (wrap64 ((l0.length : Int) - (wrap64 (2 * a1)))))) < (wrap64 (2 * (Int.tmod (ji20) (wrap64 (10 * (wrap64 ((l0.length : Int) - (wrap64 (2 * a1)))))))))) = true := decide_eq_true c22
             clear c22
             by_cases c23 : x8_1 < 0
             ·rw [if_pos c23] at H
              have c23b0 : decide (x8_1 < 0) = true := decide_eq_true c23
              clear c23
              simp only [Option.some.injEq, Prod.mk.injEq] at H
              obtain ⟨rfl, rfl⟩ := H
              go_wp2
              go_ret2
              exact ⟨by first | rfl | (simp [errW_none, errW_some] <;> rfl) | (simp only [← hji20]; first | rfl | (simp [errW_none, errW_some] <;> rfl)) | (simp [*, errW_none, errW_some] <;> rfl), by repeat (first | (with_reducible first | exact HB.out | apply below_alloc | apply pw_below_drewN | apply below_drew1) | exact HB.out)⟩
             ·rw [if_neg c23] at H
              have c23b0 : decide (x8_1 < 0) = false := decide_eq_false c23
              clear c23
              simp only [Option.some.injEq, Prod.mk.injEq] at H
              obtain ⟨rfl, rfl⟩ := H
              go_wp2
              go_ret2
              exact ⟨by first | rfl | (simp [errW_none, errW_some] <;> rfl) | (simp only [← hji20]; first | rfl | (simp [errW_none, errW_some] <;> rfl)) | (simp [*, errW_none, errW_some] <;> rfl), by repeat (first | (with_reducible first | exact HB.out | apply below_alloc | apply pw_below_drewN | apply below_drew1) | exact HB.out)⟩
            ·rw [if_neg c22] at H
             have c22b0 : decide ((wrap64 (10 * (wrap64 ((l0.length : Int) - (wrap64 (2 * a1)))))) < (wrap64 (2 * (Int.tmod (ji20) (wrap64 (10 * (wrap64 ((l0.length : Int) - (wrap64 (2 * a1)))))))))) = false := decide_eq_false c22
             clear c22
             by_cases c24 : x8_1 < 0
             ·rw [if_pos c24] at H
              have c24b0 : decide (x8_1 < 0) = true := decide_eq_true c24
              clear c24
              simp only [Option.some.injEq, Prod.mk.injEq] at H
              obtain ⟨rfl, rfl⟩ := H
              go_wp2
              go_ret2
              exact ⟨by first | rfl | (simp [errW_none, errW_some] <;> rfl) | (simp only [← hji20]; first | rfl | (simp [errW_none, errW_some] <;> rfl)) | (simp [*, errW_none, errW_some] <;> rfl), by repeat (first | (with_reducible first | exact HB.out | apply below_alloc | apply pw_below_drewN | apply below_drew1) | exact HB.out)⟩
             ·rw [if_neg c24] at H
              have c24b0 : decide (x8_1 < 0) = false := decide_eq_false c24
              clear c24
              simp only [Option.some.injEq, Prod.mk.injEq] at H
              obtain ⟨rfl, rfl⟩ := H
              go_wp2
              go_ret2
              exact ⟨by first | rfl | (simp [errW_none, errW_some] <;> rfl) | (simp only [← hji20]; first | rfl | (simp [errW_none, errW_some] <;> rfl)) | (simp [*, errW_none, errW_some] <;> rfl), by repeat (first | (with_reducible first | exact HB.out | apply below_alloc | apply pw_below_drewN | apply below_drew1) | exact HB.out)⟩
       ·rw [if_neg c12] at H
        exact absurd H (by simp)
      ·rw [if_neg c11] at H
       exact absurd H (by simp)
     ·rw [if_neg c10] at H
      exact absurd H (by simp)
 ·replace c4 := Bool.eq_false_iff.mpr c4
  subst c4
  have H1 : (some (0, 1)) = some (r1, r2) := by rw [if_neg (show ¬ (false = true) by decide)] at H; exact H
  clear H
  have H := H1
  clear H1
  simp only [Option.some.injEq, Prod.mk.injEq] at H
  obtain ⟨rfl, rfl⟩ := H
  go_enter Try.func31, Try.ntmps31
  go_wp2_with (first | ((with_reducible refine gate_callee (f := 39) rfl ?_); refine goesL_ (some 18) rfl rfl Try.func39 (by kernel_rfl) rfl #[.slice A0 l0.length c0] rfl (by (try simp only [List.map_toArray, List.map_cons, List.map_nil]); first | done | rfl | (simp only [List.length_drop, List.length_take]; rfl)) ?_; (with_reducible refine (impl_areTeamScores.calls _ _ l0 false _ ?side1 ?side2 A3.out).mono ?_); (case side1 => repeat (first | exact HR0.out | (with_reducible refine Kd.C_alloc ?_ _) | (with_reducible refine Kd.C_drewN ?_ _) | (with_reducible refine Kd.C_drew ?_))); (case side2 => exact HC0.out); rintro e w' ⟨rfl, ⟨nd, rfl⟩⟩; refine ⟨_, rfl, ?_⟩))
  go_ret2
  exact ⟨by first | rfl | (simp [errW_none, errW_some] <;> rfl) | (simp [*, errW_none, errW_some] <;> rfl), by repeat (first | (with_reducible first | exact HB.out | apply below_alloc | apply pw_below_drewN | apply below_drew1) | exact HB.out)⟩

/-! ### impl_ButlerImps: function 33 -/
def impl_ButlerImps.l0 : Nat → Int → List Int → List Int → Int → Int → Option (List Int × Int)
 | 0, _, _, _, _, _ => none
 | k + 1, x6, x8, x21, x22, x23 => if x23 < x22 then (if 0 ≤ x23 then (if x23 < (x21.length : Int) then ((impl_ImpsOf.f k (wrap64 ((rd x21 x23) - x6))).bind fun t215 => (if x8.length < 17592186044416 then (impl_ButlerImps.l0 k x6 (x8 ++ [t215]) x21 x22 (wrap64 (x23 + 1))) else (none))) else (none)) else (none)) else (some (x8, 0))
def impl_ButlerImps.f (k : Nat) (l0 : List Int) (a1 : Int) : Option (List Int × Int) := (impl_DatumOf.f k l0 a1).bind fun bt209 => (if bt209.2 = 0 then (impl_ButlerImps.l0 k bt209.1 (([] : List Int)) l0 (l0.length : Int) 0) else (some (([] : List Int), bt209.2)))
theorem impl_ButlerImps.mono_l : ∀ k, (∀ y0 y1 y2 y3 y4, LeO (impl_ButlerImps.l0 k y0 y1 y2 y3 y4) (impl_ButlerImps.l0 (k + 1) y0 y1 y2 y3 y4))
 | 0 => fun _ _ _ _ _ r h => by simp [impl_ButlerImps.l0] at h
 | k + 1 => by
  have ih0 := impl_ButlerImps.mono_l k
  ·intro y0 y1 y2 y3 y4
   unfold impl_ButlerImps.l0
   repeat' first
   | (with_reducible exact ih0 _ _ _ _ _)
   | (with_reducible exact impl_DatumOf.mono _ _ _)
   | (with_reducible exact impl_ImpsOf.mono _ _)
   | (with_reducible exact LeO.refl _)
   | (with_reducible exact LeO.none _)
   | (with_reducible refine LeO.ite ?_ ?_)
   | (with_reducible refine LeO.bind ?_ (fun _ => ?_))
   | exact ih0 _ _ _ _ _
   | exact impl_DatumOf.mono _ _ _
   | exact impl_ImpsOf.mono _ _
   | exact LeO.none _
   | refine LeO.ite ?_ ?_
   | refine LeO.bind ?_ (fun _ => ?_)
theorem impl_ButlerImps.mono : ∀ a0 a1 k, LeO (impl_ButlerImps.f k a0 a1) (impl_ButlerImps.f (k + 1) a0 a1) := by
 intro a0 a1 k
 have ih0 := impl_ButlerImps.mono_l k
 unfold impl_ButlerImps.f
 repeat' first
   | (with_reducible exact ih0 _ _ _ _ _)
   | (with_reducible exact impl_DatumOf.mono _ _ _)
   | (with_reducible exact impl_ImpsOf.mono _ _)
   | (with_reducible exact LeO.refl _)
   | (with_reducible exact LeO.none _)
   | (with_reducible refine LeO.ite ?_ ?_)
   | (with_reducible refine LeO.bind ?_ (fun _ => ?_))
   | exact ih0 _ _ _ _ _
   | exact impl_DatumOf.mono _ _ _
   | exact impl_ImpsOf.mono _ _
   | exact LeO.none _
   | refine LeO.ite ?_ ?_
   | refine LeO.bind ?_ (fun _ => ?_)
set_option maxHeartbeats 8000000 in
set_option maxRecDepth 100000 in
theorem impl_ButlerImps.calls (k : Nat) (A0 : Option Addr) (c0 : Nat) (l0 : List Int) (a1 : Int) (r1 : List Int) (r2 : Int) (w : World) (hr0 : Kd.C (Kd.int .i64) w A0 l0.length l0) (hc0 : l0.length ≤ c0) (h : impl_ButlerImps.f k l0 a1 = some (r1, r2)) :
  Calls Try.prog 33 #[.slice A0 l0.length c0, .int .i64 a1] w fun e w' => ∃ v0_ : Value, e = .returned (.tuple #[v0_, .int .i64 r2]) ∧ Kd.R (Kd.int .i64) 2 w' w.heap.size (fun _ => True) v0_ r1 ∧ Below w.heap.size w w' := by
 have HR0 := Aside0.mk hr0
 have HC0 := Aside0.mk hc0
 clear hr0 hc0
 have HB := Aside0.mk (Below.refl w.heap.size w)
 have H : ((impl_DatumOf.f k l0 a1).bind fun bt209 => (if bt209.2 = 0 then (impl_ButlerImps.l0 k bt209.1 (([] : List Int)) l0 (l0.length : Int) 0) else (some (([] : List Int), bt209.2)))) = some (r1, r2) := h
 clear h
 replace H := Option.bind_eq_some_iff.mp H
 obtain ⟨⟨t209, t210⟩, A30, H⟩ := H
 replace H : (if t210 = 0 then (impl_ButlerImps.l0 k t209 (([] : List Int)) l0 (l0.length : Int) 0) else (some (([] : List Int), t210))) = some (r1, r2) := H
 have A3 := Aside0.mk A30
 clear A30
 by_cases c4 : t210 = 0
 ·rw [if_pos c4] at H
  have c4b0 : (t210 == 0) = true := beq_iff_eq.mpr c4
  have c4b1 : (t210 != 0) = false := bne_eq_false_iff_eq.mpr c4
  clear c4
  obtain ⟨y211, hy211⟩ : ∃ y_ : List Int, y_ = (([] : List Int)) := ⟨_, rfl⟩
  replace H : (impl_ButlerImps.l0 k t209 y211 l0 (l0.length : Int) 0) = some (r1, r2) := by first | (rw [hy211]; with_reducible exact H) | (have H2_ := (Option.bind_some _ _).symm.trans H; rw [hy211]; with_reducible exact H2_) | (have H2_ := (Option.bind_some _ _).symm.trans H; with_reducible exact H2_) | with_reducible exact H | (rw [hy211]; exact H) | exact H
  have Ny211 := Aside0.mk hy211
  clear hy211
  have H' := Aside0.mk H
  clear H
  go_enter Try.func33, Try.ntmps33
  go_wp2_with (first | ((with_reducible refine gate_callee (f := 31) rfl ?_); refine goesL_ (some 14) rfl rfl Try.func31 (by kernel_rfl) rfl #[.slice A0 l0.length c0, .int .i64 a1] rfl (by (try simp only [List.map_toArray, List.map_cons, List.map_nil]); first | done | rfl | (simp only [List.length_drop, List.length_take]; rfl)) ?_; (with_reducible refine (impl_DatumOf.calls k _ _ l0 a1 t209 t210 _ ?side1 ?side2 A3.out).mono ?_); (case side1 => repeat (first | exact HR0.out | (with_reducible refine Kd.C_alloc ?_ _) | (with_reducible refine Kd.C_drewN ?_ _) | (with_reducible refine Kd.C_drew ?_))); (case side2 => exact HC0.out); rintro e w5 ⟨rfl, hb⟩; refine ⟨_, rfl, ?_⟩; have n0_ := Aside0.mk (below_step (by repeat (first | (with_reducible first | exact HB.out | apply below_alloc | apply pw_below_drewN | apply below_drew1) | exact HB.out)) hb); clear HB; have HB := n0_; clear n0_; (try clear hb); (try clear hb2); (try clear hk); (try clear hi)) | ((with_reducible refine gate_dst (N := 20) rfl ?_); refine Kd.R_lit (Kd.int .i64) _ 2 ?hg (N := 20) ?hd (xs := ([] : List Int)) (inner := []) (ok := fun _ => True) (okp := fun _ => True) ?hr ?hp (fun _ hk => hk) trivial (Below.refl _ _) (Nat.le_refl _) (by simp) ?_; (case hd => rfl); (case hg => rfl); (case hr => first | (go_simp; done) | (go_simp; rfl)); (case hp => exact (Reps.none _ _)); intro v212 w6 ho7 hb hg_ hnew_; clear hg_ hnew_; (first | rw [← Ny211.out] at ho7 | (simp only [Int.reduceToNat] at ho7; rw [← Ny211.out] at ho7)); have n0_ := Aside0.mk (Kd.R_lower ho7 (below_size (by repeat (first | (with_reducible first | exact HB.out | apply below_alloc | apply pw_below_drewN | apply below_drew1) | exact HB.out)))); have n1_ := Aside0.mk (below_step (by repeat (first | (with_reducible first | exact HB.out | apply below_alloc | apply pw_below_drewN | apply below_drew1) | exact HB.out)) hb); clear HB; have HO213 := n0_; have HB := n1_; clear n0_ n1_; clear hb ho7))
  go_loopg [8, 23] k (fun kq v8 v23 w' => ∃ (x8_1 : List Int) (x23_1 : Int), v23 = .int .i64 x23_1 ∧ Aside0 (impl_ButlerImps.l0 kq t209 x8_1 l0 (l0.length : Int) x23_1 = some (r1, r2)) ∧ Aside0 (kq ≤ k) ∧ Aside0 (Kd.R (Kd.int .i64) 2 w' w.heap.size (fun _ => True) v8 x8_1) ∧ Aside0 (Below w.heap.size w w'))
  case atStart => exact ⟨(y211), (0), (by first | rfl | (simp; done) | (simp [*]; done)), H', ⟨Nat.le_refl _⟩, ⟨by (with_reducible repeat (first | apply Kd.R_alloc | apply Kd.R_drewN | apply Kd.R_drew)); exact HO213.out⟩, ⟨by repeat (first | (with_reducible first | exact HB.out | apply below_alloc | apply pw_below_drewN | apply below_drew1) | exact HB.out)⟩⟩
  case round =>
   clear H'
   try clear p2
   try clear c3
   try clear c4
   try clear c4b0
   try clear c4b1
   obtain ⟨x8_1, x23_1, rfl, HA, HK1, HO_8, HB⟩ := hrel
   cases gk with
   | zero => exact absurd HA.out (by simp [impl_ButlerImps.l0])
   | succ k1 =>
    have H := HA.out
    clear HA
    simp only [impl_ButlerImps.l0] at H
    by_cases c8 : x23_1 < (l0.length : Int)
    ·rw [if_pos c8] at H
     have c8b0 : decide (x23_1 < (l0.length : Int)) = true := decide_eq_true c8
     clear c8
     by_cases c9 : 0 ≤ x23_1
     ·rw [if_pos c9] at H
      have c9b0 : decide (0 ≤ x23_1) = true := decide_eq_true c9
      clear c9
      by_cases c10 : x23_1 < (l0.length : Int)
      ·rw [if_pos c10] at H
       have c10b0 : decide (x23_1 < (l0.length : Int)) = true := decide_eq_true c10
       clear c10
       replace H := Option.bind_eq_some_iff.mp H
       obtain ⟨t215, A110, H⟩ := H
       replace H : (if x8_1.length < 17592186044416 then (impl_ButlerImps.l0 k1 t209 (x8_1 ++ [t215]) l0 (l0.length : Int) (wrap64 (x23_1 + 1))) else (none)) = some (r1, r2) := H
       have A11 := Aside0.mk A110
       clear A110
       by_cases c12 : x8_1.length < 17592186044416
       ·rw [if_pos c12] at H
        have LMc12 := Aside0.mk c12
        clear c12
        obtain ⟨y216, hy216⟩ : ∃ y_ : List Int, y_ = (x8_1 ++ [t215]) := ⟨_, rfl⟩
        replace H : (impl_ButlerImps.l0 k1 t209 y216 l0 (l0.length : Int) (wrap64 (x23_1 + 1))) = some (r1, r2) := by first | (rw [hy216]; with_reducible exact H) | (have H2_ := (Option.bind_some _ _).symm.trans H; rw [hy216]; with_reducible exact H2_) | (have H2_ := (Option.bind_some _ _).symm.trans H; with_reducible exact H2_) | with_reducible exact H | (rw [hy216]; exact H) | exact H
        have Ny216 := Aside0.mk hy216
        clear hy216
        have H' := Aside0.mk H
        clear H
        have p214 : 0 ≤ (x23_1 : Int) := of_decide_eq_true (by first | (with_reducible assumption) | assumption)
        have q214 : x23_1 < (l0.length : Int) := of_decide_eq_true (by first | (with_reducible assumption) | assumption)
        obtain ⟨ad214, e214, hx214_0⟩ := Kd.at_int HR0.out x23_1 p214 q214
        cases e214
        replace hx214_0 := (HB.out.cell (World.block_lt_of_cell? w _ hx214_0)).trans hx214_0
        replace p214 := eq_true p214
        replace q214 := eq_true q214
        go_wp2_with (first | ((with_reducible refine gate_callee (f := 29) rfl ?_); refine goesL_ (some 31) rfl rfl Try.func29 (by kernel_rfl) rfl #[.int .i64 (wrap64 ((rd l0 x23_1) - t209))] rfl (by (try simp only [List.map_toArray, List.map_cons, List.map_nil]); first | done | rfl | (simp only [List.length_drop, List.length_take]; rfl)) ?_; (with_reducible refine (impl_ImpsOf.calls k1 (wrap64 ((rd l0 x23_1) - t209)) t215 _ A11.out).mono ?_); rintro e w13 ⟨rfl, hb⟩; refine ⟨_, rfl, ?_⟩; have n0_ := Aside0.mk (Kd.R_below (by (with_reducible repeat (first | apply Kd.R_alloc | apply Kd.R_drewN | apply Kd.R_drew)); exact HO_8.out) hb); have n1_ := Aside0.mk (below_step (by repeat (first | (with_reducible first | exact HB.out | apply below_alloc | apply pw_below_drewN | apply below_drew1) | exact HB.out)) hb); clear HO_8; clear HB; have HO_8 := n0_; have HB := n1_; clear n0_ n1_; (try clear hb); (try clear hb2); (try clear hk); (try clear hi)) | ((with_reducible refine gate_builtin (b := .append) (xs := #[.tmp 27, .tmp 32]) rfl ?_); at_builtin; refine Kd.R_append (Kd.int .i64) (w0 := w) w.heap.size rfl (.tmp 27) (.tmp 32) 22 2 (.int .i64 0) 8 rfl Try.underlying22 info2 rfl (by decide) (by omega) u8 x8_1 t215 [.int .i64 t215] (fun _ => True) (fun _ => False) rfl rfl ?aP (fun _ hk => hk.elim) ?aF ?aO ?aB ?aS ?aL ?_; (case aP => exact rfl); (case aB => exact (by repeat (first | (with_reducible first | exact HB.out | apply below_alloc | apply pw_below_drewN | apply below_drew1) | exact HB.out))); (case aF => exact (fun _ _ => trivial)); (case aO => exact (by (with_reducible repeat (first | apply Kd.R_alloc | apply Kd.R_drewN | apply Kd.R_drew)); exact HO_8.out)); (case aS => exact (below_size (by repeat (first | (with_reducible first | exact HB.out | apply below_alloc | apply pw_below_drewN | apply below_drew1) | exact HB.out)))); (case aL => have := LMc12.out; omega); intro v217 w14 ho hb hg hat; rw [← Ny216.out] at ho; have n0_ := Aside0.mk (hb); have n1_ := Aside0.mk (ho); clear HB; clear HO_8; have HB := n0_; have HO218 := n1_; clear n0_ n1_; clear ho hb hg hat))
        go_roundg k1
        case measure => have := HK1.out; omega
        case rel => exact ⟨(y216), (wrap64 (x23_1 + 1)), (by first | rfl | (simp; done) | (simp [*]; done)), H', ⟨by have := HK1.out; omega⟩, ⟨by (with_reducible repeat (first | apply Kd.R_alloc | apply Kd.R_drewN | apply Kd.R_drew)); exact HO218.out⟩, ⟨by repeat (first | (with_reducible first | exact HB.out | apply below_alloc | apply pw_below_drewN | apply below_drew1) | exact HB.out)⟩⟩
       ·rw [if_neg c12] at H
        exact absurd H (by simp)
      ·rw [if_neg c10] at H
       exact absurd H (by simp)
     ·rw [if_neg c9] at H
      exact absurd H (by simp)
    ·rw [if_neg c8] at H
     have c8b0 : decide (x23_1 < (l0.length : Int)) = false := decide_eq_false c8
     clear c8
     simp only [Option.some.injEq, Prod.mk.injEq] at H
     obtain ⟨rfl, rfl⟩ := H
     go_wp2
     go_ret2
     exact ⟨_, by first | rfl | (simp [errW_none, errW_some] <;> rfl) | (simp [*, errW_none, errW_some] <;> rfl), by (with_reducible repeat (first | apply Kd.R_alloc | apply Kd.R_drewN | apply Kd.R_drew)); exact HO_8.out, by repeat (first | (with_reducible first | exact HB.out | apply below_alloc | apply pw_below_drewN | apply below_drew1) | exact HB.out)⟩
 ·rw [if_neg c4] at H
  have c4b0 : (t210 == 0) = false := beq_eq_false_iff_ne.mpr c4
  have c4b1 : (t210 != 0) = true := bne_iff_ne.mpr c4
  simp only [Option.some.injEq, Prod.mk.injEq] at H
  obtain ⟨rfl, rfl⟩ := H
  go_enter Try.func33, Try.ntmps33
  go_wp2_with (first | ((with_reducible refine gate_callee (f := 31) rfl ?_); refine goesL_ (some 14) rfl rfl Try.func31 (by kernel_rfl) rfl #[.slice A0 l0.length c0, .int .i64 a1] rfl (by (try simp only [List.map_toArray, List.map_cons, List.map_nil]); first | done | rfl | (simp only [List.length_drop, List.length_take]; rfl)) ?_; (with_reducible refine (impl_DatumOf.calls k _ _ l0 a1 t209 t210 _ ?side1 ?side2 A3.out).mono ?_); (case side1 => repeat (first | exact HR0.out | (with_reducible refine Kd.C_alloc ?_ _) | (with_reducible refine Kd.C_drewN ?_ _) | (with_reducible refine Kd.C_drew ?_))); (case side2 => exact HC0.out); rintro e w15 ⟨rfl, hb⟩; refine ⟨_, rfl, ?_⟩; have n0_ := Aside0.mk (below_step (by repeat (first | (with_reducible first | exact HB.out | apply below_alloc | apply pw_below_drewN | apply below_drew1) | exact HB.out)) hb); clear HB; have HB := n0_; clear n0_; (try clear hb); (try clear hb2); (try clear hk); (try clear hi)))
  go_ret2
  exact ⟨_, by first | rfl | (simp [errW_none, errW_some] <;> rfl) | (simp [*, errW_none, errW_some] <;> rfl), by first | exact Kd.R_nil _ _ _ _ _ | exact Kd.N_nil _ _ _ _ _ | exact Kd.V_nil _ _ _ _ _ | exact Kd.Q_nil _ _ _ _ _ | exact Kd.S_nil _ _ _ _ _, by repeat (first | (with_reducible first | exact HB.out | apply below_alloc | apply pw_below_drewN | apply below_drew1) | exact HB.out)⟩

end Go.Proofs.Ytencdmlcmnmhgaa.QFnExactButlerImps
