/- The functions that the law FnDatum reaches, as plain functions, and the walks that show that the machine's calls answer so. Written by a program of this session (wip/myprint.py) on the kit's print. -/
import Derived.Test.YtencdmlcmnmhgaaQFnDatumx0
import Derived.Test.YtencdmlcmnmhgaaQFnDatumx1
import Derived.Test.YtencdmlcmnmhgaaQFnDatumx2
namespace Go.Proofs.Ytencdmlcmnmhgaa.QFnDatum
open Go.RowKit Go.Proofs.YtencdmlcmnmhgaaW.PrintWords Go.Proofs.YtencdmlcmnmhgaaW.PrintLast Go.Proofs.YtencdmlcmnmhgaaW.PrintMore
attribute [local go_sem] max2_int min2_int max_two min_two max_three min_three max_four min_four   -- for this text's walks alone
set_option linter.unusedVariables false
set_option linter.unusedSimpArgs false

/-! ### spec_DatumOf: function 30 -/
def spec_DatumOf.j0 : Nat → List Int → Int → Bool → Option (Int × Int)
 | 0, _, _, _ => none
 | k + 1, x0, x1, x20 => if x20 = true then (some (0, 2)) else ((spec_l13Sorted.f k x0).bind fun t169 => ((spec_l13Datum.f k t169 x1).bind fun t172 => (some (t172, 0))))
def spec_DatumOf.f (k : Nat) (l0 : List Int) (a1 : Int) : Option (Int × Int) := (spec_l13Scores.f k l0).bind fun t167 => (if t167 = true then ((spec_l01In.f a1 0 (wrap64 (Int.tdiv (wrap64 ((l0.length : Int) - 1)) 2))).bind fun t168 => (if t168 = true then (spec_DatumOf.j0 k l0 a1 ((l0.length : Int) == 0)) else (spec_DatumOf.j0 k l0 a1 true))) else (some (0, 1)))
theorem spec_DatumOf.mono_l : ∀ k, (∀ y0 y1 y2, LeO (spec_DatumOf.j0 k y0 y1 y2) (spec_DatumOf.j0 (k + 1) y0 y1 y2))
 | 0 => fun _ _ _ r h => by simp [spec_DatumOf.j0] at h
 | k + 1 => by
  have ih0 := spec_DatumOf.mono_l k
  ·intro y0 y1 y2
   unfold spec_DatumOf.j0
   repeat' first
   | (with_reducible exact ih0 _ _ _)
   | (with_reducible exact spec_l13Datum.mono _ _ _)
   | (with_reducible exact spec_l13Scores.mono _ _)
   | (with_reducible exact spec_l13Sorted.mono _ _)
   | (with_reducible exact LeO.refl _)
   | (with_reducible exact LeO.none _)
   | (with_reducible refine LeO.ite ?_ ?_)
   | (with_reducible refine LeO.bind ?_ (fun _ => ?_))
   | exact ih0 _ _ _
   | exact spec_l13Datum.mono _ _ _
   | exact spec_l13Scores.mono _ _
   | exact spec_l13Sorted.mono _ _
   | exact LeO.none _
   | refine LeO.ite ?_ ?_
   | refine LeO.bind ?_ (fun _ => ?_)
theorem spec_DatumOf.mono : ∀ a0 a1 k, LeO (spec_DatumOf.f k a0 a1) (spec_DatumOf.f (k + 1) a0 a1) := by
 intro a0 a1 k
 have ih0 := spec_DatumOf.mono_l k
 unfold spec_DatumOf.f
 repeat' first
   | (with_reducible exact ih0 _ _ _)
   | (with_reducible exact spec_l13Datum.mono _ _ _)
   | (with_reducible exact spec_l13Scores.mono _ _)
   | (with_reducible exact spec_l13Sorted.mono _ _)
   | (with_reducible exact LeO.refl _)
   | (with_reducible exact LeO.none _)
   | (with_reducible refine LeO.ite ?_ ?_)
   | (with_reducible refine LeO.bind ?_ (fun _ => ?_))
   | exact ih0 _ _ _
   | exact spec_l13Datum.mono _ _ _
   | exact spec_l13Scores.mono _ _
   | exact spec_l13Sorted.mono _ _
   | exact LeO.none _
   | refine LeO.ite ?_ ?_
   | refine LeO.bind ?_ (fun _ => ?_)
set_option maxHeartbeats 8000000 in
set_option maxRecDepth 100000 in
theorem spec_DatumOf.calls (k : Nat) (A0 : Option Addr) (c0 : Nat) (l0 : List Int) (a1 : Int) (r1 : Int) (r2 : Int) (w : World) (hr0 : Kd.C (Kd.int .i64) w A0 l0.length l0) (hc0 : l0.length ≤ c0) (h : spec_DatumOf.f k l0 a1 = some (r1, r2)) :
  Calls Try.prog 30 #[.slice A0 l0.length c0, .int .i64 a1] w fun e w' => e = .returned (.tuple #[.int .i64 r1, .int .i64 r2]) ∧ Below w.heap.size w w' := by
 have HR0 := Aside0.mk hr0
 have HC0 := Aside0.mk hc0
 clear hr0 hc0
 have HB := Aside0.mk (Below.refl w.heap.size w)
 have H : ((spec_l13Scores.f k l0).bind fun t167 => (if t167 = true then ((spec_l01In.f a1 0 (wrap64 (Int.tdiv (wrap64 ((l0.length : Int) - 1)) 2))).bind fun t168 => (if t168 = true then (spec_DatumOf.j0 k l0 a1 ((l0.length : Int) == 0)) else (spec_DatumOf.j0 k l0 a1 true))) else (some (0, 1)))) = some (r1, r2) := h
 clear h
 replace H := Option.bind_eq_some_iff.mp H
 obtain ⟨t167, A30, H⟩ := H
 replace H : (if t167 = true then ((spec_l01In.f a1 0 (wrap64 (Int.tdiv (wrap64 ((l0.length : Int) - 1)) 2))).bind fun t168 => (if t168 = true then (spec_DatumOf.j0 k l0 a1 ((l0.length : Int) == 0)) else (spec_DatumOf.j0 k l0 a1 true))) else (some (0, 1))) = some (r1, r2) := H
 have A3 := Aside0.mk A30
 clear A30
 by_cases c4 : t167 = true
 ·subst c4
  have H1 : ((spec_l01In.f a1 0 (wrap64 (Int.tdiv (wrap64 ((l0.length : Int) - 1)) 2))).bind fun t168 => (if t168 = true then (spec_DatumOf.j0 k l0 a1 ((l0.length : Int) == 0)) else (spec_DatumOf.j0 k l0 a1 true))) = some (r1, r2) := by rw [if_pos rfl] at H; exact H
  clear H
  have H := H1
  clear H1
  have HC5 := Aside0.mk H
  clear H
  go_enter Try.func30, Try.ntmps30
  go_upto_region 3 with (first | ((with_reducible refine gate_callee (f := 37) rfl ?_); refine goesL_ (some 7) rfl rfl Try.func37 (by kernel_rfl) rfl #[.slice A0 l0.length c0] rfl (by (try simp only [List.map_toArray, List.map_cons, List.map_nil]); first | done | rfl | (simp only [List.length_drop, List.length_take]; rfl)) ?_; (with_reducible refine (spec_l13Scores.calls k _ _ l0 true _ ?side1 ?side2 A3.out).mono ?_); (case side1 => repeat (first | exact HR0.out | (with_reducible refine Kd.C_alloc ?_ _) | (with_reducible refine Kd.C_drewN ?_ _) | (with_reducible refine Kd.C_drew ?_))); (case side2 => exact HC0.out); rintro e w' ⟨rfl, ⟨nd, rfl⟩⟩; refine ⟨_, rfl, ?_⟩))
  (try simp only [Act.put, List.setIfInBounds_toArray, List.set_cons_zero, List.set_cons_succ])
  go_cut [20] (fun v20 wc => ∃ (kq : Nat) (x20_4 : Bool), v20 = .bool x20_4 ∧ Aside0 (spec_DatumOf.j0 kq l0 a1 x20_4 = some (r1, r2)) ∧ Aside0 (kq ≤ k) ∧ Aside0 (Below w.heap.size w wc))
  case first =>
   have H := HC5.out
   clear HC5
   replace H := Option.bind_eq_some_iff.mp H
   obtain ⟨t168, A60, H⟩ := H
   replace H : (if t168 = true then (spec_DatumOf.j0 k l0 a1 ((l0.length : Int) == 0)) else (spec_DatumOf.j0 k l0 a1 true)) = some (r1, r2) := H
   have A6 := Aside0.mk A60
   clear A60
   by_cases c7 : t168 = true
   ·subst c7
    have H1 : (spec_DatumOf.j0 k l0 a1 ((l0.length : Int) == 0)) = some (r1, r2) := by rw [if_pos rfl] at H; exact H
    clear H
    have H := H1
    clear H1
    have H' := Aside0.mk H
    clear H
    go_wp2_with (first | ((with_reducible refine gate_callee (f := 46) rfl ?_); refine goesL_ (some 14) rfl rfl Try.func46 (by kernel_rfl) rfl #[.int .i64 a1, .int .i64 0, .int .i64 (wrap64 (Int.tdiv (wrap64 ((l0.length : Int) - 1)) 2))] rfl (by (try simp only [List.map_toArray, List.map_cons, List.map_nil]); first | done | rfl | (simp only [List.length_drop, List.length_take]; rfl)) ?_; (with_reducible refine (spec_l01In.calls a1 0 (wrap64 (Int.tdiv (wrap64 ((l0.length : Int) - 1)) 2)) true _ A6.out).mono ?_); rintro e w' ⟨rfl, ⟨nd, rfl⟩⟩; refine ⟨_, rfl, ?_⟩))
    go_meet
    case rel => exact ⟨_, (((l0.length : Int) == 0)), (by first | rfl | (simp; done) | (simp [*]; done)), H', ⟨by first | omega | exact Nat.le_refl _⟩, ⟨by repeat (first | (with_reducible first | exact HB.out | apply below_alloc | apply pw_below_drewN | apply below_drew1) | exact HB.out)⟩⟩
   ·replace c7 := Bool.eq_false_iff.mpr c7
    subst c7
    have H1 : (spec_DatumOf.j0 k l0 a1 true) = some (r1, r2) := by rw [if_neg (show ¬ (false = true) by decide)] at H; exact H
    clear H
    have H := H1
    clear H1
    have H' := Aside0.mk H
    clear H
    go_wp2_with (first | ((with_reducible refine gate_callee (f := 46) rfl ?_); refine goesL_ (some 14) rfl rfl Try.func46 (by kernel_rfl) rfl #[.int .i64 a1, .int .i64 0, .int .i64 (wrap64 (Int.tdiv (wrap64 ((l0.length : Int) - 1)) 2))] rfl (by (try simp only [List.map_toArray, List.map_cons, List.map_nil]); first | done | rfl | (simp only [List.length_drop, List.length_take]; rfl)) ?_; (with_reducible refine (spec_l01In.calls a1 0 (wrap64 (Int.tdiv (wrap64 ((l0.length : Int) - 1)) 2)) false _ A6.out).mono ?_); rintro e w' ⟨rfl, ⟨nd, rfl⟩⟩; refine ⟨_, rfl, ?_⟩))
    go_meet
    case rel => exact ⟨_, (true), (by first | rfl | (simp; done) | (simp [*]; done)), H', ⟨by first | omega | exact Nat.le_refl _⟩, ⟨by repeat (first | (with_reducible first | exact HB.out | apply below_alloc | apply pw_below_drewN | apply below_drew1) | exact HB.out)⟩⟩
  case rest =>
   clear HC5
   try clear p2
   try clear c3
   try clear c4
   try clear p6
   try clear c7
   obtain ⟨kq, x20_4, rfl, HA, HJ4, HB⟩ := hcut
   cases kq with
   | zero => exact absurd HA.out (by simp [spec_DatumOf.j0])
   | succ kj4 =>
    have H := HA.out
    clear HA
    simp only [spec_DatumOf.j0] at H
    by_cases c8 : x20_4 = true
    ·subst c8
     have H1 : (some (0, 2)) = some (r1, r2) := by rw [if_pos rfl] at H; exact H
     clear H
     have H := H1
     clear H1
     simp only [Option.some.injEq, Prod.mk.injEq] at H
     obtain ⟨rfl, rfl⟩ := H
     go_wp2
     go_ret2
     exact ⟨by first | rfl | (simp [errW_none, errW_some] <;> rfl) | (simp [*, errW_none, errW_some] <;> rfl), by repeat (first | (with_reducible first | exact HB.out | apply below_alloc | apply pw_below_drewN | apply below_drew1) | exact HB.out)⟩
    ·replace c8 := Bool.eq_false_iff.mpr c8
     subst c8
     have H1 : ((spec_l13Sorted.f kj4 l0).bind fun t169 => ((spec_l13Datum.f kj4 t169 a1).bind fun t172 => (some (t172, 0)))) = some (r1, r2) := by rw [if_neg (show ¬ (false = true) by decide)] at H; exact H
     clear H
     have H := H1
     clear H1
     replace H := Option.bind_eq_some_iff.mp H
     obtain ⟨t169, A90, H⟩ := H
     replace H : ((spec_l13Datum.f kj4 t169 a1).bind fun t172 => (some (t172, 0))) = some (r1, r2) := H
     have A9 := Aside0.mk A90
     clear A90
     replace H := Option.bind_eq_some_iff.mp H
     obtain ⟨t172, A100, H⟩ := H
     replace H : (some (t172, 0)) = some (r1, r2) := H
     have A10 := Aside0.mk A100
     clear A100
     simp only [Option.some.injEq, Prod.mk.injEq] at H
     obtain ⟨rfl, rfl⟩ := H
     go_wp2_with (first | ((with_reducible refine gate_callee (f := 48) rfl ?_); refine goesL_ (some 22) rfl rfl Try.func48 (by kernel_rfl) rfl #[.slice A0 l0.length c0] rfl (by (try simp only [List.map_toArray, List.map_cons, List.map_nil]); first | done | rfl | (simp only [List.length_drop, List.length_take]; rfl)) ?_; (with_reducible refine (spec_l13Sorted.calls kj4 _ _ l0 t169 _ ?side1 ?side2 A9.out).mono ?_); (case side1 => repeat (first | exact (Kd.C_below HR0.out HB.out) | (with_reducible refine Kd.C_alloc ?_ _) | (with_reducible refine Kd.C_drewN ?_ _) | (with_reducible refine Kd.C_drew ?_))); (case side2 => exact HC0.out); rintro e w11 ⟨v170, rfl, ho0, hb⟩; refine ⟨_, rfl, ?_⟩; have n0_ := Aside0.mk (Kd.R_lower ho0 (below_size (by repeat (first | (with_reducible first | exact HB.out | apply below_alloc | apply pw_below_drewN | apply below_drew1) | exact HB.out)))); have n1_ := Aside0.mk (below_step (by repeat (first | (with_reducible first | exact HB.out | apply below_alloc | apply pw_below_drewN | apply below_drew1) | exact HB.out)) hb); clear HB; have HO171 := n0_; have HB := n1_; clear n0_ n1_; (try clear hb); (try clear hb2); (try clear hk); (try clear hi); (try clear ho0); obtain ⟨Ao12, co12, eo12⟩ := Kd.R_slice HO171.out; subst eo12) | ((with_reducible refine gate_callee (f := 47) rfl ?_); refine goesL_ (some 24) rfl rfl Try.func47 (by kernel_rfl) rfl #[.slice Ao12 t169.length co12, .int .i64 a1] rfl (by (try simp only [List.map_toArray, List.map_cons, List.map_nil]); first | done | rfl | (simp only [List.length_drop, List.length_take]; rfl)) ?_; (with_reducible refine (spec_l13Datum.calls kj4 _ _ t169 a1 t172 _ ?side1 ?side2 A10.out).mono ?_); (case side1 => repeat (first | exact (Kd.R_reads' HO171.out).2.2 | (with_reducible refine Kd.C_alloc ?_ _) | (with_reducible refine Kd.C_drewN ?_ _) | (with_reducible refine Kd.C_drew ?_))); (case side2 => exact (Kd.R_reads' HO171.out).2.1); rintro e w' ⟨rfl, ⟨nd, rfl⟩⟩; refine ⟨_, rfl, ?_⟩))
     go_ret2
     exact ⟨by first | rfl | (simp [errW_none, errW_some] <;> rfl) | (simp [*, errW_none, errW_some] <;> rfl), by repeat (first | (with_reducible first | exact HB.out | apply below_alloc | apply pw_below_drewN | apply below_drew1) | exact HB.out)⟩
 ·replace c4 := Bool.eq_false_iff.mpr c4
  subst c4
  have H1 : (some (0, 1)) = some (r1, r2) := by rw [if_neg (show ¬ (false = true) by decide)] at H; exact H
  clear H
  have H := H1
  clear H1
  simp only [Option.some.injEq, Prod.mk.injEq] at H
  obtain ⟨rfl, rfl⟩ := H
  go_enter Try.func30, Try.ntmps30
  go_wp2_with (first | ((with_reducible refine gate_callee (f := 37) rfl ?_); refine goesL_ (some 7) rfl rfl Try.func37 (by kernel_rfl) rfl #[.slice A0 l0.length c0] rfl (by (try simp only [List.map_toArray, List.map_cons, List.map_nil]); first | done | rfl | (simp only [List.length_drop, List.length_take]; rfl)) ?_; (with_reducible refine (spec_l13Scores.calls k _ _ l0 false _ ?side1 ?side2 A3.out).mono ?_); (case side1 => repeat (first | exact HR0.out | (with_reducible refine Kd.C_alloc ?_ _) | (with_reducible refine Kd.C_drewN ?_ _) | (with_reducible refine Kd.C_drew ?_))); (case side2 => exact HC0.out); rintro e w' ⟨rfl, ⟨nd, rfl⟩⟩; refine ⟨_, rfl, ?_⟩))
  go_ret2
  exact ⟨by first | rfl | (simp [errW_none, errW_some] <;> rfl) | (simp [*, errW_none, errW_some] <;> rfl), by repeat (first | (with_reducible first | exact HB.out | apply below_alloc | apply pw_below_drewN | apply below_drew1) | exact HB.out)⟩

/-! ### slices_IndexFunc_int64_int64: function 56 -/
/-- The place of the first element at which p holds, or -1. -/
def slices_IndexFunc_int64_int64.from_ (p : Int → Bool) : List Int → Int → Int
 | [], _ => -1
 | x :: xs, i => if p x = true then i else slices_IndexFunc_int64_int64.from_ p xs (i + 1)
theorem slices_IndexFunc_int64_int64.drop {xs : List Int} {i : Nat} (h : i < xs.length) : xs.drop i = rd xs (i : Int) :: xs.drop (i + 1) := by
 rw [show rd xs (i : Int) = xs[i] by simp [rd, List.getD_eq_getElem?_getD, h]]
 exact List.drop_eq_getElem_cons h
set_option maxHeartbeats 2000000 in
theorem slices_IndexFunc_int64_int64.walk (g : Nat) (p : Int → Bool) (hp : ∀ (x : Int) (W : World), Calls Try.prog g #[.int .i64 x] W fun e w' => e = .returned (.bool (p x)) ∧ ∃ q, w' = W.drewN q)
  (eg : ∀ args w, (callFunc g args).run Try.prog w = .ok (.enter g args) w)
  (A : Option Addr) (c : Nat) (l : List Int) (w : World) (hr : Kd.C (Kd.int .i64) w A l.length l) :
  Calls Try.prog 56 #[.slice A l.length c, .func (.func g) #[] #[]] w fun e w' => e = .returned (.int .i64 (slices_IndexFunc_int64_int64.from_ p l 0)) ∧ ∃ q, w' = w.drewN q := by
 have hbig : l.length ≤ 9223372036854775807 := hr.2.1
 have HR := Aside0.mk hr
 have HP := Aside0.mk hp
 clear hr hp
 go_enter Try.func56, Try.ntmps56
 go_wp2
 go_loopg [5, 8] l.length (fun gg _ s8 wr => ∃ kk q : Nat, kk ≤ l.length ∧ l.length - kk ≤ gg ∧ s8 = .int .i64 kk ∧ wr = w.drewN q ∧ Aside0 (slices_IndexFunc_int64_int64.from_ p l 0 = slices_IndexFunc_int64_int64.from_ p (l.drop kk) kk))
 case atStart => exact ⟨0, 0, Nat.zero_le _, by omega, rfl, rfl, ⟨by simp⟩⟩
 case round =>
  obtain ⟨kk, q, hkk, hg, rfl, rfl, F⟩ := hrel
  by_cases hlt : kk < l.length
  ·have hltz : (kk : Int) < (l.length : Int) := by omega
   obtain ⟨ad, rfl, hcell⟩ := Kd.at_int HR.out (kk : Int) (by omega) hltz
   rw [Int.toNat_natCast] at hcell
   have F2 := Aside0.mk (F.out.trans (by rw [slices_IndexFunc_int64_int64.drop hlt]; rfl : _ = if p (rd l kk) = true then (kk : Int) else slices_IndexFunc_int64_int64.from_ p (l.drop (kk + 1)) (kk + 1)))
   clear F
   generalize hy : rd l kk = y at hcell F2
   clear hy
   have hcall := Aside0.mk (fun W => HP.out y W)
   cases hq : p y with
   | true =>
    rw [hq] at hcall F2
    clear hq
    go_wp2_with (go_at_fn g; refine (hcall.out _).mono ?_; rintro e w' ⟨rfl, q', rfl⟩)
    go_ret
    exact ⟨by rw [F2.out]; simp, _, rfl⟩
   | false =>
    rw [hq] at hcall F2
    clear hq
    go_wp2_with (go_at_fn g; refine (hcall.out _).mono ?_; rintro e w' ⟨rfl, q', rfl⟩)
    go_roundg (l.length - (kk + 1))
    case measure => omega
    case rel => exact ⟨kk + 1, _, by omega, by omega, by go_num, rfl, ⟨by rw [F2.out]; simp⟩⟩
  ·have hltz : ¬ (kk : Int) < (l.length : Int) := by omega
   have F2 := Aside0.mk (F.out.trans (by rw [List.drop_eq_nil_of_le (by omega)]; rfl : _ = (-1 : Int)))
   clear F
   go_wp2
   go_ret
   exact ⟨by rw [F2.out]; first | done | rfl | simp, q, rfl⟩

/-! ### slices_ContainsFunc_int64_int64: function 51 -/
theorem slices_ContainsFunc_int64_int64.pos (p : Int → Bool) : ∀ (l : List Int) (i : Int), 0 ≤ i → (0 ≤ slices_IndexFunc_int64_int64.from_ p l i ↔ l.any p = true)
 | [], _, _ => by simp [slices_IndexFunc_int64_int64.from_]
 | x :: xs, i, h => by
  simp only [slices_IndexFunc_int64_int64.from_, List.any_cons]
  by_cases c : p x = true
  ·rw [if_pos c, c]; simp [h]
  ·rw [if_neg c, slices_ContainsFunc_int64_int64.pos p xs (i + 1) (by omega)]; simp [c]
theorem slices_ContainsFunc_int64_int64.sign (p : Int → Bool) (l : List Int) : decide (0 ≤ slices_IndexFunc_int64_int64.from_ p l 0) = l.any p := by
 rw [Bool.eq_iff_iff, decide_eq_true_iff]; exact slices_ContainsFunc_int64_int64.pos p l 0 (Int.le_refl 0)
set_option maxHeartbeats 2000000 in
theorem slices_ContainsFunc_int64_int64.walk (g : Nat) (p : Int → Bool) (hp : ∀ (x : Int) (W : World), Calls Try.prog g #[.int .i64 x] W fun e w' => e = .returned (.bool (p x)) ∧ ∃ q, w' = W.drewN q)
  (eg : ∀ args w, (callFunc g args).run Try.prog w = .ok (.enter g args) w)
  (A : Option Addr) (c : Nat) (l : List Int) (w : World) (hr : Kd.C (Kd.int .i64) w A l.length l) :
  Calls Try.prog 51 #[.slice A l.length c, .func (.func g) #[] #[]] w fun e w' => e = .returned (.bool (l.any p)) ∧ ∃ q, w' = w.drewN q := by
 have HC := Aside0.mk (slices_IndexFunc_int64_int64.walk g p hp eg A c l w hr)
 have HS := Aside0.mk (slices_ContainsFunc_int64_int64.sign p l)
 clear hr hp
 generalize slices_IndexFunc_int64_int64.from_ p l 0 = i at HC HS
 go_enter Try.func51, Try.ntmps51
 go_wp2_with (go_at_call 56; refine HC.out.mono ?_; rintro e w' ⟨rfl, q, rfl⟩)
 go_ret
 exact ⟨by rw [HS.out]; rfl, _, rfl⟩

/-! ### impl_within: function 57 -/
def impl_within.f (a0 : Int) (a1 : Int) (a2 : Int) : Option (Bool) := if a1 ≤ a0 then (some (decide (a0 ≤ a2))) else (some false)
set_option maxHeartbeats 8000000 in
set_option maxRecDepth 100000 in
theorem impl_within.calls (a0 : Int) (a1 : Int) (a2 : Int) (r : Bool) (w : World) (h : impl_within.f a0 a1 a2 = some r) :
  Calls Try.prog 57 #[.int .i64 a0, .int .i64 a1, .int .i64 a2] w fun e w' => e = .returned (.bool r) ∧ Drawn0 w w' := by
 have H : (if a1 ≤ a0 then (some (decide (a0 ≤ a2))) else (some false)) = some r := h
 clear h
 by_cases c4 : a1 ≤ a0
 ·rw [if_pos c4] at H
  have c4b0 : decide (a1 ≤ a0) = true := decide_eq_true c4
  clear c4
  obtain rfl := Option.some.inj H
  go_enter Try.func57, Try.ntmps57
  go_wp2
  go_ret
  exact ⟨by first | rfl | (simp; done) | (simp [*]; done), by repeat (first | exact Drawn0.refl _ | apply Drawn0.step)⟩
 ·rw [if_neg c4] at H
  have c4b0 : decide (a1 ≤ a0) = false := decide_eq_false c4
  clear c4
  obtain rfl := Option.some.inj H
  go_enter Try.func57, Try.ntmps57
  go_wp2
  go_ret
  exact ⟨by first | rfl | (simp; done) | (simp [*]; done), by repeat (first | exact Drawn0.refl _ | apply Drawn0.step)⟩

/-! ### impl_isScore: function 53 -/
def impl_isScore.f (a0 : Int) : Option (Bool) := (impl_within.f a0 (-100000) 100000).bind fun t173 => (some t173)
set_option maxHeartbeats 8000000 in
set_option maxRecDepth 100000 in
theorem impl_isScore.calls (a0 : Int) (r : Bool) (w : World) (h : impl_isScore.f a0 = some r) :
  Calls Try.prog 53 #[.int .i64 a0] w fun e w' => e = .returned (.bool r) ∧ Drawn0 w w' := by
 have H : ((impl_within.f a0 (-100000) 100000).bind fun t173 => (some t173)) = some r := h
 clear h
 replace H := Option.bind_eq_some_iff.mp H
 obtain ⟨t173, A20, H⟩ := H
 replace H : (some t173) = some r := H
 have A2 := Aside0.mk A20
 clear A20
 obtain rfl := Option.some.inj H
 go_enter Try.func53, Try.ntmps53
 go_wp2_with (first | ((with_reducible refine gate_callee (f := 57) rfl ?_); refine goesL_ (some 4) rfl rfl Try.func57 (by kernel_rfl) rfl #[.int .i64 a0, .int .i64 (-100000), .int .i64 100000] rfl (by (try simp only [List.map_toArray, List.map_cons, List.map_nil]); first | done | rfl | (simp only [List.length_drop, List.length_take]; rfl)) ?_; (with_reducible refine (impl_within.calls a0 (-100000) 100000 t173 _ A2.out).mono ?_); rintro e w' ⟨rfl, ⟨nd, rfl⟩⟩; refine ⟨_, rfl, ?_⟩))
 go_ret
 exact ⟨by first | rfl | (simp; done) | (simp [*]; done), by repeat (first | exact Drawn0.refl _ | apply Drawn0.step)⟩

/-! ### impl_areTeamScores_1: function 52 -/
def impl_areTeamScores_1.f (a0 : Int) : Option (Bool) := (impl_isScore.f a0).bind fun t174 => (some (!t174))
set_option maxHeartbeats 8000000 in
set_option maxRecDepth 100000 in
theorem impl_areTeamScores_1.calls (a0 : Int) (r : Bool) (w : World) (h : impl_areTeamScores_1.f a0 = some r) :
  Calls Try.prog 52 #[.int .i64 a0] w fun e w' => e = .returned (.bool r) ∧ Drawn0 w w' := by
 have H : ((impl_isScore.f a0).bind fun t174 => (some (!t174))) = some r := h
 clear h
 replace H := Option.bind_eq_some_iff.mp H
 obtain ⟨t174, A20, H⟩ := H
 replace H : (some (!t174)) = some r := H
 have A2 := Aside0.mk A20
 clear A20
 obtain rfl := Option.some.inj H
 go_enter Try.func52, Try.ntmps52
 go_wp2_with (first | ((with_reducible refine gate_callee (f := 53) rfl ?_); refine goesL_ (some 4) rfl rfl Try.func53 (by kernel_rfl) rfl #[.int .i64 a0] rfl (by (try simp only [List.map_toArray, List.map_cons, List.map_nil]); first | done | rfl | (simp only [List.length_drop, List.length_take]; rfl)) ?_; (with_reducible refine (impl_isScore.calls a0 t174 _ A2.out).mono ?_); rintro e w' ⟨rfl, ⟨nd, rfl⟩⟩; refine ⟨_, rfl, ?_⟩))
 go_ret
 exact ⟨by first | rfl | (simp; done) | (simp [*]; done), by repeat (first | exact Drawn0.refl _ | apply Drawn0.step)⟩

/-! ### impl_areTeamScores: function 39 -/
/-- Are these good scores? -/
def impl_areTeamScores.ok (l : List Int) : Bool := decide (l.length ≤ 100) && l.all fun x => decide (-100000 ≤ x) && decide (x ≤ 100000)
def impl_areTeamScores.f (l0 : List Int) : Option (Bool) := some (impl_areTeamScores.ok l0)
theorem impl_areTeamScores.clo (x : Int) (W : World) : Calls Try.prog 52 #[.int .i64 x] W fun e w' => e = .returned (.bool (!(decide (-100000 ≤ x) && decide (x ≤ 100000)))) ∧ ∃ q, w' = W.drewN q := by
 refine (impl_areTeamScores_1.calls x _ W (?_ : impl_areTeamScores_1.f x = some _)).mono fun e w' h => ⟨h.1, h.2.out⟩
 simp only [impl_areTeamScores_1.f, impl_isScore.f, impl_within.f]
 by_cases h : -100000 ≤ x <;> simp [h]
set_option maxHeartbeats 2000000 in
theorem impl_areTeamScores.calls (A0 : Option Addr) (c0 : Nat) (l0 : List Int) (r : Bool) (w : World) (hr0 : Kd.C (Kd.int .i64) w A0 l0.length l0) (hc0 : l0.length ≤ c0) (h : impl_areTeamScores.f l0 = some r) :
  Calls Try.prog 39 #[.slice A0 l0.length c0] w fun e w' => e = .returned (.bool r) ∧ Drawn0 w w' := by
 have eg := enters_of Try.func52 (by kernel_rfl) rfl
 have HC := Aside0.mk (slices_ContainsFunc_int64_int64.walk 52 _ impl_areTeamScores.clo eg A0 c0 l0)
 have hbig : l0.length ≤ 9223372036854775807 := hr0.2.1
 have HR := Aside0.mk hr0
 clear eg hr0
 by_cases hl : l0.length ≤ 100
 ·have hlz : decide ((l0.length : Int) ≤ 100) = true := decide_eq_true (by omega)
  have hln : decide (l0.length ≤ 100) = true := decide_eq_true hl
  have HE : Aside0 (r = !(l0.any fun x => !(decide (-100000 ≤ x) && decide (x ≤ 100000)))) := ⟨by
   have := (Option.some.inj h).symm
   rw [this]; unfold impl_areTeamScores.ok; rw [hln, Bool.true_and, List.all_eq_not_any_not]⟩
  clear h hl
  generalize (l0.any fun x => !(decide (-100000 ≤ x) && decide (x ≤ 100000))) = b at HC HE
  go_enter Try.func39, Try.ntmps39
  go_wp2_with (go_at_call 51; refine (HC.out _ HR.out).mono ?_; rintro e w' ⟨rfl, q, rfl⟩)
  go_ret
  exact ⟨by rw [HE.out]; rfl, ⟨_, rfl⟩⟩
 ·have hlz : decide ((l0.length : Int) ≤ 100) = false := decide_eq_false (by omega)
  have hln : decide (l0.length ≤ 100) = false := decide_eq_false hl
  have HE : Aside0 (r = false) := ⟨by
   have := (Option.some.inj h).symm
   rw [this]; unfold impl_areTeamScores.ok; rw [hln, Bool.false_and]⟩
  clear h hl
  go_enter Try.func39, Try.ntmps39
  go_wp2
  go_ret
  exact ⟨by rw [HE.out]; rfl, ⟨0, rfl⟩⟩

/-! ### slices_Clone_int64_int64: function 49 -/
def slices_Clone_int64_int64.f (l0 : List Int) : Option (List Int) := if l0.length < 17592186044416 then some l0 else none
set_option maxHeartbeats 2000000 in
set_option maxRecDepth 100000 in
theorem slices_Clone_int64_int64.calls (A0 : Option Addr) (c0 : Nat) (l0 : List Int) (r : List Int) (w : World) (hr0 : Kd.C (Kd.int .i64) w A0 l0.length l0) (hc0 : l0.length ≤ c0) (h : slices_Clone_int64_int64.f l0 = some r) :
  Calls Try.prog 49 #[.slice A0 l0.length c0] w fun e w' => ∃ v0_ : Value, e = .returned (v0_) ∧ Kd.R (Kd.int .i64) 2 w' w.heap.size (fun _ => True) v0_ r ∧ Below w.heap.size w w' := by
 have q : ∀ (w : World) (a : Option Addr) (n c : Nat), (binOp .eql 22 (.slice a n c) (.slice none 0 0)).run Try.prog w = .ok (.bool a.isNone) w := fun w a n c => _root_.Go.run_eql_slice_nil w _ _ a n c Try.underlying22
 unfold slices_Clone_int64_int64.f at h
 by_cases hl : l0.length < 17592186044416
 ·rw [if_pos hl] at h
  obtain rfl := Option.some.inj h
  clear h
  have HR := Aside0.mk hr0
  clear hr0
  cases A0 with
  | none =>
   have e0 : l0 = [] := by
    cases l0 with
    | nil => rfl
    | cons x xs => obtain ⟨ad, e, _⟩ := HR.out.2.2 (by simp); cases e
   subst e0
   go_enter Try.func49, Try.ntmps49
   go_wp2
   go_ret
   exact ⟨_, rfl, Kd.R_nil _ _ _ _ _, Below.refl _ _⟩
  | some ad =>
   have HL := Aside0.mk hl
   clear hl
   go_enter Try.func49, Try.ntmps49
   go_wp2_with (first | ((with_reducible refine gate_dst (N := 5) rfl ?_); refine Kd.R_lit (Kd.int .i64) w.heap.size 2 ?hg (N := 5) ?hd (xs := ([] : List Int)) (inner := []) (ok := fun _ => True) (okp := fun _ => True) ?hr ?hp (fun _ hk => hk) trivial (Below.refl _ _) (Nat.le_refl _) (by simp) ?_; (case hd => rfl); (case hg => rfl); (case hr => first | (go_simp; done) | (go_simp; rfl)); (case hp => exact (Reps.none _ _)); intro v1 w1 ho hb hgr hnew; have HO := Aside0.mk ho; have HB := Aside0.mk hb; clear ho hb hgr hnew) | (at_builtin; refine Kd.R_append_row (Value.int .i64) (0 : Int) (w0 := w) w.heap.size rfl _ _ 22 2 (.int .i64 0) 8 rfl Try.underlying22 info2 rfl (by decide) _ [] l0 (some ad) l0.length c0 (fun _ => True) rfl rfl (fun _ _ => trivial) HO.out (Kd.C_below HR.out HB.out) HB.out HB.out.size (by have := HL.out; simp; omega) ?_; intro v2 w2 ho2 hb2 hg2 hn2; have HO2 := Aside0.mk ho2; have HB2 := Aside0.mk hb2; clear ho2 hb2 hg2 hn2))
   go_ret
   exact ⟨_, rfl, HO2.out, HB2.out⟩
 ·rw [if_neg hl] at h
  cases h

/-! ### slices_Sort_int64_int64: function 50 -/
def slices_Sort_int64_int64.f (l0 : List Int) : Option (List Int) := if l0.length < 4611686018427387904 then some (l0.mergeSort fun x y => decide (x ≤ y)) else none
theorem slices_Sort_int64_int64.calls (P0_ : Nat → Prop) (u9000_ : Value) (l0 : List Int) (r : List Int) (w0 w : World) (hB : Below w0.heap.size w0 w) (ho0 : Kd.R (Kd.int .i64) 2 w w0.heap.size P0_ u9000_ l0) (h : slices_Sort_int64_int64.f l0 = some r) :
  Calls Try.prog 50 #[u9000_] w fun e w' => e = .returned (.tuple #[]) ∧ Kd.R (Kd.int .i64) 2 w' w0.heap.size (fun k_ => (P0_ k_ ∨ w.heap.size ≤ k_)) u9000_ r ∧ Below w0.heap.size w0 w' ∧ Kept w w' (fun k_ => P0_ k_) := by
 unfold slices_Sort_int64_int64.f at h
 by_cases hl : l0.length < 4611686018427387904
 ·rw [if_pos hl] at h
  obtain rfl := Option.some.inj h
  have ho := Kd.own_of_R ho0
  rcases ho.2 with ⟨rfl, h0⟩ | ⟨g, cap, cur, rfl, hbase, hheap, hn, hcap, hsz, htake⟩
  ·have e0 : l0 = [] := List.eq_nil_of_length_eq_zero h0
   subst e0
   refine (AnyM.slices_Sort_int_none Try.sortLays none 0 w).mono ?_
   rintro e w' ⟨rfl, rfl⟩
   exact ⟨rfl, by rw [show ([] : List Int).mergeSort (fun x y => decide (x ≤ y)) = [] by simp]; exact Kd.R_mono ho0 (fun k hk => .inl hk), hB, Kept.refl _ _⟩
  ·have hg : g < w.heap.size := (Array.getElem?_eq_some_iff.1 hheap).1
   have hH := holds_of_blockI (ss := l0) hheap (by simpa [encs] using htake)
   refine (AnyM.slices_Sort_int Try.sortLays g 0 cap l0 w hH hg hl).mono ?_
   rintro e w' ⟨rfl, n, os, rfl⟩
   have hgr := grownBy_sortedI (w := w) (g := g) (n := n) (os := os) (l0.mergeSort fun x y => decide (x ≤ y)).toArray
   have hs := ownsRow_sortedI (n := n) (os := os) (ss := l0) (ts := l0.mergeSort fun x y => decide (x ≤ y)) (by rw [List.length_mergeSort]) hbase hheap hn hcap hsz
   refine ⟨rfl, ?_, ⟨hgr.os.trans hB.os, hgr.tape.trans hB.tape, hgr.output.trans hB.output, Nat.le_trans hB.size hgr.size, fun i hi => (hgr.block i (Nat.lt_of_lt_of_le hi hB.size) (fun e => by cases e; omega)).trans (hB.block i hi)⟩, ⟨hgr.size, fun i hi hni => hgr.block i hi (fun e => hni (ho0.1 i (by cases e; rfl)))⟩⟩
   exact Kd.R_of_own (by rw [List.length_mergeSort]; exact hs) (fun k hk => .inl (ho0.1 k hk))
 ·rw [if_neg hl] at h
  cases h

/-! ### impl_DatumOf: function 31 -/
def impl_DatumOf.l0 : Nat → Int → Int → Int → List Int → Int → Int → Option (Int × Int)
 | 0, _, _, _, _, _, _ => none
 | k + 1, x1, x6, x8, x43, x44, x45 => if x45 < x44 then (if 0 ≤ x45 then (if x45 < (x43.length : Int) then (impl_DatumOf.l0 k x1 x6 (wrap64 (x8 + (rd x43 x45))) x43 x44 (wrap64 (x45 + 1))) else (none)) else (none)) else (if (wrap64 (10 * (wrap64 (x6 - (wrap64 (2 * x1)))))) = 0 then (none) else (if (wrap64 (2 * (Int.tmod (mx x8 (wrap64 (-x8))) (wrap64 (10 * (wrap64 (x6 - (wrap64 (2 * x1))))))))) > (wrap64 (10 * (wrap64 (x6 - (wrap64 (2 * x1)))))) then (if x8 < 0 then (some (wrap64 (-(wrap64 ((wrap64 ((wrap64 (Int.tdiv (mx x8 (wrap64 (-x8))) (wrap64 (10 * (wrap64 (x6 - (wrap64 (2 * x1)))))))) * 10)) + 10))), 0)) else (some (wrap64 ((wrap64 ((wrap64 (Int.tdiv (mx x8 (wrap64 (-x8))) (wrap64 (10 * (wrap64 (x6 - (wrap64 (2 * x1)))))))) * 10)) + 10), 0))) else (if x8 < 0 then (some (wrap64 (-(wrap64 ((wrap64 (Int.tdiv (mx x8 (wrap64 (-x8))) (wrap64 (10 * (wrap64 (x6 - (wrap64 (2 * x1)))))))) * 10))), 0)) else (some (wrap64 ((wrap64 (Int.tdiv (mx x8 (wrap64 (-x8))) (wrap64 (10 * (wrap64 (x6 - (wrap64 (2 * x1)))))))) * 10), 0)))))
def impl_DatumOf.f (k : Nat) (l0 : List Int) (a1 : Int) : Option (Int × Int) := (impl_areTeamScores.f l0).bind fun t175 => (if t175 = true then (if a1 < 0 then (some (0, 2)) else (if a1 > (wrap64 (Int.tdiv (wrap64 ((l0.length : Int) - 1)) 2)) then (some (0, 2)) else (if (l0.length : Int) = 0 then (some (0, 2)) else ((slices_Clone_int64_int64.f l0).bind fun t176 => ((slices_Sort_int64_int64.f t176).bind fun t179 => (if 0 ≤ a1 then (if a1 ≤ (wrap64 ((l0.length : Int) - a1)) then (if (wrap64 ((l0.length : Int) - a1)) ≤ (t176.length : Int) then ((some ((t179.take ((wrap64 ((l0.length : Int) - a1)) : Int).toNat).drop (a1 : Int).toNat : List Int)).bind fun y180 => (impl_DatumOf.l0 k a1 (l0.length : Int) 0 y180 (y180.length : Int) 0)) else (none)) else (none)) else (none))))))) else (some (0, 1)))
theorem impl_DatumOf.mono_l : ∀ k, (∀ y0 y1 y2 y3 y4 y5, LeO (impl_DatumOf.l0 k y0 y1 y2 y3 y4 y5) (impl_DatumOf.l0 (k + 1) y0 y1 y2 y3 y4 y5))
 | 0 => fun _ _ _ _ _ _ r h => by simp [impl_DatumOf.l0] at h
 | k + 1 => by
  have ih0 := impl_DatumOf.mono_l k
  ·intro y0 y1 y2 y3 y4 y5
   unfold impl_DatumOf.l0
   repeat' first
   | (with_reducible exact ih0 _ _ _ _ _ _)
   | (with_reducible exact LeO.refl _)
   | (with_reducible exact LeO.none _)
   | (with_reducible refine LeO.ite ?_ ?_)
   | (with_reducible refine LeO.bind ?_ (fun _ => ?_))
   | exact ih0 _ _ _ _ _ _
   | exact LeO.none _
   | refine LeO.ite ?_ ?_
   | refine LeO.bind ?_ (fun _ => ?_)
theorem impl_DatumOf.mono : ∀ a0 a1 k, LeO (impl_DatumOf.f k a0 a1) (impl_DatumOf.f (k + 1) a0 a1) := by
 intro a0 a1 k
 have ih0 := impl_DatumOf.mono_l k
 unfold impl_DatumOf.f
 repeat' first
   | (with_reducible exact ih0 _ _ _ _ _ _)
   | (with_reducible exact LeO.refl _)
   | (with_reducible exact LeO.none _)
   | (with_reducible refine LeO.ite ?_ ?_)
   | (with_reducible refine LeO.bind ?_ (fun _ => ?_))
   | exact ih0 _ _ _ _ _ _
   | exact LeO.none _
   | refine LeO.ite ?_ ?_
   | refine LeO.bind ?_ (fun _ => ?_)
set_option maxHeartbeats 8000000 in
set_option maxRecDepth 100000 in
theorem impl_DatumOf.calls (k : Nat) (A0 : Option Addr) (c0 : Nat) (l0 : List Int) (a1 : Int) (r1 : Int) (r2 : Int) (w : World) (hr0 : Kd.C (Kd.int .i64) w A0 l0.length l0) (hc0 : l0.length ≤ c0) (h : impl_DatumOf.f k l0 a1 = some (r1, r2)) :
  Calls Try.prog 31 #[.slice A0 l0.length c0, .int .i64 a1] w fun e w' => e = .returned (.tuple #[.int .i64 r1, .int .i64 r2]) ∧ Below w.heap.size w w' := by
 have HR0 := Aside0.mk hr0
 have HC0 := Aside0.mk hc0
 clear hr0 hc0
 have HB := Aside0.mk (Below.refl w.heap.size w)
 have H : ((impl_areTeamScores.f l0).bind fun t175 => (if t175 = true then (if a1 < 0 then (some (0, 2)) else (if a1 > (wrap64 (Int.tdiv (wrap64 ((l0.length : Int) - 1)) 2)) then (some (0, 2)) else (if (l0.length : Int) = 0 then (some (0, 2)) else ((slices_Clone_int64_int64.f l0).bind fun t176 => ((slices_Sort_int64_int64.f t176).bind fun t179 => (if 0 ≤ a1 then (if a1 ≤ (wrap64 ((l0.length : Int) - a1)) then (if (wrap64 ((l0.length : Int) - a1)) ≤ (t176.length : Int) then ((some ((t179.take ((wrap64 ((l0.length : Int) - a1)) : Int).toNat).drop (a1 : Int).toNat : List Int)).bind fun y180 => (impl_DatumOf.l0 k a1 (l0.length : Int) 0 y180 (y180.length : Int) 0)) else (none)) else (none)) else (none))))))) else (some (0, 1)))) = some (r1, r2) := h
 clear h
 replace H := Option.bind_eq_some_iff.mp H
 obtain ⟨t175, A30, H⟩ := H
 replace H : (if t175 = true then (if a1 < 0 then (some (0, 2)) else (if a1 > (wrap64 (Int.tdiv (wrap64 ((l0.length : Int) - 1)) 2)) then (some (0, 2)) else (if (l0.length : Int) = 0 then (some (0, 2)) else ((slices_Clone_int64_int64.f l0).bind fun t176 => ((slices_Sort_int64_int64.f t176).bind fun t179 => (if 0 ≤ a1 then (if a1 ≤ (wrap64 ((l0.length : Int) - a1)) then (if (wrap64 ((l0.length : Int) - a1)) ≤ (t176.length : Int) then ((some ((t179.take ((wrap64 ((l0.length : Int) - a1)) : Int).toNat).drop (a1 : Int).toNat : List Int)).bind fun y180 => (impl_DatumOf.l0 k a1 (l0.length : Int) 0 y180 (y180.length : Int) 0)) else (none)) else (none)) else (none))))))) else (some (0, 1))) = some (r1, r2) := H
 have A3 := Aside0.mk A30
 clear A30
 by_cases c4 : t175 = true
 ·subst c4
  have H1 : (if a1 < 0 then (some (0, 2)) else (if a1 > (wrap64 (Int.tdiv (wrap64 ((l0.length : Int) - 1)) 2)) then (some (0, 2)) else (if (l0.length : Int) = 0 then (some (0, 2)) else ((slices_Clone_int64_int64.f l0).bind fun t176 => ((slices_Sort_int64_int64.f t176).bind fun t179 => (if 0 ≤ a1 then (if a1 ≤ (wrap64 ((l0.length : Int) - a1)) then (if (wrap64 ((l0.length : Int) - a1)) ≤ (t176.length : Int) then ((some ((t179.take ((wrap64 ((l0.length : Int) - a1)) : Int).toNat).drop (a1 : Int).toNat : List Int)).bind fun y180 => (impl_DatumOf.l0 k a1 (l0.length : Int) 0 y180 (y180.length : Int) 0)) else (none)) else (none)) else (none))))))) = some (r1, r2) := by rw [if_pos rfl] at H; exact H
  clear H
  have H := H1
  clear H1
  by_cases c5 : a1 < 0
  ·rw [if_pos c5] at H
   have c5b0 : decide (a1 < 0) = true := decide_eq_true c5
   clear c5
   simp only [Option.some.injEq, Prod.mk.injEq] at H
   obtain ⟨rfl, rfl⟩ := H
   go_enter Try.func31, Try.ntmps31
   go_wp2_with (first | ((with_reducible refine gate_callee (f := 39) rfl ?_); refine goesL_ (some 18) rfl rfl Try.func39 (by kernel_rfl) rfl #[.slice A0 l0.length c0] rfl (by (try simp only [List.map_toArray, List.map_cons, List.map_nil]); first | done | rfl | (simp only [List.length_drop, List.length_take]; rfl)) ?_; (with_reducible refine (impl_areTeamScores.calls _ _ l0 true _ ?side1 ?side2 A3.out).mono ?_); (case side1 => repeat (first | exact HR0.out | (with_reducible refine Kd.C_alloc ?_ _) | (with_reducible refine Kd.C_drewN ?_ _) | (with_reducible refine Kd.C_drew ?_))); (case side2 => exact HC0.out); rintro e w' ⟨rfl, ⟨nd, rfl⟩⟩; refine ⟨_, rfl, ?_⟩))
   go_ret2
   exact ⟨by first | rfl | (simp [errW_none, errW_some] <;> rfl) | (simp [*, errW_none, errW_some] <;> rfl), by repeat (first | (with_reducible first | exact HB.out | apply below_alloc | apply pw_below_drewN | apply below_drew1) | exact HB.out)⟩
  ·rw [if_neg c5] at H
   have c5b0 : decide (a1 < 0) = false := decide_eq_false c5
   clear c5
   by_cases c6 : a1 > (wrap64 (Int.tdiv (wrap64 ((l0.length : Int) - 1)) 2))
   ·rw [if_pos c6] at H
    have c6b0 : decide ((wrap64 (Int.tdiv (wrap64 ((l0.length : Int) - 1)) 2)) < a1) = true := decide_eq_true c6
    clear c6
    simp only [Option.some.injEq, Prod.mk.injEq] at H
    obtain ⟨rfl, rfl⟩ := H
    go_enter Try.func31, Try.ntmps31
    go_wp2_with (first | ((with_reducible refine gate_callee (f := 39) rfl ?_); refine goesL_ (some 18) rfl rfl Try.func39 (by kernel_rfl) rfl #[.slice A0 l0.length c0] rfl (by (try simp only [List.map_toArray, List.map_cons, List.map_nil]); first | done | rfl | (simp only [List.length_drop, List.length_take]; rfl)) ?_; (with_reducible refine (impl_areTeamScores.calls _ _ l0 true _ ?side1 ?side2 A3.out).mono ?_); (case side1 => repeat (first | exact HR0.out | (with_reducible refine Kd.C_alloc ?_ _) | (with_reducible refine Kd.C_drewN ?_ _) | (with_reducible refine Kd.C_drew ?_))); (case side2 => exact HC0.out); rintro e w' ⟨rfl, ⟨nd, rfl⟩⟩; refine ⟨_, rfl, ?_⟩))
    go_ret2
    exact ⟨by first | rfl | (simp [errW_none, errW_some] <;> rfl) | (simp [*, errW_none, errW_some] <;> rfl), by repeat (first | (with_reducible first | exact HB.out | apply below_alloc | apply pw_below_drewN | apply below_drew1) | exact HB.out)⟩
   ·rw [if_neg c6] at H
    have c6b0 : decide ((wrap64 (Int.tdiv (wrap64 ((l0.length : Int) - 1)) 2)) < a1) = false := decide_eq_false c6
    clear c6
    by_cases c7 : (l0.length : Int) = 0
    ·rw [if_pos c7] at H
     have c7b0 : ((l0.length : Int) == 0) = true := beq_iff_eq.mpr c7
     have c7b1 : ((l0.length : Int) != 0) = false := bne_eq_false_iff_eq.mpr c7
     clear c7
     simp only [Option.some.injEq, Prod.mk.injEq] at H
     obtain ⟨rfl, rfl⟩ := H
     go_enter Try.func31, Try.ntmps31
     go_wp2_with (first | ((with_reducible refine gate_callee (f := 39) rfl ?_); refine goesL_ (some 18) rfl rfl Try.func39 (by kernel_rfl) rfl #[.slice A0 l0.length c0] rfl (by (try simp only [List.map_toArray, List.map_cons, List.map_nil]); first | done | rfl | (simp only [List.length_drop, List.length_take]; rfl)) ?_; (with_reducible refine (impl_areTeamScores.calls _ _ l0 true _ ?side1 ?side2 A3.out).mono ?_); (case side1 => repeat (first | exact HR0.out | (with_reducible refine Kd.C_alloc ?_ _) | (with_reducible refine Kd.C_drewN ?_ _) | (with_reducible refine Kd.C_drew ?_))); (case side2 => exact HC0.out); rintro e w' ⟨rfl, ⟨nd, rfl⟩⟩; refine ⟨_, rfl, ?_⟩))
     go_ret2
     exact ⟨by first | rfl | (simp [errW_none, errW_some] <;> rfl) | (simp [*, errW_none, errW_some] <;> rfl), by repeat (first | (with_reducible first | exact HB.out | apply below_alloc | apply pw_below_drewN | apply below_drew1) | exact HB.out)⟩
    ·rw [if_neg c7] at H
     have c7b0 : ((l0.length : Int) == 0) = false := beq_eq_false_iff_ne.mpr c7
     have c7b1 : ((l0.length : Int) != 0) = true := bne_iff_ne.mpr c7
     have c7b2 : ¬ (l0 = []) := fun h_ => c7 (by rw [h_]; rfl)
     replace H := Option.bind_eq_some_iff.mp H
     obtain ⟨t176, A80, H⟩ := H
     replace H : ((slices_Sort_int64_int64.f t176).bind fun t179 => (if 0 ≤ a1 then (if a1 ≤ (wrap64 ((l0.length : Int) - a1)) then (if (wrap64 ((l0.length : Int) - a1)) ≤ (t176.length : Int) then ((some ((t179.take ((wrap64 ((l0.length : Int) - a1)) : Int).toNat).drop (a1 : Int).toNat : List Int)).bind fun y180 => (impl_DatumOf.l0 k a1 (l0.length : Int) 0 y180 (y180.length : Int) 0)) else (none)) else (none)) else (none))) = some (r1, r2) := H
     have A8 := Aside0.mk A80
     clear A80
     replace H := Option.bind_eq_some_iff.mp H
     obtain ⟨t179, A90, H⟩ := H
     replace H : (if 0 ≤ a1 then (if a1 ≤ (wrap64 ((l0.length : Int) - a1)) then (if (wrap64 ((l0.length : Int) - a1)) ≤ (t176.length : Int) then ((some ((t179.take ((wrap64 ((l0.length : Int) - a1)) : Int).toNat).drop (a1 : Int).toNat : List Int)).bind fun y180 => (impl_DatumOf.l0 k a1 (l0.length : Int) 0 y180 (y180.length : Int) 0)) else (none)) else (none)) else (none)) = some (r1, r2) := H
     have A9 := Aside0.mk A90
     clear A90
     by_cases c10 : 0 ≤ a1
     ·rw [if_pos c10] at H
      have c10b0 := eq_true c10
      have c10b1 : decide (0 ≤ a1) = true := decide_eq_true c10
      clear c10
      by_cases c11 : a1 ≤ (wrap64 ((l0.length : Int) - a1))
      ·rw [if_pos c11] at H
       have c11b0 := eq_true c11
       have c11b1 : decide (a1 ≤ (wrap64 ((l0.length : Int) - a1))) = true := decide_eq_true c11
       clear c11
       by_cases c12 : (wrap64 ((l0.length : Int) - a1)) ≤ (t176.length : Int)
       ·rw [if_pos c12] at H
        have c12b0 := eq_true c12
        have c12b1 : decide ((wrap64 ((l0.length : Int) - a1)) ≤ (t176.length : Int)) = true := decide_eq_true c12
        clear c12
        obtain ⟨y180, hy180⟩ : ∃ y_ : List Int, y_ = ((t179.take ((wrap64 ((l0.length : Int) - a1)) : Int).toNat).drop (a1 : Int).toNat) := ⟨_, rfl⟩
        replace H : (impl_DatumOf.l0 k a1 (l0.length : Int) 0 y180 (y180.length : Int) 0) = some (r1, r2) := by first | (rw [hy180]; with_reducible exact H) | (have H2_ := (Option.bind_some _ _).symm.trans H; rw [hy180]; with_reducible exact H2_) | (have H2_ := (Option.bind_some _ _).symm.trans H; with_reducible exact H2_) | with_reducible exact H | (rw [hy180]; exact H) | exact H
        have Ny180 := Aside0.mk hy180
        clear hy180
        have H' := Aside0.mk H
        clear H
        go_enter Try.func31, Try.ntmps31
        go_wp2_with (first | ((with_reducible refine gate_callee (f := 39) rfl ?_); refine goesL_ (some 18) rfl rfl Try.func39 (by kernel_rfl) rfl #[.slice A0 l0.length c0] rfl (by (try simp only [List.map_toArray, List.map_cons, List.map_nil]); first | done | rfl | (simp only [List.length_drop, List.length_take]; rfl)) ?_; (with_reducible refine (impl_areTeamScores.calls _ _ l0 true _ ?side1 ?side2 A3.out).mono ?_); (case side1 => repeat (first | exact HR0.out | (with_reducible refine Kd.C_alloc ?_ _) | (with_reducible refine Kd.C_drewN ?_ _) | (with_reducible refine Kd.C_drew ?_))); (case side2 => exact HC0.out); rintro e w' ⟨rfl, ⟨nd, rfl⟩⟩; refine ⟨_, rfl, ?_⟩) | ((with_reducible refine gate_callee (f := 49) rfl ?_); refine goesL_ (some 35) rfl rfl Try.func49 (by kernel_rfl) rfl #[.slice A0 l0.length c0] rfl (by (try simp only [List.map_toArray, List.map_cons, List.map_nil]); first | done | rfl | (simp only [List.length_drop, List.length_take]; rfl)) ?_; (with_reducible refine (slices_Clone_int64_int64.calls _ _ l0 t176 _ ?side1 ?side2 A8.out).mono ?_); (case side1 => repeat (first | exact HR0.out | (with_reducible refine Kd.C_alloc ?_ _) | (with_reducible refine Kd.C_drewN ?_ _) | (with_reducible refine Kd.C_drew ?_))); (case side2 => exact HC0.out); rintro e w13 ⟨v177, rfl, ho0, hb⟩; refine ⟨_, rfl, ?_⟩; have n0_ := Aside0.mk (Kd.R_lower ho0 (below_size (by repeat (first | (with_reducible first | exact HB.out | apply below_alloc | apply pw_below_drewN | apply below_drew1) | exact HB.out)))); have n1_ := Aside0.mk (below_step (by repeat (first | (with_reducible first | exact HB.out | apply below_alloc | apply pw_below_drewN | apply below_drew1) | exact HB.out)) hb); clear HB; have HO178 := n0_; have HB := n1_; clear n0_ n1_; (try clear hb); (try clear hb2); (try clear hk); (try clear hi); (try clear ho0); obtain ⟨Ao14, co14, eo14⟩ := Kd.R_slice HO178.out; subst eo14) | ((with_reducible refine gate_callee (f := 50) rfl ?_); refine goesL_ (some 37) rfl rfl Try.func50 (by kernel_rfl) rfl #[.slice Ao14 t176.length co14] rfl (by (try simp only [List.map_toArray, List.map_cons, List.map_nil]); first | done | rfl | (simp only [List.length_drop, List.length_take]; rfl)) ?_; (with_reducible refine (slices_Sort_int64_int64.calls (fun k_ => some k_ = (.slice Ao14 t176.length co14 : Value).ownBlock) (.slice Ao14 t176.length co14) t176 t179 w _ ?side1 ?side2 A9.out).mono ?_); (case side1 => repeat (first | (with_reducible first | exact HB.out | apply below_alloc | apply pw_below_drewN | apply below_drew1) | exact HB.out)); (case side2 => exact Kd.R_tight rfl HO178.out); rintro e w15 ⟨rfl, hy0, hb, hkp⟩; refine ⟨_, rfl, ?_⟩; have n0_ := Aside0.mk (Kd.R_reok rfl hy0 (fun k_ e_ => HO178.out.1 k_ e_)); have n1_ := Aside0.mk (hb); clear HO178; clear HB; have HO178 := n0_; have HB := n1_; clear n0_ n1_; (try clear hb); (try clear hkp); (try clear hy0); have hlx16 := (Kd.R_reads' HO178.out).1; have q16 : ((wrap64 ((l0.length : Int) - a1)) : Int) ≤ ((t176.length : Int) : Int) := of_decide_eq_true (by first | (with_reducible assumption) | assumption); obtain ⟨i016, hi016, _, hsz16, _⟩ := info_parts info2; have hroom16 : t176.length ≤ co14 := (Kd.R_reads' HO178.out).2.1; have hroomc16 : t179.length ≤ co14 := (by rw [← hlx16]; exact hroom16); have hC16 : Kd.C (Kd.int .i64) _ Ao14 t179.length t179 := (Kd.R_reads' HO178.out).2.2; have ql16 : (a1 : Int) ≤ ((wrap64 ((l0.length : Int) - a1)) : Int) := of_decide_eq_true (by first | (with_reducible assumption) | assumption); have q016 : (0 : Int) ≤ (a1 : Int) := of_decide_eq_true (by first | (with_reducible assumption) | assumption); have hcut16 := cut_mid (P := Try.prog) 22 2 .i64 .i64 Try.underlying22 hi016 1 hsz16 Ao14 t176.length co14 a1 (wrap64 ((l0.length : Int) - a1)) q016 ql16 q16 hroom16; have hr16 := Kd.C_mid (lo := (a1 : Int).toNat) (hi := ((wrap64 ((l0.length : Int) - a1)) : Int).toNat) (c := co14) hC16 (by omega) (by omega) hroomc16; obtain ⟨A16, hA16⟩ : ∃ A1, A1 = (if co14 = (a1 : Int).toNat then Ao14 else (Ao14 : Option Addr).map (·.add ((a1 : Int).toNat * 1))) := ⟨_, rfl⟩; obtain ⟨c16, hc16⟩ : ∃ c1, c1 = co14 - (a1 : Int).toNat := ⟨_, rfl⟩; have hy16 : y180.length = ((wrap64 ((l0.length : Int) - a1)) : Int).toNat - (a1 : Int).toNat := (by rw [Ny180.out, List.length_drop, List.length_take] <;> omega); rw [show ((t179).take ((wrap64 ((l0.length : Int) - a1)) : Int).toNat).drop (a1 : Int).toNat = y180 from Ny180.out.symm] at hr16; replace hr16 : Kd.C (Kd.int .i64) _ A16 y180.length y180 := (by rw [hA16]; exact hr16); rw [← hy16, ← hA16, ← hc16] at hcut16; have HR183 := Aside0.mk hr16; have HC183 := Aside0.mk (show y180.length ≤ c16 from by rw [hy16, hc16]; exact Nat.sub_le_sub_right (Nat.le_trans (by omega) hroom16) _); clear hr16 hC16 hroom16 hi016 hsz16 hc16 hroomc16; have KY16 := Aside0.mk hy16; have KA16 := Aside0.mk hA16; clear hy16 hA16; have KE16 := Aside0.mk hlx16; have KL16 := Aside0.mk (show ((wrap64 ((l0.length : Int) - a1)) : Int).toNat ≤ t179.length from by omega); have KM16 := Aside0.mk (show (a1 : Int).toNat ≤ ((wrap64 ((l0.length : Int) - a1)) : Int).toNat from by omega); clear hlx16; replace q16 := eq_true q16))
        go_loopg [8, 45] k (fun kq v8 v45 w' => ∃ (x8_1 : Int) (x45_1 : Int), v8 = .int .i64 x8_1 ∧ v45 = .int .i64 x45_1 ∧ Aside0 (impl_DatumOf.l0 kq a1 (l0.length : Int) x8_1 y180 (y180.length : Int) x45_1 = some (r1, r2)) ∧ Aside0 (kq ≤ k) ∧ Aside0 (Kd.C (Kd.int .i64) w' A16 y180.length y180) ∧ Aside0 (Below w.heap.size w w'))
        case atStart => exact ⟨(0), (0), (by first | rfl | (simp; done) | (simp [*]; done)), (by first | rfl | (simp; done) | (simp [*]; done)), H', ⟨Nat.le_refl _⟩, ⟨by repeat (first | (with_reducible exact HR183.out) | (with_reducible refine Kd.C_alloc ?_ _) | (with_reducible refine Kd.C_drewN ?_ _) | (with_reducible refine Kd.C_drew ?_) | exact HR183.out)⟩, ⟨by repeat (first | (with_reducible first | exact HB.out | apply below_alloc | apply pw_below_drewN | apply below_drew1) | exact HB.out)⟩⟩
        case round =>
         clear H'
         try clear c1
         try clear q1
         try clear p2
         try clear c3
         try clear c4
         try clear c5
         try clear c5b0
         try clear c6
         try clear c6b0
         try clear p6
         try clear c7
         try clear c7b0
         try clear c7b1
         try clear c7b2
         try clear c10
         try clear c10b0
         try clear c10b1
         try clear c11
         try clear c11b0
         try clear c11b1
         try clear c12
         try clear c12b0
         try clear c12b1
         try clear c16
         try clear q16
         try clear q016
         try clear q16
         obtain ⟨x8_1, x45_1, rfl, rfl, HA, HK1, HR183, HB⟩ := hrel
         cases gk with
         | zero => exact absurd HA.out (by simp [impl_DatumOf.l0])
         | succ k1 =>
          have H := HA.out
          clear HA
          simp only [impl_DatumOf.l0] at H
          by_cases c17 : x45_1 < (y180.length : Int)
          ·rw [if_pos c17] at H
           have c17b0 : decide (x45_1 < (y180.length : Int)) = true := decide_eq_true c17
           clear c17
           by_cases c18 : 0 ≤ x45_1
           ·rw [if_pos c18] at H
            have c18b0 : decide (0 ≤ x45_1) = true := decide_eq_true c18
            clear c18
            by_cases c19 : x45_1 < (y180.length : Int)
            ·rw [if_pos c19] at H
             have c19b0 : decide (x45_1 < (y180.length : Int)) = true := decide_eq_true c19
             clear c19
             have H' := Aside0.mk H
             clear H
             have p184 : 0 ≤ (x45_1 : Int) := of_decide_eq_true (by first | (with_reducible assumption) | assumption)
             have q184 : x45_1 < (y180.length : Int) := of_decide_eq_true (by first | (with_reducible assumption) | assumption)
             obtain ⟨ad184, e184, hx184_0⟩ := Kd.at_int HR183.out x45_1 p184 q184
             cases e184
             replace p184 := eq_true p184
             replace q184 := eq_true q184
             go_wp2
             go_roundg k1
             case measure => have := HK1.out; omega
             case rel => exact ⟨(wrap64 (x8_1 + (rd y180 x45_1))), (wrap64 (x45_1 + 1)), (by first | rfl | (simp; done) | (simp [*]; done)), (by first | rfl | (simp; done) | (simp [*]; done)), H', ⟨by have := HK1.out; omega⟩, ⟨by repeat (first | (with_reducible exact HR183.out) | (with_reducible refine Kd.C_alloc ?_ _) | (with_reducible refine Kd.C_drewN ?_ _) | (with_reducible refine Kd.C_drew ?_) | exact HR183.out)⟩, ⟨by repeat (first | (with_reducible first | exact HB.out | apply below_alloc | apply pw_below_drewN | apply below_drew1) | exact HB.out)⟩⟩
            ·rw [if_neg c19] at H
             exact absurd H (by simp)
           ·rw [if_neg c18] at H
            exact absurd H (by simp)
          ·rw [if_neg c17] at H
           have c17b0 : decide (x45_1 < (y180.length : Int)) = false := decide_eq_false c17
           clear c17
           obtain ⟨ji20, hji20⟩ : ∃ j_ : Int, (mx x8_1 (wrap64 (-x8_1))) = j_ := ⟨_, rfl⟩
           replace H : (if (wrap64 (10 * (wrap64 ((l0.length : Int) - (wrap64 (2 * a1)))))) = 0 then (none) else (if (wrap64 (2 * (Int.tmod (ji20) (wrap64 (10 * (wrap64 ((l0.length : Int) - (wrap64 (2 * a1))))))))) > (wrap64 (10 * (wrap64 ((l0.length : Int) - (wrap64 (2 * a1)))))) then (if x8_1 < 0 then (some (wrap64 (-(wrap64 ((wrap64 ((wrap64 (Int.tdiv (ji20) (wrap64 (10 * (wrap64 ((l0.length : Int) - (wrap64 (2 * a1)))))))) * 10)) + 10))), 0)) else (some (wrap64 ((wrap64 ((wrap64 (Int.tdiv (ji20) (wrap64 (10 * (wrap64 ((l0.length : Int) - (wrap64 (2 * a1)))))))) * 10)) + 10), 0))) else (if x8_1 < 0 then (some (wrap64 (-(wrap64 ((wrap64 (Int.tdiv (ji20) (wrap64 (10 * (wrap64 ((l0.length : Int) - (wrap64 (2 * a1)))))))) * 10))), 0)) else (some (wrap64 ((wrap64 (Int.tdiv (ji20) (wrap64 (10 * (wrap64 ((l0.length : Int) - (wrap64 (2 * a1)))))))) * 10), 0))))) = some (r1, r2) := by first | (rw [hji20] at H; exact H) | (simp only [hji20] at H ⊢; exact H)
           have hji20_ : (if x8_1 < (wrap64 (-x8_1)) then (wrap64 (-x8_1)) else x8_1) = ji20 := hji20
           by_cases c21 : (wrap64 (10 * (wrap64 ((l0.length : Int) - (wrap64 (2 * a1)))))) = 0
           ·rw [if_pos c21] at H
            exact absurd H (by simp)
           ·rw [if_neg c21] at H
            have c21b0 : ((wrap64 (10 * (wrap64 ((l0.length : Int) - (wrap64 (2 * a1)))))) == 0) = false := beq_eq_false_iff_ne.mpr c21
            have c21b1 : ((wrap64 (10 * (wrap64 ((l0.length : Int) - (wrap64 (2 * a1)))))) != 0) = true := bne_iff_ne.mpr c21
            by_cases c22 : (wrap64 (2 * (Int.tmod (ji20) (wrap64 (10 * (wrap64 ((l0.length : Int) - (wrap64 (2 * a1))))))))) > (wrap64 (10 * (wrap64 ((l0.length : Int) - (wrap64 (2 * a1))))))
            ·rw [if_pos c22] at H
             have c22b0 : decide ((wrap64 (10 * (wrap64 ((l0.length : Int) - (wrap64 (2 * a1)))))) < (wrap64 (2 * (Int.tmod (ji20) (wrap64 (10 * (wrap64 ((l0.length : Int) - (wrap64 (2 * a1)))))))))) = true := decide_eq_true c22
             clear c22
             by_cases c23 : x8_1 < 0
             ·rw [if_pos c23] at H
              have c23b0 : decide (x8_1 < 0) = true := decide_eq_true c23
              clear c23
              simp only [Option.some.injEq, Prod.mk.injEq] at H
              obtain ⟨rfl, rfl⟩ := H
              go_wp2
              go_ret2
              exact ⟨by first | rfl | (simp [errW_none, errW_some] <;> rfl) | (simp only [← hji20]; first | rfl | (simp [errW_none, errW_some] <;> rfl)) | (simp [*, errW_none, errW_some] <;> rfl), by repeat (first | (with_reducible first | exact HB.out | apply below_alloc | apply pw_below_drewN | apply below_drew1) | exact HB.out)⟩
             ·rw [if_neg c23] at H
              have c23b0 : decide (x8_1 < 0) = false := decide_eq_false c23
              clear c23
              simp only [Option.some.injEq, Prod.mk.injEq] at H
              obtain ⟨rfl, rfl⟩ := H
              go_wp2
              go_ret2
              exact ⟨by first | rfl | (simp [errW_none, errW_some] <;> rfl) | (simp only [← hji20]; first | rfl | (simp [errW_none, errW_some] <;> rfl)) | (simp [*, errW_none, errW_some] <;> rfl), by repeat (first | (with_reducible first | exact HB.out | apply below_alloc | apply pw_below_drewN | apply below_drew1) | exact HB.out)⟩
            ·rw [if_neg c22] at H
             have c22b0 : decide ((wrap64 (10 * (wrap64 ((l0.length : Int) - (wrap64 (2 * a1)))))) < (wrap64 (2 * (Int.tmod (ji20) (wrap64 (10 * (wrap64 ((l0.length : Int) - (wrap64 (2 * a1)))))))))) = false := decide_eq_false c22
             clear c22
             by_cases c24 : x8_1 < 0
             ·rw [if_pos c24] at H
              have c24b0 : decide (x8_1 < 0) = true := decide_eq_true c24
              clear c24
              simp only [Option.some.injEq, Prod.mk.injEq] at H
              obtain ⟨rfl, rfl⟩ := H
              go_wp2
              go_ret2
              exact ⟨by first | rfl | (simp [errW_none, errW_some] <;> rfl) | (simp only [← hji20]; first | rfl | (simp [errW_none, errW_some] <;> rfl)) | (simp [*, errW_none, errW_some] <;> rfl), by repeat (first | (with_reducible first | exact HB.out | apply below_alloc | apply pw_below_drewN | apply below_drew1) | exact HB.out)⟩
             ·rw [if_neg c24] at H
              have c24b0 : decide (x8_1 < 0) = false := decide_eq_false c24
              clear c24
              simp only [Option.some.injEq, Prod.mk.injEq] at H
              obtain ⟨rfl, rfl⟩ := H
              go_wp2
              go_ret2
              exact ⟨by first | rfl | (simp [errW_none, errW_some] <;> rfl) | (simp only [← hji20]; first | rfl | (simp [errW_none, errW_some] <;> rfl)) | (simp [*, errW_none, errW_some] <;> rfl), by repeat (first | (with_reducible first | exact HB.out | apply below_alloc | apply pw_below_drewN | apply below_drew1) | exact HB.out)⟩
       ·rw [if_neg c12] at H
        exact absurd H (by simp)
      ·rw [if_neg c11] at H
       exact absurd H (by simp)
     ·rw [if_neg c10] at H
      exact absurd H (by simp)
 ·replace c4 := Bool.eq_false_iff.mpr c4
  subst c4
  have H1 : (some (0, 1)) = some (r1, r2) := by rw [if_neg (show ¬ (false = true) by decide)] at H; exact H
  clear H
  have H := H1
  clear H1
  simp only [Option.some.injEq, Prod.mk.injEq] at H
  obtain ⟨rfl, rfl⟩ := H
  go_enter Try.func31, Try.ntmps31
  go_wp2_with (first | ((with_reducible refine gate_callee (f := 39) rfl ?_); refine goesL_ (some 18) rfl rfl Try.func39 (by kernel_rfl) rfl #[.slice A0 l0.length c0] rfl (by (try simp only [List.map_toArray, List.map_cons, List.map_nil]); first | done | rfl | (simp only [List.length_drop, List.length_take]; rfl)) ?_; (with_reducible refine (impl_areTeamScores.calls _ _ l0 false _ ?side1 ?side2 A3.out).mono ?_); (case side1 => repeat (first | exact HR0.out | (with_reducible refine Kd.C_alloc ?_ _) | (with_reducible refine Kd.C_drewN ?_ _) | (with_reducible refine Kd.C_drew ?_))); (case side2 => exact HC0.out); rintro e w' ⟨rfl, ⟨nd, rfl⟩⟩; refine ⟨_, rfl, ?_⟩))
  go_ret2
  exact ⟨by first | rfl | (simp [errW_none, errW_some] <;> rfl) | (simp [*, errW_none, errW_some] <;> rfl), by repeat (first | (with_reducible first | exact HB.out | apply below_alloc | apply pw_below_drewN | apply below_drew1) | exact HB.out)⟩

/-! ### impl_ButlerImps: function 33 -/
def impl_ButlerImps.l0 : Nat → Int → List Int → List Int → Int → Int → Option (List Int × Int)
 | 0, _, _, _, _, _ => none
 | k + 1, x6, x8, x21, x22, x23 => if x23 < x22 then (if 0 ≤ x23 then (if x23 < (x21.length : Int) then ((impl_ImpsOf.f k (wrap64 ((rd x21 x23) - x6))).bind fun t191 => (if x8.length < 17592186044416 then (impl_ButlerImps.l0 k x6 (x8 ++ [t191]) x21 x22 (wrap64 (x23 + 1))) else (none))) else (none)) else (none)) else (some (x8, 0))
def impl_ButlerImps.f (k : Nat) (l0 : List Int) (a1 : Int) : Option (List Int × Int) := (impl_DatumOf.f k l0 a1).bind fun bt185 => (if bt185.2 = 0 then (impl_ButlerImps.l0 k bt185.1 (([] : List Int)) l0 (l0.length : Int) 0) else (some (([] : List Int), bt185.2)))
theorem impl_ButlerImps.mono_l : ∀ k, (∀ y0 y1 y2 y3 y4, LeO (impl_ButlerImps.l0 k y0 y1 y2 y3 y4) (impl_ButlerImps.l0 (k + 1) y0 y1 y2 y3 y4))
 | 0 => fun _ _ _ _ _ r h => by simp [impl_ButlerImps.l0] at h
 | k + 1 => by
  have ih0 := impl_ButlerImps.mono_l k
  ·intro y0 y1 y2 y3 y4
   unfold impl_ButlerImps.l0
   repeat' first
   | (with_reducible exact ih0 _ _ _ _ _)
   | (with_reducible exact impl_DatumOf.mono _ _ _)
   | (with_reducible exact impl_ImpsOf.mono _ _)
   | (with_reducible exact LeO.refl _)
   | (with_reducible exact LeO.none _)
   | (with_reducible refine LeO.ite ?_ ?_)
   | (with_reducible refine LeO.bind ?_ (fun _ => ?_))
   | exact ih0 _ _ _ _ _
   | exact impl_DatumOf.mono _ _ _
   | exact impl_ImpsOf.mono _ _
   | exact LeO.none _
   | refine LeO.ite ?_ ?_
   | refine LeO.bind ?_ (fun _ => ?_)
theorem impl_ButlerImps.mono : ∀ a0 a1 k, LeO (impl_ButlerImps.f k a0 a1) (impl_ButlerImps.f (k + 1) a0 a1) := by
 intro a0 a1 k
 have ih0 := impl_ButlerImps.mono_l k
 unfold impl_ButlerImps.f
 repeat' first
   | (with_reducible exact ih0 _ _ _ _ _)
   | (with_reducible exact impl_DatumOf.mono _ _ _)
   | (with_reducible exact impl_ImpsOf.mono _ _)
   | (with_reducible exact LeO.refl _)
   | (with_reducible exact LeO.none _)
   | (with_reducible refine LeO.ite ?_ ?_)
   | (with_reducible refine LeO.bind ?_ (fun _ => ?_))
   | exact ih0 _ _ _ _ _
   | exact impl_DatumOf.mono _ _ _
   | exact impl_ImpsOf.mono _ _
   | exact LeO.none _
   | refine LeO.ite ?_ ?_
   | refine LeO.bind ?_ (fun _ => ?_)
set_option maxHeartbeats 8000000 in
set_option maxRecDepth 100000 in
theorem impl_ButlerImps.calls (k : Nat) (A0 : Option Addr) (c0 : Nat) (l0 : List Int) (a1 : Int) (r1 : List Int) (r2 : Int) (w : World) (hr0 : Kd.C (Kd.int .i64) w A0 l0.length l0) (hc0 : l0.length ≤ c0) (h : impl_ButlerImps.f k l0 a1 = some (r1, r2)) :
  Calls Try.prog 33 #[.slice A0 l0.length c0, .int .i64 a1] w fun e w' => ∃ v0_ : Value, e = .returned (.tuple #[v0_, .int .i64 r2]) ∧ Kd.R (Kd.int .i64) 2 w' w.heap.size (fun _ => True) v0_ r1 ∧ Below w.heap.size w w' := by
 have HR0 := Aside0.mk hr0
 have HC0 := Aside0.mk hc0
 clear hr0 hc0
 have HB := Aside0.mk (Below.refl w.heap.size w)
 have H : ((impl_DatumOf.f k l0 a1).bind fun bt185 => (if bt185.2 = 0 then (impl_ButlerImps.l0 k bt185.1 (([] : List Int)) l0 (l0.length : Int) 0) else (some (([] : List Int), bt185.2)))) = some (r1, r2) := h
 clear h
 replace H := Option.bind_eq_some_iff.mp H
 obtain ⟨⟨t185, t186⟩, A30, H⟩ := H
 replace H : (if t186 = 0 then (impl_ButlerImps.l0 k t185 (([] : List Int)) l0 (l0.length : Int) 0) else (some (([] : List Int), t186))) = some (r1, r2) := H
 have A3 := Aside0.mk A30
 clear A30
 by_cases c4 : t186 = 0
 ·rw [if_pos c4] at H
  have c4b0 : (t186 == 0) = true := beq_iff_eq.mpr c4
  have c4b1 : (t186 != 0) = false := bne_eq_false_iff_eq.mpr c4
  clear c4
  obtain ⟨y187, hy187⟩ : ∃ y_ : List Int, y_ = (([] : List Int)) := ⟨_, rfl⟩
  replace H : (impl_ButlerImps.l0 k t185 y187 l0 (l0.length : Int) 0) = some (r1, r2) := by first | (rw [hy187]; with_reducible exact H) | (have H2_ := (Option.bind_some _ _).symm.trans H; rw [hy187]; with_reducible exact H2_) | (have H2_ := (Option.bind_some _ _).symm.trans H; with_reducible exact H2_) | with_reducible exact H | (rw [hy187]; exact H) | exact H
  have Ny187 := Aside0.mk hy187
  clear hy187
  have H' := Aside0.mk H
  clear H
  go_enter Try.func33, Try.ntmps33
  go_wp2_with (first | ((with_reducible refine gate_callee (f := 31) rfl ?_); refine goesL_ (some 14) rfl rfl Try.func31 (by kernel_rfl) rfl #[.slice A0 l0.length c0, .int .i64 a1] rfl (by (try simp only [List.map_toArray, List.map_cons, List.map_nil]); first | done | rfl | (simp only [List.length_drop, List.length_take]; rfl)) ?_; (with_reducible refine (impl_DatumOf.calls k _ _ l0 a1 t185 t186 _ ?side1 ?side2 A3.out).mono ?_); (case side1 => repeat (first | exact HR0.out | (with_reducible refine Kd.C_alloc ?_ _) | (with_reducible refine Kd.C_drewN ?_ _) | (with_reducible refine Kd.C_drew ?_))); (case side2 => exact HC0.out); rintro e w5 ⟨rfl, hb⟩; refine ⟨_, rfl, ?_⟩; have n0_ := Aside0.mk (below_step (by repeat (first | (with_reducible first | exact HB.out | apply below_alloc | apply pw_below_drewN | apply below_drew1) | exact HB.out)) hb); clear HB; have HB := n0_; clear n0_; (try clear hb); (try clear hb2); (try clear hk); (try clear hi)) | ((with_reducible refine gate_dst (N := 20) rfl ?_); refine Kd.R_lit (Kd.int .i64) _ 2 ?hg (N := 20) ?hd (xs := ([] : List Int)) (inner := []) (ok := fun _ => True) (okp := fun _ => True) ?hr ?hp (fun _ hk => hk) trivial (Below.refl _ _) (Nat.le_refl _) (by simp) ?_; (case hd => rfl); (case hg => rfl); (case hr => first | (go_simp; done) | (go_simp; rfl)); (case hp => exact (Reps.none _ _)); intro v188 w6 ho7 hb hg_ hnew_; clear hg_ hnew_; (first | rw [← Ny187.out] at ho7 | (simp only [Int.reduceToNat] at ho7; rw [← Ny187.out] at ho7)); have n0_ := Aside0.mk (Kd.R_lower ho7 (below_size (by repeat (first | (with_reducible first | exact HB.out | apply below_alloc | apply pw_below_drewN | apply below_drew1) | exact HB.out)))); have n1_ := Aside0.mk (below_step (by repeat (first | (with_reducible first | exact HB.out | apply below_alloc | apply pw_below_drewN | apply below_drew1) | exact HB.out)) hb); clear HB; have HO189 := n0_; have HB := n1_; clear n0_ n1_; clear hb ho7))
  go_loopg [8, 23] k (fun kq v8 v23 w' => ∃ (x8_1 : List Int) (x23_1 : Int), v23 = .int .i64 x23_1 ∧ Aside0 (impl_ButlerImps.l0 kq t185 x8_1 l0 (l0.length : Int) x23_1 = some (r1, r2)) ∧ Aside0 (kq ≤ k) ∧ Aside0 (Kd.R (Kd.int .i64) 2 w' w.heap.size (fun _ => True) v8 x8_1) ∧ Aside0 (Below w.heap.size w w'))
  case atStart => exact ⟨(y187), (0), (by first | rfl | (simp; done) | (simp [*]; done)), H', ⟨Nat.le_refl _⟩, ⟨by (with_reducible repeat (first | apply Kd.R_alloc | apply Kd.R_drewN | apply Kd.R_drew)); exact HO189.out⟩, ⟨by repeat (first | (with_reducible first | exact HB.out | apply below_alloc | apply pw_below_drewN | apply below_drew1) | exact HB.out)⟩⟩
  case round =>
   clear H'
   try clear p2
   try clear c3
   try clear c4
   try clear c4b0
   try clear c4b1
   obtain ⟨x8_1, x23_1, rfl, HA, HK1, HO_8, HB⟩ := hrel
   cases gk with
   | zero => exact absurd HA.out (by simp [impl_ButlerImps.l0])
   | succ k1 =>
    have H := HA.out
    clear HA
    simp only [impl_ButlerImps.l0] at H
    by_cases c8 : x23_1 < (l0.length : Int)
    ·rw [if_pos c8] at H
     have c8b0 : decide (x23_1 < (l0.length : Int)) = true := decide_eq_true c8
     clear c8
     by_cases c9 : 0 ≤ x23_1
     ·rw [if_pos c9] at H
      have c9b0 : decide (0 ≤ x23_1) = true := decide_eq_true c9
      clear c9
      by_cases c10 : x23_1 < (l0.length : Int)
      ·rw [if_pos c10] at H
       have c10b0 : decide (x23_1 < (l0.length : Int)) = true := decide_eq_true c10
       clear c10
       replace H := Option.bind_eq_some_iff.mp H
       obtain ⟨t191, A110, H⟩ := H
       replace H : (if x8_1.length < 17592186044416 then (impl_ButlerImps.l0 k1 t185 (x8_1 ++ [t191]) l0 (l0.length : Int) (wrap64 (x23_1 + 1))) else (none)) = some (r1, r2) := H
       have A11 := Aside0.mk A110
       clear A110
       by_cases c12 : x8_1.length < 17592186044416
       ·rw [if_pos c12] at H
        have LMc12 := Aside0.mk c12
        clear c12
        obtain ⟨y192, hy192⟩ : ∃ y_ : List Int, y_ = (x8_1 ++ [t191]) := ⟨_, rfl⟩
        replace H : (impl_ButlerImps.l0 k1 t185 y192 l0 (l0.length : Int) (wrap64 (x23_1 + 1))) = some (r1, r2) := by first | (rw [hy192]; with_reducible exact H) | (have H2_ := (Option.bind_some _ _).symm.trans H; rw [hy192]; with_reducible exact H2_) | (have H2_ := (Option.bind_some _ _).symm.trans H; with_reducible exact H2_) | with_reducible exact H | (rw [hy192]; exact H) | exact H
        have Ny192 := Aside0.mk hy192
        clear hy192
        have H' := Aside0.mk H
        clear H
        have p190 : 0 ≤ (x23_1 : Int) := of_decide_eq_true (by first | (with_reducible assumption) | assumption)
        have q190 : x23_1 < (l0.length : Int) := of_decide_eq_true (by first | (with_reducible assumption) | assumption)
        obtain ⟨ad190, e190, hx190_0⟩ := Kd.at_int HR0.out x23_1 p190 q190
        cases e190
        replace hx190_0 := (HB.out.cell (World.block_lt_of_cell? w _ hx190_0)).trans hx190_0
        replace p190 := eq_true p190
        replace q190 := eq_true q190
        go_wp2_with (first | ((with_reducible refine gate_callee (f := 29) rfl ?_); refine goesL_ (some 31) rfl rfl Try.func29 (by kernel_rfl) rfl #[.int .i64 (wrap64 ((rd l0 x23_1) - t185))] rfl (by (try simp only [List.map_toArray, List.map_cons, List.map_nil]); first | done | rfl | (simp only [List.length_drop, List.length_take]; rfl)) ?_; (with_reducible refine (impl_ImpsOf.calls k1 (wrap64 ((rd l0 x23_1) - t185)) t191 _ A11.out).mono ?_); rintro e w13 ⟨rfl, hb⟩; refine ⟨_, rfl, ?_⟩; have n0_ := Aside0.mk (Kd.R_below (by (with_reducible repeat (first | apply Kd.R_alloc | apply Kd.R_drewN | apply Kd.R_drew)); exact HO_8.out) hb); have n1_ := Aside0.mk (below_step (by repeat (first | (with_reducible first | exact HB.out | apply below_alloc | apply pw_below_drewN | apply below_drew1) | exact HB.out)) hb); clear HO_8; clear HB; have HO_8 := n0_; have HB := n1_; clear n0_ n1_; (try clear hb); (try clear hb2); (try clear hk); (try clear hi)) | ((with_reducible refine gate_builtin (b := .append) (xs := #[.tmp 27, .tmp 32]) rfl ?_); at_builtin; refine Kd.R_append (Kd.int .i64) (w0 := w) w.heap.size rfl (.tmp 27) (.tmp 32) 22 2 (.int .i64 0) 8 rfl Try.underlying22 info2 rfl (by decide) (by omega) u8 x8_1 t191 [.int .i64 t191] (fun _ => True) (fun _ => False) rfl rfl ?aP (fun _ hk => hk.elim) ?aF ?aO ?aB ?aS ?aL ?_; (case aP => exact rfl); (case aB => exact (by repeat (first | (with_reducible first | exact HB.out | apply below_alloc | apply pw_below_drewN | apply below_drew1) | exact HB.out))); (case aF => exact (fun _ _ => trivial)); (case aO => exact (by (with_reducible repeat (first | apply Kd.R_alloc | apply Kd.R_drewN | apply Kd.R_drew)); exact HO_8.out)); (case aS => exact (below_size (by repeat (first | (with_reducible first | exact HB.out | apply below_alloc | apply pw_below_drewN | apply below_drew1) | exact HB.out)))); (case aL => have := LMc12.out; omega); intro v193 w14 ho hb hg hat; rw [← Ny192.out] at ho; have n0_ := Aside0.mk (hb); have n1_ := Aside0.mk (ho); clear HB; clear HO_8; have HB := n0_; have HO194 := n1_; clear n0_ n1_; clear ho hb hg hat))
        go_roundg k1
        case measure => have := HK1.out; omega
        case rel => exact ⟨(y192), (wrap64 (x23_1 + 1)), (by first | rfl | (simp; done) | (simp [*]; done)), H', ⟨by have := HK1.out; omega⟩, ⟨by (with_reducible repeat (first | apply Kd.R_alloc | apply Kd.R_drewN | apply Kd.R_drew)); exact HO194.out⟩, ⟨by repeat (first | (with_reducible first | exact HB.out | apply below_alloc | apply pw_below_drewN | apply below_drew1) | exact HB.out)⟩⟩
       ·rw [if_neg c12] at H
        exact absurd H (by simp)
      ·rw [if_neg c10] at H
       exact absurd H (by simp)
     ·rw [if_neg c9] at H
      exact absurd H (by simp)
    ·rw [if_neg c8] at H
     have c8b0 : decide (x23_1 < (l0.length : Int)) = false := decide_eq_false c8
     clear c8
     simp only [Option.some.injEq, Prod.mk.injEq] at H
     obtain ⟨rfl, rfl⟩ := H
     go_wp2
     go_ret2
     exact ⟨_, by first | rfl | (simp [errW_none, errW_some] <;> rfl) | (simp [*, errW_none, errW_some] <;> rfl), by (with_reducible repeat (first | apply Kd.R_alloc | apply Kd.R_drewN | apply Kd.R_drew)); exact HO_8.out, by repeat (first | (with_reducible first | exact HB.out | apply below_alloc | apply pw_below_drewN | apply below_drew1) | exact HB.out)⟩
 ·rw [if_neg c4] at H
  have c4b0 : (t186 == 0) = false := beq_eq_false_iff_ne.mpr c4
  have c4b1 : (t186 != 0) = true := bne_iff_ne.mpr c4
  simp only [Option.some.injEq, Prod.mk.injEq] at H
  obtain ⟨rfl, rfl⟩ := H
  go_enter Try.func33, Try.ntmps33
  go_wp2_with (first | ((with_reducible refine gate_callee (f := 31) rfl ?_); refine goesL_ (some 14) rfl rfl Try.func31 (by kernel_rfl) rfl #[.slice A0 l0.length c0, .int .i64 a1] rfl (by (try simp only [List.map_toArray, List.map_cons, List.map_nil]); first | done | rfl | (simp only [List.length_drop, List.length_take]; rfl)) ?_; (with_reducible refine (impl_DatumOf.calls k _ _ l0 a1 t185 t186 _ ?side1 ?side2 A3.out).mono ?_); (case side1 => repeat (first | exact HR0.out | (with_reducible refine Kd.C_alloc ?_ _) | (with_reducible refine Kd.C_drewN ?_ _) | (with_reducible refine Kd.C_drew ?_))); (case side2 => exact HC0.out); rintro e w15 ⟨rfl, hb⟩; refine ⟨_, rfl, ?_⟩; have n0_ := Aside0.mk (below_step (by repeat (first | (with_reducible first | exact HB.out | apply below_alloc | apply pw_below_drewN | apply below_drew1) | exact HB.out)) hb); clear HB; have HB := n0_; clear n0_; (try clear hb); (try clear hb2); (try clear hk); (try clear hi)))
  go_ret2
  exact ⟨_, by first | rfl | (simp [errW_none, errW_some] <;> rfl) | (simp [*, errW_none, errW_some] <;> rfl), by first | exact Kd.R_nil _ _ _ _ _ | exact Kd.N_nil _ _ _ _ _ | exact Kd.V_nil _ _ _ _ _ | exact Kd.Q_nil _ _ _ _ _ | exact Kd.S_nil _ _ _ _ _, by repeat (first | (with_reducible first | exact HB.out | apply below_alloc | apply pw_below_drewN | apply below_drew1) | exact HB.out)⟩

end Go.Proofs.Ytencdmlcmnmhgaa.QFnDatum
