/- The row of the law FnExactIsClaim: the given statement, out of the pure statement and the walk. No condition. -/
import Derived.Test.YtakepkjcmgcepaaRows
import Derived.Test.YtakepkjcmgcepaaStart
import Derived.Test.YtakepkjcmgcepaaQFnExactIsClaimx12
import Derived.Test.YtakepkjcmgcepaaSayFnExactIsClaim
import Derived.Test.YtakepkjcmgcepaaPureFnExactIsClaim
import Derived.Test.YtakepkjcmgcepaaOpen
import Derived.WalkKit
import Derived.ProofKit
import Derived.OpenShut
import Derived.ShutString
import Derived.ChangeOld
import Derived.Below
import Derived.SizedLaws
import Derived.Deep.Slices
import Derived.Lib.SmallJoins
namespace Go.Proofs.Ytakepkjcmgcepaa.fnExactIsClaim
open Go.ChangeShapes Go.WideShapes Go.ChangeAt Go.RowKit Go.Deep Go.Lib Go.Joins
open Go.ChangeMaps (open_string shut_string)
open Go.Proofs.YtakepkjcmgcepaaW.PrintWords Go.Proofs.Ytakepkjcmgcepaa.QFnExactIsClaim
set_option linter.unusedVariables false
theorem own : ownKnob Try.prog.godebug = none := by kernel_rfl
theorem laidOut : laidOutB Try.prog = true := by kernel_rfl
set_option maxRecDepth 100000 in
theorem lifted (os : Os) (started : os.Started) (H : Type) (enc : TypeId × Value → H) :
    ReturnsInHanded {} Try.checked os 11 .any (Rows.fnExactIsClaimSpec.pre6 enc Try.prog Try.f11 Rows.fnExactIsClaimRow.domain false) (Rows.fnExactIsClaimSpec.post enc Try.prog Try.f11 false true false false) := by
  refine returnsInHanded_of_change_sized (C := Try.checked) own started (by kernel_rfl) Try.func11
    (ChangeSpec.witness6 (enc := enc) (C := Try.checked) false ⟨#[], #[.agg #[.slice none 0 0], .agg #[.int .i64 0, .int .i64 0, .slice none 0 0], .agg #[.int .i64 0, .int .i64 0]], []⟩ 8 (by kernel_rfl) (by kernel_rfl) (by kernel_rfl) (by kernel_rfl)) ?_
  intro W base args ds gs before hval0 hW hcnd hsz0 _
  have hval : ∀ (j : Nat) t v, Try.f11.params[j]? = some t → args[j]? = some v → Value.okWide Try.prog W .any base t v := hval0
  have hW' := hW
  obtain ⟨p, q, hA0, hV, rfl, hfz, hnd⟩ := hW
  have hA : DataW.TrodAll enc Try.prog W 0 (fun _ => true) true Try.f11.params.toList args.toList ds p := hA0
  rw [Try.params11] at hA hval
  obtain ⟨v0, vs0, d0, ds0, p0, q0, hargs, rfl, rfl, h0, r0⟩ := trodAll_cons hA
  obtain ⟨v1, vs1, d1, ds1, p1, q1, rfl, rfl, rfl, h1, r1⟩ := trodAll_cons r0
  obtain ⟨v2, vs2, d2, ds2, p2, q2, rfl, rfl, rfl, h2, r2⟩ := trodAll_cons r1
  obtain ⟨rfl, rfl, rfl⟩ := trodAll_nil r2
  obtain rfl : args = #[v0, v1, v2] := by cases args; simp_all
  obtain ⟨rfl, rfl⟩ := trodVars_none hV
  have k0 := h0
  have lt0 : ∀ x ∈ p0, x.block < W.heap.size := by obtain ⟨m, hm⟩ := k0; exact DataW.trod_lt m _ _ _ hm
  obtain ⟨v0_0, y0_0, n0, rfl, rfl, rfl, g0_0⟩ := Open.open_agg1 Try.underlying41 (by kernel_rfl) (by kernel_rfl) (hval 0 41 v0 rfl rfl) h0
  obtain ⟨l0_0, ⟨A0_0, c0_0, e0_0, hc0_0, hr0_0⟩, b0_0⟩ := (Open.opens_slice Try.underlying39 (by kernel_rfl) (by decide) (Open.opens_slice Try.underlying22 (by kernel_rfl) (by decide) (Open.opens_int Try.underlying2))) _ _ _ g0_0
  simp only [List.cons.injEq, and_true] at e0_0
  subst e0_0
  have k1 := h1
  have lt1 : ∀ x ∈ p1, x.block < W.heap.size := by obtain ⟨m, hm⟩ := k1; exact DataW.trod_lt m _ _ _ hm
  obtain ⟨v1_0, v1_1, v1_2, y1_0, y1_1, y1_2, n1, rfl, rfl, rfl, g1_0, g1_1, g1_2⟩ := open_agg3 Try.underlying24 (by kernel_rfl) (by kernel_rfl) (hval 1 24 v1 rfl rfl) h1
  obtain ⟨a1_0, e1_0, z1_0, w1_0⟩ := DataW.trod_int Try.underlying2 g1_0
  simp only [List.cons.injEq, and_true] at e1_0
  subst e1_0
  obtain ⟨a1_1, e1_1, z1_1, w1_1⟩ := DataW.trod_int Try.underlying2 g1_1
  simp only [List.cons.injEq, and_true] at e1_1
  subst e1_1
  obtain ⟨l1_2, ⟨A1_2, c1_2, e1_2, hc1_2, hr1_2⟩, b1_2⟩ := (Open.opens_slice Try.underlying22 (by kernel_rfl) (by decide) (Open.opens_int Try.underlying2)) _ _ _ g1_2
  simp only [List.cons.injEq, and_true] at e1_2
  subst e1_2
  have k2 := h2
  have lt2 : ∀ x ∈ p2, x.block < W.heap.size := by obtain ⟨m, hm⟩ := k2; exact DataW.trod_lt m _ _ _ hm
  obtain ⟨v2_0, v2_1, y2_0, y2_1, n2, rfl, rfl, rfl, g2_0, g2_1⟩ := open_agg2 Try.underlying50 (by kernel_rfl) (by kernel_rfl) (hval 2 50 v2 rfl rfl) h2
  obtain ⟨a2_0, e2_0, z2_0, w2_0⟩ := DataW.trod_int Try.underlying2 g2_0
  simp only [List.cons.injEq, and_true] at e2_0
  subst e2_0
  obtain ⟨a2_1, e2_1, z2_1, w2_1⟩ := DataW.trod_int Try.underlying2 g2_1
  simp only [List.cons.injEq, and_true] at e2_1
  subst e2_1
  clear hA0 hval0 hsz0
  obtain ⟨k, hk⟩ := Pure.FnExactIsClaim l0_0 a1_0 a1_1 l1_2 a2_0 a2_1 b0_0 w1_0 w1_1 b1_2 w2_0 w2_1
  refine (QFnExactIsClaim.laws_FnExactIsClaim.calls k A0_0 c0_0 l0_0 a1_0 a1_1 A1_2 c1_2 l1_2 a2_0 a2_1 true W hr0_0 hc0_0 hr1_2 hc1_2 hk).mono fun e W' ⟨he, hd⟩ => ?_
  have bel : Below W.heap.size W W' := hd
  subst he
  exact ⟨_, rfl, _, _, _, [], _, [], hW', trodAll_mk1 (shut_bool Try.underlying4 _), (trodAll_cons_mk (Below.trod laidOut (by kernel_rfl) (of_decide_eq_true (by kernel_rfl)) k0 bel lt0) (trodAll_cons_mk (Below.trod laidOut (by kernel_rfl) (of_decide_eq_true (by kernel_rfl)) k1 bel lt1) (trodAll_cons_mk (Below.trod laidOut (by kernel_rfl) (of_decide_eq_true (by kernel_rfl)) k2 bel lt2) trodAll_mk0))), rfl, bel.frame _, fun h => by cases h⟩
theorem joined : joinedFacts Try.prog 11 Try.f11 Rows.fnExactIsClaimSpec Rows.fnExactIsClaimRow = true := by
  unfold joinedFacts; rw [Start.mayEnter, Start.liftsFinal, Start.make]; kernel_rfl
theorem over : Rows.fnExactIsClaimRow.holds Try.pinned (OpenSpec.ofChange Rows.fnExactIsClaimSpec) :=
  OpenClaim.holds_of_wide 11 Try.f11 rfl rfl rfl rfl rfl rfl rfl ⟨rfl, rfl, rfl, rfl, rfl⟩ rfl rfl rfl rfl rfl (by kernel_rfl) Try.func11 joined
    (of_decide_eq_true (by kernel_rfl)) (by unfold Func.isWrapper; first | (rw [if_pos (by decide +kernel)]; kernel_rfl) | (rw [if_neg (by decide +kernel)]; exact ⟨rfl, rfl⟩))
    (fun os started H enc _ => lifted os started H enc)
theorem proved : Rows.FnExactIsClaimSaid := over
#print axioms proved
end Go.Proofs.Ytakepkjcmgcepaa.fnExactIsClaim
namespace Go.Proofs.Ytakepkjcmgcepaa
/-- The row, under a short name, for the claim. -/
theorem fnExactIsClaim_holds : Rows.FnExactIsClaimSaid := fnExactIsClaim.proved
end Go.Proofs.Ytakepkjcmgcepaa
