/- The row of the law FnExactTricksOfSides: the given statement, out of the pure statement and the walk. No condition. -/
import Derived.Test.YtakepkjcmgcepaaRows
import Derived.Test.YtakepkjcmgcepaaStart
import Derived.Test.YtakepkjcmgcepaaQFnExactTricksOfSidesx5
import Derived.Test.YtakepkjcmgcepaaSayFnExactTricksOfSides
import Derived.Test.YtakepkjcmgcepaaPureFnExactTricksOfSides
import Derived.Test.YtakepkjcmgcepaaOpen
import Derived.WalkKit
import Derived.ProofKit
import Derived.OpenShut
import Derived.ShutString
import Derived.ChangeOld
import Derived.Below
import Derived.SizedLaws
import Derived.Deep.Slices
import Derived.Lib.SmallJoins
namespace Go.Proofs.Ytakepkjcmgcepaa.fnExactTricksOfSides
open Go.ChangeShapes Go.WideShapes Go.ChangeAt Go.RowKit Go.Deep Go.Lib Go.Joins
open Go.ChangeMaps (open_string shut_string)
open Go.Proofs.YtakepkjcmgcepaaW.PrintWords Go.Proofs.Ytakepkjcmgcepaa.QFnExactTricksOfSides
set_option linter.unusedVariables false
theorem own : ownKnob Try.prog.godebug = none := by kernel_rfl
theorem laidOut : laidOutB Try.prog = true := by kernel_rfl
set_option maxRecDepth 100000 in
theorem lifted (os : Os) (started : os.Started) (H : Type) (enc : TypeId × Value → H) :
    ReturnsInHanded {} Try.checked os 6 .any (Rows.fnExactTricksOfSidesSpec.pre6 enc Try.prog Try.f6 Rows.fnExactTricksOfSidesRow.domain false) (Rows.fnExactTricksOfSidesSpec.post enc Try.prog Try.f6 false true false false) := by
  refine returnsInHanded_of_change_sized (C := Try.checked) own started (by kernel_rfl) Try.func6
    (ChangeSpec.witness6 (enc := enc) (C := Try.checked) false ⟨#[], #[.agg #[.int .i64 0, .int .i64 0, .slice none 0 0]], []⟩ 8 (by kernel_rfl) (by kernel_rfl) (by kernel_rfl) (by kernel_rfl)) ?_
  intro W base args ds gs before hval0 hW hcnd hsz0 _
  have hval : ∀ (j : Nat) t v, Try.f6.params[j]? = some t → args[j]? = some v → Value.okWide Try.prog W .any base t v := hval0
  have hW' := hW
  obtain ⟨p, q, hA0, hV, rfl, hfz, hnd⟩ := hW
  have hA : DataW.TrodAll enc Try.prog W 0 (fun _ => true) true Try.f6.params.toList args.toList ds p := hA0
  rw [Try.params6] at hA hval
  obtain ⟨v0, vs0, d0, ds0, p0, q0, hargs, rfl, rfl, h0, r0⟩ := trodAll_cons hA
  obtain ⟨rfl, rfl, rfl⟩ := trodAll_nil r0
  obtain rfl : args = #[v0] := by cases args; simp_all
  obtain ⟨rfl, rfl⟩ := trodVars_none hV
  have k0 := h0
  have lt0 : ∀ x ∈ p0, x.block < W.heap.size := by obtain ⟨m, hm⟩ := k0; exact DataW.trod_lt m _ _ _ hm
  obtain ⟨v0_0, v0_1, v0_2, y0_0, y0_1, y0_2, n0, rfl, rfl, rfl, g0_0, g0_1, g0_2⟩ := open_agg3 Try.underlying24 (by kernel_rfl) (by kernel_rfl) (hval 0 24 v0 rfl rfl) h0
  obtain ⟨a0_0, e0_0, z0_0, w0_0⟩ := DataW.trod_int Try.underlying2 g0_0
  simp only [List.cons.injEq, and_true] at e0_0
  subst e0_0
  obtain ⟨a0_1, e0_1, z0_1, w0_1⟩ := DataW.trod_int Try.underlying2 g0_1
  simp only [List.cons.injEq, and_true] at e0_1
  subst e0_1
  obtain ⟨l0_2, ⟨A0_2, c0_2, e0_2, hc0_2, hr0_2⟩, b0_2⟩ := (Open.opens_slice Try.underlying22 (by kernel_rfl) (by decide) (Open.opens_int Try.underlying2)) _ _ _ g0_2
  simp only [List.cons.injEq, and_true] at e0_2
  subst e0_2
  clear hA0 hval0 hsz0
  obtain ⟨k, hk⟩ := Pure.FnExactTricksOfSides a0_0 a0_1 l0_2 w0_0 w0_1 b0_2
  refine (QFnExactTricksOfSides.laws_FnExactTricksOfSides.calls k a0_0 a0_1 A0_2 c0_2 l0_2 true W hr0_2 hc0_2 hk).mono fun e W' ⟨he, hd⟩ => ?_
  have bel : Below W.heap.size W W' := hd
  subst he
  exact ⟨_, rfl, _, _, _, [], _, [], hW', trodAll_mk1 (shut_bool Try.underlying4 _), (trodAll_cons_mk (Below.trod laidOut (by kernel_rfl) (of_decide_eq_true (by kernel_rfl)) k0 bel lt0) trodAll_mk0), rfl, bel.frame _, fun h => by cases h⟩
theorem joined : joinedFacts Try.prog 6 Try.f6 Rows.fnExactTricksOfSidesSpec Rows.fnExactTricksOfSidesRow = true := by
  unfold joinedFacts; rw [Start.mayEnter, Start.liftsFinal, Start.make]; kernel_rfl
theorem over : Rows.fnExactTricksOfSidesRow.holds Try.pinned (OpenSpec.ofChange Rows.fnExactTricksOfSidesSpec) :=
  OpenClaim.holds_of_wide 6 Try.f6 rfl rfl rfl rfl rfl rfl rfl ⟨rfl, rfl, rfl, rfl, rfl⟩ rfl rfl rfl rfl rfl (by kernel_rfl) Try.func6 joined
    (of_decide_eq_true (by kernel_rfl)) (by unfold Func.isWrapper; first | (rw [if_pos (by decide +kernel)]; kernel_rfl) | (rw [if_neg (by decide +kernel)]; exact ⟨rfl, rfl⟩))
    (fun os started H enc _ => lifted os started H enc)
theorem proved : Rows.FnExactTricksOfSidesSaid := over
#print axioms proved
end Go.Proofs.Ytakepkjcmgcepaa.fnExactTricksOfSides
namespace Go.Proofs.Ytakepkjcmgcepaa
/-- The row, under a short name, for the claim. -/
theorem fnExactTricksOfSides_holds : Rows.FnExactTricksOfSidesSaid := fnExactTricksOfSides.proved
end Go.Proofs.Ytakepkjcmgcepaa
