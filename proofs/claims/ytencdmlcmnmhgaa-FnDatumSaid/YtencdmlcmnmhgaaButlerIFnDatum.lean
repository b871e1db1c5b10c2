/- The IMPs against the datum: the program's. -/
import Derived.Test.YtencdmlcmnmhgaaDatumIFnDatum
import Derived.Test.YtencdmlcmnmhgaaImpsIFnDatum
namespace Go.Proofs.Ytencdmlcmnmhgaa.QFnDatum
set_option linter.unusedVariables false
open Go.RowKit Go.Proofs.YtencdmlcmnmhgaaW.PrintWords Go.Proofs.YtencdmlcmnmhgaaW.PrintLast Go.Proofs.YtencdmlcmnmhgaaW.PrintMore Go.Proofs.Ytencdmlcmnmhgaa.Lib
def against (l : List Int) (d : Int) : List Int := l.map fun x => imps (wrap64 (x - d))
def butler (l : List Int) (a : Int) : List Int × Int := if (datum l a).2 = 0 then (against l (datum l a).1, 0) else ([], (datum l a).2)
theorem butler_len (l : List Int) (a : Int) (hl : l.length ≤ 1048576) : (butler l a).1.length ≤ 1048576 := by
  unfold butler against
  split
  · rw [List.length_map]; exact hl
  · simp
theorem ibutler_l0 (l : List Int) (d : Int) (hl : l.length ≤ 1048576) : ∀ (m i : Nat), i + m = l.length → Ev (fun k => impl_ButlerImps.l0 k d (against (l.take i) d) l (l.length : Int) (i : Int)) (against l d, (0 : Int)) := by
  intro m
  induction m with
  | zero =>
    intro i hi
    rw [List.take_of_length_le (by omega)]
    exact Ev.step (fun k => by simp only [impl_ButlerImps.l0]; rw [if_neg (by omega)]) (Ev.now _)
  | succ m ih =>
    intro i hi
    have e5 : wrap64 ((i : Int) + 1) = ((i + 1 : Nat) : Int) := by rw [w64 (by omega) (by omega)]; omega
    refine Ev.step (fun k => by simp only [impl_ButlerImps.l0, e5]; rw [if_pos (by omega), if_pos (by omega), if_pos (by omega)]) ?_
    refine Ev.bind (impl_imps _) (ev_if_pos (by unfold against; rw [List.length_map, List.length_take]; omega) ?_)
    have := ih (i + 1) (by omega)
    unfold against at this ⊢
    rw [map_take_succ (by omega)] at this
    exact this
theorem impl_butler (l : List Int) (a : Int) (hl : l.length ≤ 1048576) : Ev (fun k => impl_ButlerImps.f k l a) (butler l a) := by
  refine Ev.bind (impl_datum l a) ?_
  unfold butler
  by_cases h : (datum l a).2 = 0
  · rw [if_pos h]
    exact ev_if_pos h (ibutler_l0 l _ hl l.length 0 (by omega))
  · rw [if_neg h]
    exact ev_if_neg h (Ev.now _)
end Go.Proofs.Ytencdmlcmnmhgaa.QFnDatum
