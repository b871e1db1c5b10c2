/- The program's TrickLeaders returns what the reference's returns, leaves its argument alone, and shares no memory with it: for all plays, no condition. -/
import Derived.Test.YtakepkjcmgcepaaLeadsFnExactTrickLeaders
import Derived.Test.YtakepkjcmgcepaaMarkPlayFnExactTrickLeaders
import Derived.Test.YtakepkjcmgcepaaSayFnExactTrickLeaders
namespace Go.Proofs.Ytakepkjcmgcepaa.QFnExactTrickLeaders
open Go.RowKit Go.Proofs.YtakepkjcmgcepaaW.PrintWords Go.Proofs.YtakepkjcmgcepaaW.PrintLast Go.Proofs.YtakepkjcmgcepaaW.PrintMore Go.Proofs.Ytakepkjcmgcepaa.Lib
def ans (a b : Int) (l : List Int) : List Int := if impl_IsPlainPlay.ok a b l = true then leadersOf a b l else []
theorem ans_length (a b : Int) (l : List Int) (hl : l.length ≤ 1048576) : (ans a b l).length ≤ 1048577 := by
  unfold ans
  split
  · rw [leadersOf_length]; omega
  · simp
theorem spec_ans (a b : Int) (l : List Int) (hl : l.length ≤ 1048576) : Ev (fun k => spec_TrickLeaders.f k a b l) (ans a b l) := by
  refine Ev.bind (plain_eq a b l hl) ?_
  unfold ans
  by_cases h : impl_IsPlainPlay.ok a b l = true
  · rw [if_pos h]
    exact ev_if_pos h (Ev.bind (l08Leaders_eq a b l hl) (Ev.now _))
  · rw [if_neg h]
    exact ev_if_neg h (Ev.now _)
theorem impl_ans (a b : Int) (l : List Int) (hl : l.length ≤ 1048576) : Ev (fun k => impl_TrickLeaders.f k a b l) (ans a b l) := by
  refine ev_pure (a := impl_IsPlainPlay.ok a b l) rfl ?_
  unfold ans
  by_cases h : impl_IsPlainPlay.ok a b l = true
  · rw [if_pos h]
    exact ev_if_pos h (Ev.bind (leaders_eq a b l hl) (Ev.now _))
  · rw [if_neg h]
    exact ev_if_neg h (Ev.now _)
end Go.Proofs.Ytakepkjcmgcepaa.QFnExactTrickLeaders
namespace Go.Proofs.Ytakepkjcmgcepaa.Pure
open Go.RowKit Go.Proofs.Ytakepkjcmgcepaa.QFnExactTrickLeaders Go.Proofs.YtakepkjcmgcepaaW.PrintWords Go.Proofs.YtakepkjcmgcepaaW.PrintLast Go.Proofs.Ytakepkjcmgcepaa.Lib

theorem FnExactTrickLeaders : laws_FnExactTrickLeaders.Pure := by
  intro a b l _ _ hl
  have hm : l.length ≤ 9223372036854775807 := Nat.le_trans hl.1 (by decide)
  by_cases hs : (1048576 : Int) < l.length
  · refine ev_true (ev_pure (szPlay_eq a b l 1048576 hm (by omega) (by omega)) ?_)
    rw [if_pos hs]
    exact ev_if_pos (by omega) (Ev.now _)
  · have hl' : l.length ≤ 1048576 := by omega
    have hs' := spec_ans a b l hl'
    have hi := impl_ans a b l hl'
    have ll := ans_length a b l hl'
    generalize ans a b l = r at hs' hi ll
    refine ev_true (ev_pure (szPlay_eq a b l 1048576 hm (by omega) (by omega)) ?_)
    rw [if_neg hs]
    refine ev_if_neg (by omega) (Ev.bind (toPlay_eq a b l hl') (Ev.bind hs' (Ev.bind (toPlay_eq a b l hl') (Ev.bind hi (Ev.bind (eqI_same r (by omega)) (ev_if_pos rfl ?_))))))
    refine Ev.bind (toPlay_eq a b l hl') (Ev.bind (eqPlay_same a b l hl') (ev_if_pos rfl ?_))
    refine Ev.bind (markPlay_eq a b l hl') (ev_if_neg (by simp only; omega) ?_)
    refine Ev.bind (eqI_same r (by omega)) ?_
    refine Ev.step (fun k => by simp only [laws_FnExactTrickLeaders.j0]; rw [if_neg (by simp)]) ?_
    refine Ev.bind (markI r 1 (by omega) (by omega) (by omega)) (Ev.bind (heldI 1 r.length (by omega) (by omega) (by omega)) (ev_if_neg (by omega) (ev_if_pos rfl ?_)))
    refine Ev.bind (toPlay_eq a b l hl') (Ev.bind hi (Ev.bind (eqI_same r (by omega)) (ev_if_pos rfl ?_)))
    exact Ev.bind (heldI 1 r.length (by omega) (by omega) (by omega)) (ev_if_neg (by omega) (ev_if_pos rfl (Ev.now _)))
end Go.Proofs.Ytakepkjcmgcepaa.Pure
