/- The program's IsPlainPlay returns what the reference's returns and leaves its argument alone: for all plays, no condition. -/
import Derived.Test.YtakepkjcmgcepaaPlainFnExactIsPlainPlay
import Derived.Test.YtakepkjcmgcepaaPlayUFnExactIsPlainPlay
import Derived.Test.YtakepkjcmgcepaaSayFnExactIsPlainPlay
namespace Go.Proofs.Ytakepkjcmgcepaa.Pure
open Go.RowKit Go.Proofs.Ytakepkjcmgcepaa.QFnExactIsPlainPlay Go.Proofs.YtakepkjcmgcepaaW.PrintWords Go.Proofs.YtakepkjcmgcepaaW.PrintLast Go.Proofs.Ytakepkjcmgcepaa.Lib

theorem FnExactIsPlainPlay : laws_FnExactIsPlainPlay.Pure := by
  intro a b l _ _ hl
  have hm : l.length ≤ 9223372036854775807 := Nat.le_trans hl.1 (by decide)
  by_cases hs : (1048576 : Int) < l.length
  · refine ev_true (ev_pure (szPlay_eq a b l 1048576 hm (by omega) (by omega)) ?_)
    rw [if_pos hs]
    exact ev_if_pos (by omega) (Ev.now _)
  · have hl' : l.length ≤ 1048576 := by omega
    have h1 := plain_eq a b l hl'
    refine ev_true (ev_pure (szPlay_eq a b l 1048576 hm (by omega) (by omega)) ?_)
    rw [if_neg hs]
    refine ev_if_neg (by omega) (Ev.bind (toPlay_eq a b l hl') (Ev.bind h1 (Ev.bind (toPlay_eq a b l hl') (ev_pure (a := impl_IsPlainPlay.ok a b l) rfl ?_))))
    refine ev_if_neg (by simp) (Ev.bind (toPlay_eq a b l hl') (Ev.bind (eqPlay_same a b l hl') (ev_if_pos rfl (Ev.now _))))
end Go.Proofs.Ytakepkjcmgcepaa.Pure
