/- A play is measured, copied and compared. -/
import Derived.Test.YtakepkjcmgcepaaQFnExactIsClaimx
import Derived.Test.YtakepkjcmgcepaaUtilAFnExactIsClaim
namespace Go.Proofs.Ytakepkjcmgcepaa.QFnExactIsClaim
open Go.RowKit Go.Proofs.YtakepkjcmgcepaaW.PrintWords Go.Proofs.YtakepkjcmgcepaaW.PrintLast Go.Proofs.YtakepkjcmgcepaaW.PrintMore Go.Proofs.Ytakepkjcmgcepaa.Lib
set_option linter.unusedVariables false
set_option linter.unusedSimpArgs false
theorem szI_eq (l : List Int) (n : Int) (hl : l.length ≤ 9223372036854775807) (hn : 0 ≤ n) (hn2 : n ≤ 1048576) : laws_szInt64S.f l n = some (if n < l.length then -1 else n - l.length) := by
  unfold laws_szInt64S.f
  rw [w64 (by omega) (by omega)]
  by_cases h : n < l.length
  · rw [if_pos (by omega), if_pos h]
  · rw [if_neg (by omega), if_neg h]
theorem szPlay_eq (a b : Int) (l : List Int) (n : Int) (hl : l.length ≤ 9223372036854775807) (hn : 0 ≤ n) (hn2 : n ≤ 1048576) : laws_szPlay.f a b l n = some (if n < l.length then -1 else n - l.length) := by
  unfold laws_szPlay.f
  rw [szI_eq l n hl hn hn2, Option.bind_some]
  split <;> split <;> first | rfl | omega
theorem toPlay_eq (a b : Int) (l : List Int) (hl : l.length ≤ 1048576) : Ev (fun k => laws_toPlay.f k a b l) (a, b, l) :=
  Ev.bind (toI l (by omega)) (Ev.now _)
theorem eqPlay_same (a b : Int) (l : List Int) (hl : l.length ≤ 1048576) : Ev (fun k => laws_eqPlay.f k a b l a b l) true :=
  ev_if_pos rfl (ev_if_pos rfl (Ev.bind (eqI_same l (by omega)) (ev_if_pos rfl (Ev.now _))))
end Go.Proofs.Ytakepkjcmgcepaa.QFnExactIsClaim
