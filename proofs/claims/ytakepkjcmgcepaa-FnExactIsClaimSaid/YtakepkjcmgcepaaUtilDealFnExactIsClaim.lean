/- A deal is measured, copied and compared. -/
import Derived.Test.YtakepkjcmgcepaaUtilSSFnExactIsClaim
namespace Go.Proofs.Ytakepkjcmgcepaa.QFnExactIsClaim
open Go.RowKit Go.Proofs.YtakepkjcmgcepaaW.PrintWords Go.Proofs.YtakepkjcmgcepaaW.PrintLast Go.Proofs.YtakepkjcmgcepaaW.PrintMore Go.Proofs.Ytakepkjcmgcepaa.Lib
set_option linter.unusedVariables false
set_option linter.unusedSimpArgs false
theorem szDeal_eq (H : List (List Int)) (n : Int) (hH : H.length ≤ 9223372036854775807) (hb : ∀ h ∈ H, h.length ≤ 9223372036854775807) (h0 : 0 ≤ n) (h1 : n ≤ 1048576) : Ev (fun k => laws_szDeal.f k H n) (if szH H n < 0 then -1 else szH H n) := by
  refine Ev.bind (szSS_eq H n hH hb h0 h1) ?_
  by_cases c : szH H n < 0
  · rw [show (if szH H n < 0 then (-1 : Int) else szH H n) = -1 from if_pos c]; exact ev_if_pos c (Ev.now _)
  · rw [show (if szH H n < 0 then (-1 : Int) else szH H n) = szH H n from if_neg c]; exact ev_if_neg c (Ev.now _)
theorem toDeal_eq (H : List (List Int)) (hH : H.length ≤ 1048576) (hb : ∀ h ∈ H, h.length ≤ 1048576) : Ev (fun k => laws_toDeal.f k H) H := Ev.bind (toSS_eq H hH hb) (Ev.now _)
theorem eqDeal_same (H : List (List Int)) (hH : H.length ≤ 1048576) (hb : ∀ h ∈ H, h.length ≤ 1048576) : Ev (fun k => laws_eqDeal.f k H H) true := Ev.bind (eqSS_same H hH hb) (ev_if_pos rfl (Ev.now _))
end Go.Proofs.Ytakepkjcmgcepaa.QFnExactIsClaim
