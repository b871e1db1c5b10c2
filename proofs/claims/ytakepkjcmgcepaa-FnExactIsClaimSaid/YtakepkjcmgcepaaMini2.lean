/- Short words for what a walk's facts are carried over: each tries the few lemmas on memory that the print would spell out. -/
import Derived.Test.YtakepkjcmgcepaaMini
namespace Go.Proofs.YtakepkjcmgcepaaW.PrintMore
open Go.RowKit Go.Proofs.YtakepkjcmgcepaaW.PrintWords Go.Proofs.YtakepkjcmgcepaaW.PrintLast
set_option linter.unusedVariables false
theorem bW {p q : Prop} (h : p) (h2 : p → q := by intro h; repeat (first|(with_reducible first|exact h|apply bL|apply bM|apply b1|refine bS ?_ (Aside0.out (by assumption)))|exact h)) : q := h2 h
theorem bX {p q : Prop} (h : p) (h2 : p → q := by intro h; (with_reducible repeat first|apply bN|apply bD|apply bA); exact h) : q := h2 h
theorem sX {p q : Prop} (h : p) (h2 : p → q := by intro h; (with_reducible repeat first|apply Kd.S_alloc|apply Kd.S_drewN|apply Kd.S_drew); exact h) : q := h2 h
theorem rX {p q : Prop} (h : p) (h2 : p → q := by intro h; (with_reducible repeat first|apply Kd.R_alloc|apply Kd.R_drewN|apply Kd.R_drew); exact h) : q := h2 h
theorem vX {p q : Prop} (h : p) (h2 : p → q := by intro h; (with_reducible repeat first|apply Kd.V_alloc|apply Kd.V_drewN|apply Kd.V_drew); exact h) : q := h2 h
theorem aP {p q : Prop} (h : p) (h2 : p → q := by intro h_; (try simp only [and_assoc,true_and] at h_); (repeat' apply And.intro) <;> with_reducible first|exact h_.1|exact h_.2.1|exact h_.2.2.1|exact h_.2.2.2.1|exact h_.2.2.2.2.1|exact h_.2.2.2.2.2.1|exact h_.2.2.2.2.2.2.1|exact h_.2.2.2.2.2.2.2.1|exact h_.2.2.2.2.2.2.2.2.1|exact h_.2|exact h_.2.2|exact h_.2.2.2|exact h_.2.2.2.2|exact h_.2.2.2.2.2|exact h_.2.2.2.2.2.2|exact h_.2.2.2.2.2.2.2|exact h_.2.2.2.2.2.2.2.2) : q := h2 h
end Go.Proofs.YtakepkjcmgcepaaW.PrintMore
