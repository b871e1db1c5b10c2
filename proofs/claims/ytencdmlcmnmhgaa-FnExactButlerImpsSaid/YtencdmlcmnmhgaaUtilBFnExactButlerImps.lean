/- A list is marked with numbers that go up by one, and holds them. -/
import Derived.Test.YtencdmlcmnmhgaaUtilAFnExactButlerImps
namespace Go.Proofs.Ytencdmlcmnmhgaa.QFnExactButlerImps
open Go.RowKit Go.Proofs.YtencdmlcmnmhgaaW.PrintWords Go.Proofs.YtencdmlcmnmhgaaW.PrintLast Go.Proofs.YtencdmlcmnmhgaaW.PrintMore Go.Proofs.Ytencdmlcmnmhgaa.Lib

theorem markI_l0 : ∀ (m i : Nat) (x : List Int) (n : Int), i + m = x.length → x.length ≤ 1099511627776 → 0 ≤ n → n + m ≤ 4611686018427387904 → Ev (fun k => laws_markInt64S.l0 k x n (i : Int)) (n + m, x.take i ++ iota n m) := by
  intro m
  induction m with
  | zero =>
    intro i x n hi hl h0 h1
    have e : (n + ((0 : Nat) : Int), x.take i ++ iota n 0) = (n, x) := by
      simp [iota, List.take_of_length_le (show x.length ≤ i by omega)]
    rw [e]
    exact Ev.step (fun k => by simp only [laws_markInt64S.l0]; rw [if_neg (by omega)]) (Ev.now _)
  | succ m ih =>
    intro i x n hi hl h0 h1
    have e : (n + ((m + 1 : Nat) : Int), x.take i ++ iota n (m + 1)) = (n + 1 + (m : Int), (x.set i n).take (i + 1) ++ iota (n + 1) m) := by
      rw [take_set_succ (by omega), List.append_assoc]
      refine Prod.ext ?_ rfl
      show n + ((m + 1 : Nat) : Int) = n + 1 + (m : Int)
      omega
    rw [e]
    refine Ev.step (fun k => ?_) (ih (i + 1) (x.set i n) (n + 1) (by simp; omega) (by simpa using hl) (by omega) (by omega))
    simp only [laws_markInt64S.l0]
    rw [if_pos (by omega), if_pos (by omega), w64 (x := (i : Int) + 1) (by omega) (by omega), w64 (x := n + 1) (by omega) (by omega)]
    rfl

theorem markI (x : List Int) (n : Int) (hl : x.length ≤ 1099511627776) (h0 : 0 ≤ n) (h1 : n ≤ 1152921504606846976) : Ev (fun k => laws_markInt64S.f k x n) (n + x.length, iota n x.length) := by
  have h : Ev (fun k => laws_markInt64S.l0 k x n 0) (n + x.length, iota n x.length) := by
    have := markI_l0 x.length 0 x n (by omega) hl h0 (by omega)
    simpa using this
  exact h

theorem heldI_l0 : ∀ (m : Nat) (p : List Int) (n : Int), p.length + m ≤ 1099511627776 → 0 ≤ n → n + m ≤ 4611686018427387904 → Ev (fun k => laws_heldInt64S.l0 k (p ++ iota n m) n (p.length : Int)) (n + m) := by
  intro m
  induction m with
  | zero =>
    intro p n hl h0 h1
    have e : n + ((0 : Nat) : Int) = n := by omega
    rw [e]
    exact Ev.step (fun k => by simp only [laws_heldInt64S.l0]; rw [if_neg (by simp [iota])]) (Ev.now _)
  | succ m ih =>
    intro p n hl h0 h1
    have e : p ++ iota n (m + 1) = (p ++ [n]) ++ iota (n + 1) m := by rw [List.append_assoc]; rfl
    have hi := ih (p ++ [n]) (n + 1) (by simp; omega) (by omega) (by omega)
    have e2 : n + ((m + 1 : Nat) : Int) = n + 1 + (m : Int) := by omega
    rw [e2]
    refine Ev.step (fun k => ?_) hi
    have e3 : rd (p ++ iota n (m + 1)) (p.length : Int) = n := rd_append_cons
    simp only [laws_heldInt64S.l0]
    rw [if_pos (by simp [iota]; omega), if_pos (by omega), if_pos e3, w64 (x := (p.length : Int) + 1) (by omega) (by omega), w64 (x := n + 1) (by omega) (by omega), e]
    simp

theorem heldI (n : Int) (m : Nat) (hl : m ≤ 1099511627776) (h0 : 0 ≤ n) (h1 : n ≤ 1152921504606846976) : Ev (fun k => laws_heldInt64S.f k (iota n m) n) (n + m) :=
  heldI_l0 m [] n (by simpa using hl) h0 (by omega)

end Go.Proofs.Ytencdmlcmnmhgaa.QFnExactButlerImps
