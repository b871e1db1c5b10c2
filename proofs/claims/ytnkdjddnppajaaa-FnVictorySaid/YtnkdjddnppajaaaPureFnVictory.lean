/- The victory points of both teams add up to 2000, and more IMPs never give fewer of them: for every code of bytes, no condition. -/
import Derived.Test.YtnkdjddnppajaaaVpFnVictory
import Derived.Test.YtnkdjddnppajaaaDrawFnVictory
namespace Go.Proofs.Ytnkdjddnppajaaa.QFnVictory
open Go.RowKit Go.Proofs.YtnkdjddnppajaaaW.PrintWords Go.Proofs.YtnkdjddnppajaaaW.PrintLast Go.Proofs.YtnkdjddnppajaaaW.PrintMore Go.Proofs.Ytnkdjddnppajaaa.Lib

theorem draw_vp {l : List Int} (hl : l.length ≤ 140737488351232) (hb : ∀ x ∈ l, (Lit.int .u8 x).wf = true) : ∃ x b, Ev (fun k => spec_DrawVictoryPoints.f k l) (x, b) := by
  obtain ⟨s, hS, h0⟩ := from_src hl hb
  obtain ⟨v1, a1, s1, e1, S1, p1, _, q1⟩ := next_src hS 8
  have hq1 := q1 (by omega)
  obtain ⟨v2, a2, s2, e2, S2, _⟩ := next_src S1 (mx 1 (wrap64 ((wrap64 (48 * (rd [1, 8, 16, 20, 32, 100, 101, 0] v1))) + 3)))
  obtain ⟨v3, a3, s3, e3, S3, _⟩ := next_src S2 2
  obtain ⟨v4, a4, s4, e4, S4, _⟩ := next_src S3 3
  obtain ⟨v5, a5, s5, e5, S5, _⟩ := next_src S4 81
  by_cases c : v4 = 0
  · refine ⟨wrap64 (v5 - 40), rd [1, 8, 16, 20, 32, 100, 101, 0] v1, Ev.bind h0 (ev_one ?_)⟩
    simp only [Option.bind_some, e1]
    rw [if_pos p1, if_pos (by simpa using hq1)]
    simp only [e2, e3, e4, Option.bind_some]
    rw [if_pos c]
    simp only [e5, Option.bind_some]
  · refine ⟨wrap64 (wrap64 (v2 - wrap64 (24 * rd [1, 8, 16, 20, 32, 100, 101, 0] v1)) - v3), rd [1, 8, 16, 20, 32, 100, 101, 0] v1, Ev.bind h0 (ev_one ?_)⟩
    simp only [Option.bind_some, e1]
    rw [if_pos p1, if_pos (by simpa using hq1)]
    simp only [e2, e3, e4, Option.bind_some]
    rw [if_neg c]

/-- The law, at whatever numbers are drawn. -/
theorem vp_law (x b : Int) (hok : 1 ≤ b ∧ b ≤ 100 ∧ -24 * b ≤ x ∧ x ≤ 24 * b) :
    (vpOf x b).2.2 = 0 ∧ (vpOf x b).1 + (vpOf x b).2.1 = 2000 ∧ (vpOf (-x) b).2.2 = 0 ∧ (vpOf (-x) b).1 = (vpOf x b).2.1 ∧ (vpOf (-x) b).2.1 = (vpOf x b).1 ∧ (x = 0 → (vpOf x b).1 = 1000) ∧
    ((vpOf (x + 1) b).2.2 = 0 → (vpOf (x + 1) b).1 ≥ (vpOf x b).1 ∧ (vpOf (x + 1) b).1 + (vpOf (x + 1) b).2.1 = 2000) := by
  obtain ⟨h1, h2, h3, h4⟩ := hok
  have hr := root_pos (n := 225 * b) (by omega)
  generalize hR : root (225 * b) = r at hr
  have good : ∀ y, -24 * b ≤ y → y ≤ 24 * b → vpOf y b = vp y r := fun y a c => by rw [← hR]; exact vpOf_good h1 h2 a c
  have z := vpWin_zero r
  have sum : ∀ y, (vp y r).1 + (vp y r).2.1 = 2000 ∧ (vp y r).2.2 = 0 := by
    intro y; unfold vp; split <;> simp <;> omega
  refine ⟨?_, ?_, ?_, ?_, ?_, ?_, ?_⟩
  · rw [good x h3 h4]; exact (sum x).2
  · rw [good x h3 h4]; exact (sum x).1
  · rw [good (-x) (by omega) (by omega)]; exact (sum _).2
  · rw [good x h3 h4, good (-x) (by omega) (by omega)]
    unfold vp
    by_cases c : x < 0
    · rw [if_pos c, if_neg (by omega)]
    · rw [if_neg c]
      by_cases c2 : -x < 0
      · rw [if_pos c2, Int.neg_neg]
      · obtain rfl : x = 0 := by omega
        rw [if_neg c2]; simp [z]
  · rw [good x h3 h4, good (-x) (by omega) (by omega)]
    unfold vp
    by_cases c : x < 0
    · rw [if_pos c, if_neg (by omega)]
    · rw [if_neg c]
      by_cases c2 : -x < 0
      · rw [if_pos c2, Int.neg_neg]
      · obtain rfl : x = 0 := by omega
        rw [if_neg c2]; simp [z]
  · intro e
    subst e
    rw [good 0 (by omega) (by omega)]
    unfold vp; simp [z]
  · intro e
    by_cases c : x + 1 ≤ 24 * b
    · rw [good x h3 h4, good (x + 1) (by omega) c]
      refine ⟨?_, (sum _).1⟩
      unfold vp
      by_cases d : x < 0
      · rw [if_pos d]
        by_cases d2 : x + 1 < 0
        · rw [if_pos d2]
          have := vpWin_mono (m := -(x + 1)) (m' := -x) (r := r) (by omega) (by omega) hr
          show 2000 - vpWin (-(x + 1)) r ≥ 2000 - vpWin (-x) r
          omega
        · rw [if_neg d2]
          have a1 := vpWin_bd (m := x + 1) (r := r) (by omega) hr
          have a2 := vpWin_bd (m := -x) (r := r) (by omega) hr
          show vpWin (x + 1) r ≥ 2000 - vpWin (-x) r
          omega
      · rw [if_neg d, if_neg (by omega)]
        exact vpWin_mono (by omega) (by omega) hr
    · exfalso
      rw [vpOf_bad (fun h => c h.2.2.2)] at e
      simp at e

end Go.Proofs.Ytnkdjddnppajaaa.QFnVictory
namespace Go.Proofs.Ytnkdjddnppajaaa.Pure
open Go.RowKit Go.Proofs.Ytnkdjddnppajaaa.QFnVictory Go.Proofs.YtnkdjddnppajaaaW.PrintWords Go.Proofs.YtnkdjddnppajaaaW.PrintLast Go.Proofs.Ytnkdjddnppajaaa.Lib

theorem FnVictory : laws_FnVictory.Pure := by
  intro l _ hl hb
  obtain ⟨x, b, hd⟩ := draw_vp (l := l) (by omega) hb
  by_cases big : (l.length : Int) > 4096
  · exact ev_true (ev_pure (a := true) (by simp [laws_big.f]; omega) (ev_if_pos rfl (Ev.now _)))
  · refine ev_true (ev_pure (a := false) (by simp [laws_big.f]; omega) (ev_if_neg (by simp) ?_))
    refine Ev.bind hd (Ev.bind (impl_vp x b) (Ev.bind (spec_vp x b) (ev_if_pos rfl ?_)))
    by_cases hok : 1 ≤ b ∧ b ≤ 100 ∧ -24 * b ≤ x ∧ x ≤ 24 * b
    · obtain ⟨k1, k2, k3, k4, k5, k6, k7⟩ := vp_law x b hok
      have bd : -9223372036854775808 ≤ (vpOf x b).1 + (vpOf x b).2.1 ∧ (vpOf x b).1 + (vpOf x b).2.1 ≤ 9223372036854775807 := by rw [k2]; omega
      refine ev_if_pos k1 ?_
      show Ev (fun k => (impl_VictoryPoints.f k (wrap64 (x + 1)) b).bind _) true
      rw [w64 (x := x + 1) (by omega) (by omega)]
      refine Ev.bind (impl_vp (x + 1) b) ?_
      show Ev (fun k => (impl_VictoryPoints.f k (wrap64 (-x)) b).bind _) true
      rw [w64 (x := -x) (by omega) (by omega)]
      refine Ev.bind (impl_vp (-x) b) ?_
      refine ev_if_pos (by rw [w64 bd.1 bd.2]; exact k2) (ev_if_pos k3 (ev_if_pos k4 (ev_if_pos k5 ?_)))
      have last : (if x = 0 then some ((vpOf x b).1 == 1000) else some true) = some true := by
        by_cases c : x = 0
        · rw [if_pos c, k6 c]; rfl
        · rw [if_neg c]
      by_cases m : (vpOf (x + 1) b).2.2 = 0
      · obtain ⟨m1, m2⟩ := k7 m
        refine ev_if_pos m (ev_if_pos m1 (ev_if_pos (by rw [m2]; exact w64 (by omega) (by omega)) (ev_one last)))
      · exact ev_if_neg m (ev_one last)
    · have e := vpOf_bad hok
      refine ev_if_neg (by rw [e]; decide) (ev_if_pos (by rw [e]) (ev_one (by rw [e]; rfl)))

end Go.Proofs.Ytnkdjddnppajaaa.Pure
