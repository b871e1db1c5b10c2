/- IMPs are opposite for opposite differences and do not decrease, and exchanging the teams negates the result of a match: for every code of bytes, no condition. -/
import Derived.Test.YtencdmlcmnmhgaaMatchesFnImps
import Derived.Test.YtencdmlcmnmhgaaDrawMFnImps
namespace Go.Proofs.Ytencdmlcmnmhgaa.QFnImps
open Go.RowKit Go.Proofs.YtencdmlcmnmhgaaW.PrintWords Go.Proofs.YtencdmlcmnmhgaaW.PrintLast Go.Proofs.YtencdmlcmnmhgaaW.PrintMore Go.Proofs.Ytencdmlcmnmhgaa.Lib
theorem draw_n {l : List Int} (hl : l.length ≤ 140737488351232) (hb : ∀ x ∈ l, (Lit.int .u8 x).wf = true) : ∃ n, -1099511627776 ≤ n ∧ n ≤ 1099511627776 ∧ Ev (fun k => spec_DrawImpsOf.f k l) n := by
  obtain ⟨s, hS, h0⟩ := from_src hl hb
  obtain ⟨v1, a1, s1, e1, S1, p1, _, q1⟩ := next_src hS 901
  have hq1 := q1 (by omega)
  obtain ⟨v2, a2, s2, e2, S2, p2, _, q2⟩ := next_src S1 12
  obtain ⟨v3, a3, s3, e3, S3, p3, _, q3⟩ := next_src S2 7
  have hq3 := q3 (by omega)
  by_cases c0 : v2 = 0
  · exact ⟨1099511627776, by omega, by omega, Ev.bind h0 (ev_pure e1 (ev_pure e2 (ev_if_pos c0 (Ev.now _))))⟩
  · by_cases c1 : v2 = 1
    · have hm := rd_mem (xs := [19, 20, 49, (-20), (-19), 3999, 4000]) p3 (by simpa using hq3)
      have hbd : -1099511627776 ≤ rd [19, 20, 49, (-20), (-19), 3999, 4000] v3 ∧ rd [19, 20, 49, (-20), (-19), 3999, 4000] v3 ≤ 1099511627776 := by
        generalize rd [19, 20, 49, (-20), (-19), 3999, 4000] v3 = z at hm
        simp at hm
        omega
      exact ⟨_, hbd.1, hbd.2, Ev.bind h0 (ev_pure e1 (ev_pure e2 (ev_if_neg c0 (ev_if_pos c1 (ev_pure rfl (ev_pure e3 (ev_if_pos p3 (ev_if_pos (by simpa using hq3) (Ev.now _)))))))))⟩
    · refine ⟨10 * (v1 - 450), by omega, by omega, Ev.bind h0 (ev_pure e1 (ev_pure e2 (ev_if_neg c0 (ev_if_neg c1 (ev_one ?_)))))⟩
      rw [w64 (x := v1 - 450) (by omega) (by omega), w64 (by omega) (by omega)]
theorem draw_ab {l : List Int} (hl : l.length ≤ 140737488351232) (hb : ∀ x ∈ l, (Lit.int .u8 x).wf = true) : ∃ a b, a.length ≤ 1001 ∧ b.length ≤ 1001 ∧ Ev (fun k => spec_DrawMatchImps.f k l) (a, b) := by
  obtain ⟨s, hS, h0⟩ := from_src hl hb
  obtain ⟨p, q, a', s', S', hp, hq, h⟩ := drawM hS
  exact ⟨p, q, hp, hq, Ev.bind h0 (Ev.bind h (Ev.now _))⟩
theorem isM_swap (a b : List Int) : isM b a = isM a b := by
  rw [Bool.eq_iff_iff, isM_iff, isM_iff]
  constructor <;> rintro ⟨h1, h2, h3⟩ <;> exact ⟨h2, h1, h3.symm⟩
theorem mi_swap (a b : List Int) : (mi b a).2 = (mi a b).2 ∧ (mi b a).1 = -(mi a b).1 := by
  unfold mi
  rw [isM_swap]
  by_cases h : isM a b = true
  · rw [if_pos h, if_pos h, impsOf_swap a b, total_neg]; exact ⟨rfl, rfl⟩
  · rw [if_neg h, if_neg h]; exact ⟨rfl, rfl⟩
theorem mi_bd (a b : List Int) : -2400 ≤ (mi a b).1 ∧ (mi a b).1 ≤ 2400 := by
  unfold mi
  by_cases h : isM a b = true
  · rw [if_pos h]
    have h1 := total_bd _ (impsOf_bd a b)
    have h2 := impsOf_len a b
    have h3 := isM_len h
    simp only; omega
  · rw [if_neg h]; simp
end Go.Proofs.Ytencdmlcmnmhgaa.QFnImps
namespace Go.Proofs.Ytencdmlcmnmhgaa.Pure
open Go.RowKit Go.Proofs.Ytencdmlcmnmhgaa.QFnImps Go.Proofs.YtencdmlcmnmhgaaW.PrintWords Go.Proofs.YtencdmlcmnmhgaaW.PrintLast Go.Proofs.Ytencdmlcmnmhgaa.Lib

theorem FnImps : laws_FnImps.Pure := by
  intro l _ hl hb
  obtain ⟨n, n1, n2, hn⟩ := draw_n (l := l) (by omega) hb
  obtain ⟨a, b, la, lb, hd⟩ := draw_ab (l := l) (by omega) hb
  by_cases big : (l.length : Int) > 4096
  · exact ev_true (ev_pure (a := true) (by simp [laws_big.f]; omega) (ev_if_pos rfl (Ev.now _)))
  · refine ev_true (ev_pure (a := false) (by simp [laws_big.f]; omega) (ev_if_neg (by simp) ?_))
    obtain ⟨w1, w2⟩ := mi_swap a b
    have wb := mi_bd a b
    refine Ev.bind hn (Ev.bind hd (Ev.bind (impl_matches a b) (Ev.bind (impl_matches b a) (Ev.bind (spec_matches a b (by omega) (by omega)) (ev_if_pos rfl ?_)))))
    rw [show ((mi b a).2 != (mi a b).2) = false by rw [w1]; simp, w2]
    have ib := imps_bd n
    refine Ev.step (fun k => by simp only [laws_FnImps.j0]; rw [if_neg (by simp)]) ?_
    refine Ev.bind (impl_imps n) ?_
    rw [w64 (x := -n) (by omega) (by omega)]
    refine Ev.bind (impl_imps (-n)) (ev_if_pos (by rw [imps_neg, w64 (by omega) (by omega)]) ?_)
    rw [w64 (x := n + 10) (by omega) (by omega)]
    have last : some ((mi a b).1 == wrap64 (- -(mi a b).1)) = some true := by
      rw [w64 (by omega) (by omega)]; simp
    refine Ev.bind (impl_imps (n + 10)) (ev_if_pos (imps_mono (by omega)) (ev_if_pos ib.2 ?_))
    have z := imps_zero n
    by_cases c : n ≥ 20
    · have h : imps n ≠ 0 := z.2 (Or.inl c)
      exact ev_if_pos c (ev_if_pos (by simp [h]) (ev_one last))
    · refine ev_if_neg c (ev_if_pos ?_ (ev_one last))
      by_cases d : n ≤ -20
      · have h : imps n ≠ 0 := z.2 (Or.inr d)
        simp [h, d]
      · have h : imps n = 0 := by
          by_cases e : imps n = 0
          · exact e
          · have := z.1 e; omega
        simp [h, d]

end Go.Proofs.Ytencdmlcmnmhgaa.Pure
