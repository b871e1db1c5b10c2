/- The reference draws two lists of at most 101 numbers. -/
import Derived.Test.YtencdmlcmnmhgaaDrawFnDatum
namespace Go.Proofs.Ytencdmlcmnmhgaa.QFnDatum
open Go.RowKit Go.Proofs.YtencdmlcmnmhgaaW.PrintWords Go.Proofs.YtencdmlcmnmhgaaW.PrintLast Go.Proofs.YtencdmlcmnmhgaaW.PrintMore Go.Proofs.Ytencdmlcmnmhgaa.Lib

theorem drawM_l0 {l : List Int} : ∀ (m : Nat) (x y : List Int) (a s : Int), Src l a s → x.length + m ≤ 1000 → y.length + m ≤ 1000 →
    ∃ p q a' s', Src l a' s' ∧ p.length ≤ 1001 ∧ q.length ≤ 1001 ∧ Ev (fun k => spec_l13DrawMatch.l0 k x y (m : Int) l a s) (p, q, a', s') := by
  intro m
  induction m with
  | zero =>
    intro x y a s hS hx hy
    obtain ⟨v1, a1, s1, e1, S1, p1, _, q1⟩ := next_src hS 20
    obtain ⟨v2, a2, s2, e2, S2, p2, _, q2⟩ := next_src S1 2
    have hq2 := q2 (by omega)
    by_cases c0 : v1 = 0
    · exact ⟨x ++ [0], y, a1, s1, S1, by simp; omega, by omega, (Ev.step (fun k => by simp only [spec_l13DrawMatch.l0]; rw [if_neg (by omega), e1]; rfl) (ev_pure rfl (ev_if_pos c0 (ev_if_pos (by omega) (Ev.now _)))))⟩
    · by_cases c1 : v1 = 1
      · by_cases cy : (y.length : Int) > 0
        · exact ⟨x, y.set 0 (rd [100000, (-100001)] v2), a2, s2, S2, by omega, by simp; omega, (Ev.step (fun k => by simp only [spec_l13DrawMatch.l0]; rw [if_neg (by omega), e1]; rfl) (ev_pure rfl (ev_if_neg c0 (ev_if_pos c1 (ev_if_pos cy (ev_pure rfl (ev_pure e2 (ev_if_pos p2 (ev_if_pos (by simpa using hq2) (ev_if_pos (by omega) (Ev.now _)))))))))))⟩
        · exact ⟨x, y, a1, s1, S1, by omega, by omega, (Ev.step (fun k => by simp only [spec_l13DrawMatch.l0]; rw [if_neg (by omega), e1]; rfl) (ev_pure rfl (ev_if_neg c0 (ev_if_pos c1 (ev_if_neg cy (Ev.now _))))))⟩
      · by_cases c2 : v1 = 2
        · have e3 : wrap64 (100 + v2) = 100 + v2 := w64 (by omega) (by omega)
          refine ⟨List.replicate (100 + v2).toNat 0, List.replicate (100 + v2).toNat 0, a2, s2, S2, by simp; omega, by simp; omega, (Ev.step (fun k => by simp only [spec_l13DrawMatch.l0]; rw [if_neg (by omega), e1]; rfl) (ev_pure rfl (ev_if_neg c0 (ev_if_neg c1 (ev_if_pos c2 (ev_pure e2 ?_))))))⟩
          rw [e3]
          refine ev_if_pos (by omega) (ev_if_pos (by omega) (ev_pure rfl (ev_if_pos (by omega) (ev_if_pos (by simp; omega) (ev_one ?_)))))
          simp; omega
        · exact ⟨x, y, a1, s1, S1, by omega, by omega, (Ev.step (fun k => by simp only [spec_l13DrawMatch.l0]; rw [if_neg (by omega), e1]; rfl) (ev_pure rfl (ev_if_neg c0 (ev_if_neg c1 (ev_if_neg c2 (Ev.now _))))))⟩
  | succ m ih =>
    intro x y a s hS hx hy
    obtain ⟨v1, a1, s1, e1, S1, _⟩ := next_src hS 201
    obtain ⟨v2, a2, s2, e2, S2, _⟩ := next_src S1 101
    obtain ⟨v3, a3, s3, e3, S3, _⟩ := next_src S2 2
    obtain ⟨p, q, a', s', S', hp, hq, h⟩ := ih (x ++ [wrap64 (10 * (wrap64 (v1 - 100)))]) (y ++ [wrap64 ((wrap64 (10 * (wrap64 (v1 - 100)))) + (wrap64 ((wrap64 (10 * (wrap64 (v2 - 50)))) * v3)))]) a3 s3 S3 (by simp; omega) (by simp; omega)
    refine ⟨p, q, a', s', S', hp, hq, Ev.step (fun k => ?_) h⟩
    simp only [spec_l13DrawMatch.l0]
    rw [if_pos (by omega), e1]
    simp only [Option.bind_some]
    rw [if_pos (by omega), e2]
    simp only [Option.bind_some]
    rw [e3]
    simp only [Option.bind_some]
    rw [if_pos (by omega), w64 (x := ((m + 1 : Nat) : Int) - 1) (by omega) (by omega), show ((m + 1 : Nat) : Int) - 1 = (m : Int) by omega]

theorem drawM {l : List Int} {a s : Int} (hS : Src l a s) : ∃ p q a' s', Src l a' s' ∧ p.length ≤ 1001 ∧ q.length ≤ 1001 ∧ Ev (fun k => spec_l13DrawMatch.f k l a s) (p, q, a', s') := by
  obtain ⟨v1, a1, s1, e1, S1, p1, _, q1⟩ := next_src hS 9
  have hq1 := q1 (by omega)
  obtain ⟨m, rfl⟩ := Int.eq_ofNat_of_zero_le p1
  obtain ⟨p, q, a', s', S', hp, hq, h⟩ := drawM_l0 m [] [] a1 s1 S1 (by simp; omega) (by simp; omega)
  exact ⟨p, q, a', s', S', hp, hq, ev_pure e1 h⟩

end Go.Proofs.Ytencdmlcmnmhgaa.QFnDatum
