/- Sums of fractions do not depend on the order, a sum with a positive fraction is greater, and twice a fraction is its sum with itself: for every code of bytes, no condition. -/
import Derived.Test.YtnkdjddnppajaaaAddFnFractions
import Derived.Test.YtnkdjddnppajaaaTimesIFnFractions
import Derived.Test.YtnkdjddnppajaaaCmpIFnFractions
import Derived.Test.YtnkdjddnppajaaaDrawFnFractions
namespace Go.Proofs.Ytnkdjddnppajaaa.QFnFractions
open Go.RowKit Go.Proofs.YtnkdjddnppajaaaW.PrintWords Go.Proofs.YtnkdjddnppajaaaW.PrintLast Go.Proofs.YtnkdjddnppajaaaW.PrintMore Go.Proofs.Ytnkdjddnppajaaa.Lib

theorem draw_one {l : List Int} {a s : Int} (hS : Src l a s) : ∃ n d a' s', Src l a' s' ∧ Ev (fun k => spec_l14Draw.f k l a s) (n, d, a', s') := by
  obtain ⟨v1, a1, s1, e1, S1, p1, _, q1⟩ := next_src hS 12
  by_cases c0 : v1 = 0
  · obtain ⟨v2, a2, s2, e2, S2, _⟩ := next_src S1 20
    obtain ⟨v3, a3, s3, e3, S3, _⟩ := next_src S2 12
    exact ⟨_, _, a3, s3, S3, ev_pure e1 (ev_if_pos c0 (ev_pure e2 (ev_pure e3 (Ev.now _))))⟩
  · by_cases c1 : v1 = 1
    · obtain ⟨v2, a2, s2, e2, S2, p2, _, q2⟩ := next_src S1 3
      have hq2 := q2 (by omega)
      obtain ⟨v3, a3, s3, e3, S3, _⟩ := next_src S2 3
      exact ⟨_, _, a3, s3, S3, ev_pure e1 (ev_if_neg c0 (ev_if_pos c1 (ev_pure rfl (ev_pure e2 (ev_if_pos p2 (ev_if_pos (by simpa using hq2) (ev_pure e3 (Ev.now _))))))))⟩
    · obtain ⟨v2, a2, s2, e2, S2, p2, _, q2⟩ := next_src S1 400
      have hq2 := q2 (by omega)
      obtain ⟨v3, a3, s3, e3, S3, p3, _, q3⟩ := next_src S2 40
      have hq3 := q3 (by omega)
      refine ⟨(mk (v2 - 200) (1 + v3)).1, (mk (v2 - 200) (1 + v3)).2.1, a3, s3, S3, ev_pure e1 (ev_if_neg c0 (ev_if_neg c1 (ev_pure e2 (ev_pure e3 ?_))))⟩
      rw [w64 (x := v2 - 200) (by omega) (by omega), w64 (x := 1 + v3) (by omega) (by omega)]
      exact Ev.bind (spec_make _ _ (by omega) (by omega) (by omega)) (Ev.now _)

theorem draw_two {l : List Int} (hl : l.length ≤ 140737488351232) (hb : ∀ x ∈ l, (Lit.int .u8 x).wf = true) : ∃ p q u v, Ev (fun k => spec_DrawAddFractions.f k l) (p, q, u, v) := by
  obtain ⟨s, hS, h0⟩ := from_src hl hb
  obtain ⟨p, q, a1, s1, S1, h1⟩ := draw_one hS
  obtain ⟨u, v, a2, s2, S2, h2⟩ := draw_one S1
  exact ⟨p, q, u, v, Ev.bind h0 (Ev.bind h1 (Ev.bind h2 (Ev.now _)))⟩

theorem af_comm (p q u v : Int) (h : isFrac p q = true) (g : isFrac u v = true) : af u v p q = af p q u v := by
  unfold af
  rw [if_pos h, if_pos g, if_pos h, if_pos g, Int.add_comm, Int.mul_comm v q]
theorem af_same (p q u v : Int) : af u v p q = af p q u v := by
  by_cases h : isFrac p q = true
  · by_cases g : isFrac u v = true
    · exact af_comm p q u v h g
    · unfold af; simp [h, g]
  · unfold af; simp [h]
theorem af_code (p q u v : Int) : (af u v p q).2.2 = (af p q u v).2.2 := by rw [af_same]
theorem res_bad {n d : Int} (h : (res n d).2.2 ≠ 0) : res n d = (0, 0, 2) := by
  unfold res at h ⊢
  by_cases c : isFrac (n / gz n d) (d / gz n d) = true
  · rw [if_pos c] at h; exact absurd rfl h
  · rw [if_neg c]
theorem af_bad {p q u v : Int} (h : (af p q u v).2.2 ≠ 0) : (af p q u v).1 = 0 ∧ (af p q u v).2.1 = 0 := by
  unfold af at h ⊢
  by_cases c : isFrac p q = true
  · rw [if_pos c] at h ⊢
    by_cases g : isFrac u v = true
    · rw [if_pos g] at h ⊢
      rw [res_bad h]; exact ⟨rfl, rfl⟩
    · rw [if_neg g]; exact ⟨rfl, rfl⟩
  · rw [if_neg c]; exact ⟨rfl, rfl⟩
theorem af_good {p q u v : Int} (h : (af p q u v).2.2 = 0) : isFrac p q = true ∧ isFrac u v = true ∧ isFrac (af p q u v).1 (af p q u v).2.1 = true ∧
    ∃ g, 0 < g ∧ g * (af p q u v).1 = p * v + u * q ∧ g * (af p q u v).2.1 = q * v := by
  by_cases c : isFrac p q = true
  · by_cases d : isFrac u v = true
    · obtain ⟨a1, _⟩ := (isFrac_iff p q).1 c
      obtain ⟨b1, _⟩ := (isFrac_iff u v).1 d
      have hp := one_le_mul a1 b1
      have e : af p q u v = res (p * v + u * q) (q * v) := by unfold af; rw [if_pos c, if_pos d]
      rw [e] at h ⊢
      unfold res at h ⊢
      by_cases f : isFrac ((p * v + u * q) / gz (p * v + u * q) (q * v)) (q * v / gz (p * v + u * q) (q * v)) = true
      · rw [if_pos f]
        exact ⟨c, d, f, _, gz_pos (by omega), Int.mul_ediv_cancel' (gz_dvd_left _ _), Int.mul_ediv_cancel' (gz_dvd_right _ _)⟩
      · rw [if_neg f] at h; exact absurd h (by decide)
    · unfold af at h; rw [if_pos c, if_neg d] at h; exact absurd h (by decide)
  · unfold af at h; rw [if_neg c] at h; exact absurd h (by decide)

/-- The sign of a whole number. -/
def sgn (u : Int) : Int := if u < 0 then -1 else if u > 0 then 1 else 0

theorem order_sign {p q u v x y g : Int} (hq : 1 ≤ q) (hg : 0 < g) (h1 : g * x = p * v + u * q) (h2 : g * y = q * v) : cmp3 (x * q) (p * y) = sgn u := by
  have e : g * (x * q - p * y) = u * (q * q) := by
    have k1 : g * (x * q) = (p * v + u * q) * q := by rw [← h1, Int.mul_assoc]
    have k2 : g * (p * y) = p * (q * v) := by rw [← h2, Int.mul_left_comm]
    rw [Int.mul_sub, k1, k2, Int.add_mul, Int.mul_assoc p v q, Int.mul_comm v q, Int.mul_assoc u q q]
    omega
  have hqq : 0 < q * q := Int.mul_pos (by omega) (by omega)
  unfold cmp3 sgn
  by_cases c1 : u < 0
  · have : u * (q * q) < 0 := Int.mul_neg_of_neg_of_pos c1 hqq
    have : x * q - p * y < 0 := by
      by_cases z : x * q - p * y < 0
      · exact z
      · have : 0 ≤ g * (x * q - p * y) := Int.mul_nonneg (by omega) (by omega)
        omega
    rw [if_pos c1, if_pos (by omega)]
  · by_cases c2 : u > 0
    · have : 0 < u * (q * q) := Int.mul_pos c2 hqq
      have : 0 < x * q - p * y := by
        by_cases z : 0 < x * q - p * y
        · exact z
        · have : g * (x * q - p * y) ≤ 0 := Int.mul_nonpos_of_nonneg_of_nonpos (by omega) (by omega)
          omega
      rw [if_neg c1, if_pos c2, if_neg (by omega), if_pos (by omega)]
    · obtain rfl : u = 0 := by omega
      rw [Int.zero_mul] at e
      have : x * q - p * y = 0 := by
        rcases Int.mul_eq_zero.1 e with z | z
        · omega
        · exact z
      rw [if_neg c1, if_neg c2, if_neg (by omega), if_neg (by omega)]

theorem twice {p q : Int} (h : isFrac p q = true) : tf 2 p q = af p q p q := by
  obtain ⟨a1, _⟩ := (isFrac_iff p q).1 h
  unfold tf af
  rw [if_pos h, if_pos (by omega), if_pos h, if_pos h, ← res_scale q (2 * p) q (by omega)]
  congr 1
  rw [Int.mul_left_comm, Int.mul_comm q p]; omega

end Go.Proofs.Ytnkdjddnppajaaa.QFnFractions
namespace Go.Proofs.Ytnkdjddnppajaaa.Pure
open Go.RowKit Go.Proofs.Ytnkdjddnppajaaa.QFnFractions Go.Proofs.YtnkdjddnppajaaaW.PrintWords Go.Proofs.YtnkdjddnppajaaaW.PrintLast Go.Proofs.Ytnkdjddnppajaaa.Lib

theorem FnFractions : laws_FnFractions.Pure := by
  intro l _ hl hb
  obtain ⟨p, q, u, v, hd⟩ := draw_two (l := l) (by omega) hb
  by_cases big : (l.length : Int) > 4096
  · exact ev_true (ev_pure (a := true) (by simp [laws_big.f]; omega) (ev_if_pos rfl (Ev.now _)))
  · refine ev_true (ev_pure (a := false) (by simp [laws_big.f]; omega) (ev_if_neg (by simp) ?_))
    refine Ev.bind hd (Ev.bind (impl_add p q u v) (Ev.bind (impl_add u v p q) (Ev.bind (spec_add p q u v) (ev_if_pos rfl (ev_if_pos (af_code p q u v) ?_)))))
    rw [af_same p q u v]
    have e0 : (!((af p q u v).1 == (af p q u v).1) || (!((af p q u v).2.1 == (af p q u v).2.1))) = false := by simp
    rw [e0]
    refine Ev.step (fun k => by simp only [laws_FnFractions.j0]; rw [if_neg (by simp)]) ?_
    by_cases c : (af p q u v).2.2 = 0
    · obtain ⟨g1, g2, g3, g, hg, k1, k2⟩ := af_good c
      obtain ⟨a1, _⟩ := (isFrac_iff p q).1 g1
      refine ev_if_pos c (Ev.bind (impl_cmp _ _ p q) ?_)
      have ecf : cf (af p q u v).1 (af p q u v).2.1 p q = (sgn u, 0) := by
        unfold cf; rw [if_pos g3, if_pos g1, order_sign a1 hg k1 k2]
      rw [ecf]
      have tail : ∀ s : Int, (u < 0 → True) → (¬ u < 0 → s = sgn u) → Ev (fun k => laws_FnFractions.j1 k (sgn u) 0 s p q u v (af p q u v).1 (af p q u v).2.1) true := by
        intro s _ hs
        have fin : ∀ t : Int, t = sgn u → Ev (fun k => (impl_TimesFraction.f k 2 p q).bind fun bt => ((impl_AddFractions.f k p q p q).bind fun b2 => (if (0 : Int) = 0 then (if sgn u = t then (if bt.2.2 = b2.2.2 then (if (bt.1 == b2.1 && (bt.2.1 == b2.2.1)) = true then ((impl_IsFraction.f k (af p q u v).1 (af p q u v).2.1).bind fun t239 => (some t239)) else (some false)) else (some false)) else (some false)) else (some false)))) true := by
          intro t ht
          refine Ev.bind (impl_times 2 p q) (Ev.bind (impl_add p q p q) (ev_if_pos rfl (ev_if_pos ht.symm ?_)))
          rw [twice g1]
          refine ev_if_pos rfl (ev_if_pos (by simp) (Ev.bind (impl_isFrac _ _) ?_))
          rw [g3]; exact Ev.now _
        by_cases d : u < 0
        · exact Ev.step (fun k => by simp only [laws_FnFractions.j1]; rw [if_pos d]) (fin (-1) (by unfold sgn; rw [if_pos d]))
        · exact Ev.step (fun k => by simp only [laws_FnFractions.j1]; rw [if_neg d]) (fin s (hs d))
      by_cases d : u > 0
      · exact ev_if_pos d (tail 1 (fun _ => trivial) (fun e => by unfold sgn; rw [if_neg e, if_pos d]))
      · exact ev_if_neg d (tail 0 (fun _ => trivial) (fun e => by unfold sgn; rw [if_neg e, if_neg d]))
    · obtain ⟨b1, b2⟩ := af_bad c
      refine ev_if_neg c (ev_one ?_)
      rw [b1, b2]; rfl

end Go.Proofs.Ytnkdjddnppajaaa.Pure
