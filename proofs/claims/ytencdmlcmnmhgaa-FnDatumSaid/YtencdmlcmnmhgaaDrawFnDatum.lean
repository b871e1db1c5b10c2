/- The source of drawn numbers: it is made, and each number that it hands out is in its range. -/
import Derived.Test.YtencdmlcmnmhgaaQFnDatumx
import Derived.Test.YtencdmlcmnmhgaaLib
namespace Go.Proofs.Ytencdmlcmnmhgaa.QFnDatum
open Go.RowKit Go.Proofs.YtencdmlcmnmhgaaW.PrintWords Go.Proofs.YtencdmlcmnmhgaaW.PrintLast Go.Proofs.YtencdmlcmnmhgaaW.PrintMore Go.Proofs.Ytencdmlcmnmhgaa.Lib

/-- A source over this code, in a state that comes up. -/
structure Src (l : List Int) (at_ seed : Int) : Prop where
  len : l.length ≤ 140737488351232
  byte : ∀ x ∈ l, 0 ≤ x ∧ x ≤ 255
  at0 : 0 ≤ at_
  at1 : at_ ≤ (l.length : Int)
  seed0 : 0 ≤ seed
  seed1 : seed < 2147483647

theorem from_l0 (l : List Int) (hb : ∀ x ∈ l, 0 ≤ x ∧ x ≤ 255) : ∀ (m i : Nat) (s : Int), i + m = l.length → 0 ≤ s → s < 2147483647 →
    ∃ s', 0 ≤ s' ∧ s' < 2147483647 ∧ Ev (fun k => spec_l01From.l0 k l (i : Int) l 0 s) (l, 0, s') := by
  intro m
  induction m with
  | zero =>
    intro i s hi h0 h1
    exact ⟨s, h0, h1, Ev.step (fun k => by simp only [spec_l01From.l0]; rw [if_neg (by omega)]) (Ev.now _)⟩
  | succ m ih =>
    intro i s hi h0 h1
    by_cases h64 : (i : Int) < 64
    · have hbr := hb _ (rd_mem (xs := l) (i := (i : Int)) (by omega) (by omega))
      have hn : 0 ≤ s * 41 + rd l i := by omega
      obtain ⟨s', g0, g1, g⟩ := ih (i + 1) (Int.tmod (s * 41 + rd l i) 2147483647) (by omega) (Int.tmod_nonneg _ hn) (Int.tmod_lt_of_pos _ (by omega))
      refine ⟨s', g0, g1, Ev.step (fun k => ?_) g⟩
      simp only [spec_l01From.l0]
      rw [if_pos (by omega), if_pos h64, if_pos (by omega), w64 (x := (i : Int) + 1) (by omega) (by omega), w64 (x := s * 41) (by omega) (by omega), w64 (x := rd l i) (by omega) (by omega), w64 (x := s * 41 + rd l i) (by omega) (by omega)]
      rfl
    · exact ⟨s, h0, h1, Ev.step (fun k => by simp only [spec_l01From.l0]; rw [if_pos (by omega), if_neg h64]) (Ev.now _)⟩

theorem from_src {l : List Int} (hl : l.length ≤ 140737488351232) (hb : ∀ x ∈ l, (Lit.int .u8 x).wf = true) : ∃ s, Src l 0 s ∧ Ev (fun k => spec_l01From.f k l) (l, 0, s) := by
  have hb' : ∀ x ∈ l, 0 ≤ x ∧ x ≤ 255 := fun x hx => wfu8 (hb x hx)
  obtain ⟨s, h0, h1, h⟩ := from_l0 l hb' l.length 0 86421 (by omega) (by omega) (by omega)
  exact ⟨s, ⟨hl, hb', by omega, by omega, h0, h1⟩, h⟩

theorem next_src {l : List Int} {a s : Int} (h : Src l a s) (n : Int) : ∃ v a' s', spec_l01Next.f l a s n = some (v, a', s') ∧ Src l a' s' ∧ 0 ≤ v ∧ (n ≤ 1 → v = 0) ∧ (1 < n → v < n) := by
  obtain ⟨h1, h2, h3, h4, h5, h6⟩ := h
  by_cases c1 : n ≤ 1
  · exact ⟨0, a, s, by simp only [spec_l01Next.f]; rw [if_pos c1], ⟨h1, h2, h3, h4, h5, h6⟩, by omega, fun _ => rfl, fun h => by omega⟩
  · have e1 : wrap64 (s * 48271) = s * 48271 := w64 (by omega) (by omega)
    have e2 : wrap64 (s * 48271 + 13) = s * 48271 + 13 := w64 (by omega) (by omega)
    have t0 : 0 ≤ Int.tmod (s * 48271 + 13) 2147483647 := Int.tmod_nonneg _ (by omega)
    have t1 : Int.tmod (s * 48271 + 13) 2147483647 < 2147483647 := Int.tmod_lt_of_pos _ (by omega)
    generalize hs : Int.tmod (s * 48271 + 13) 2147483647 = s1 at t0 t1
    have d0 : 0 ≤ Int.tdiv s1 13 := Int.tdiv_nonneg t0 (by omega)
    have d1 : Int.tdiv s1 13 ≤ s1 := Int.tdiv_le_self _ t0
    have e3 : wrap64 (Int.tdiv s1 13) = Int.tdiv s1 13 := w64 (by omega) (by omega)
    by_cases c2 : a < (l.length : Int)
    · have hbr := h2 _ (rd_mem (xs := l) (i := a) h3 c2)
      have e4 : wrap64 (a + 1) = a + 1 := w64 (by omega) (by omega)
      have e5 : wrap64 (a + 1 - 1) = a := by rw [w64 (by omega) (by omega)]; omega
      have e6 : wrap64 (rd l a) = rd l a := w64 (by omega) (by omega)
      have e7 : wrap64 (Int.tdiv s1 13 + rd l a) = Int.tdiv s1 13 + rd l a := w64 (by omega) (by omega)
      have hS : Src l (a + 1) s1 := ⟨h1, h2, by omega, by omega, t0, t1⟩
      have A := Int.tmod_nonneg n (show 0 ≤ Int.tdiv s1 13 + rd l a by omega)
      have B := Int.tmod_lt_of_pos (Int.tdiv s1 13 + rd l a) (show 0 < n by omega)
      have A' := Int.tmod_nonneg n hbr.1
      have B' := Int.tmod_lt_of_pos (rd l a) (show 0 < n by omega)
      by_cases c3 : n ≤ 256
      · by_cases c4 : Int.tmod (a + 1) 2 = 0
        · refine ⟨_, _, _, ?_, hS, A', fun h => absurd h c1, fun _ => B'⟩
          simp only [spec_l01Next.f]
          rw [if_neg c1, if_pos c2, if_pos h3, if_pos c3, e4, if_pos c4, e5, if_pos h3, if_pos c2, if_neg (by omega), e1, e2, hs, e6]
        · refine ⟨_, _, _, ?_, hS, A, fun h => absurd h c1, fun _ => B⟩
          simp only [spec_l01Next.f]
          rw [if_neg c1, if_pos c2, if_pos h3, if_pos c3, e4, if_neg c4, if_neg (by omega), e1, e2, hs, e3, e6, e7]
      · refine ⟨_, _, _, ?_, hS, A, fun h => absurd h c1, fun _ => B⟩
        simp only [spec_l01Next.f]
        rw [if_neg c1, if_pos c2, if_pos h3, if_neg c3, e4, if_neg (by omega), e1, e2, hs, e3, e6, e7]
    · have A := Int.tmod_nonneg n d0
      have B := Int.tmod_lt_of_pos (Int.tdiv s1 13) (show 0 < n by omega)
      refine ⟨_, _, _, ?_, ⟨h1, h2, h3, h4, t0, t1⟩, A, fun h => absurd h c1, fun _ => B⟩
      simp only [spec_l01Next.f]
      rw [if_neg c1, if_neg c2, if_neg (by omega), e1, e2, hs, e3]

end Go.Proofs.Ytencdmlcmnmhgaa.QFnDatum
