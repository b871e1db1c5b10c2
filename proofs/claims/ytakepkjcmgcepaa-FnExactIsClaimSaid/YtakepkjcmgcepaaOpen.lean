/- How an argument that is read as data stands in memory, in the words of the print: one lemma for each kind of type. -/
import Derived.Test.YtakepkjcmgcepaaWMore
import Derived.Deep.Slices
import Derived.Lib.SmallJoins
import Derived.ChangeSame
namespace Go.Proofs.Ytakepkjcmgcepaa.Open
open Go.ChangeShapes Go.WideShapes Go.ChangeAt Go.RowKit Go.Deep Go.Joins
open Go.Proofs.YtakepkjcmgcepaaW.PrintWords Go.Proofs.YtakepkjcmgcepaaW.PrintLast Go.Proofs.YtakepkjcmgcepaaW.PrintMore
set_option linter.unusedVariables false

section
variable {H : Type} {enc : TypeId × Value → H} {P : Program} {w : World}

/-- Whatever reads at type t is of kind d, and B holds of it. -/
def Opens {α : Type} (enc : TypeId × Value → H) (P : Program) (w : World) (t : TypeId) (d : Kd α) (B : α → Prop) : Prop :=
  ∀ (fuel : Nat) (cs : List Value) (y : DataW H × List MemPlace), DataW.trod enc P w 0 (fun _ => true) true fuel t cs = some y → ∃ x, d.K w x cs ∧ B x

theorem opens_int {t : TypeId} {k : IntKind} (ht : P.underlying t = some (.int k)) : Opens enc P w t (Kd.int k) (fun a => (Lit.int k a).wf = true) := by
  intro fuel cs y h
  obtain ⟨n, rfl, _, hw⟩ := DataW.trod_int ht h
  exact ⟨n, rfl, hw⟩

theorem opens_bool {t : TypeId} (ht : P.underlying t = some .bool) : Opens enc P w t Kd.bool (fun _ => True) := by
  intro fuel cs y h
  obtain ⟨n, rfl, _⟩ := DataW.trod_bool ht h
  exact ⟨n, rfl, trivial⟩

theorem choose_fin {α : Type} {n : Nat} {Q : Nat → α → Prop} (h : ∀ i, i < n → ∃ x, Q i x) : ∃ l : List α, l.length = n ∧ ∀ i x, l[i]? = some x → Q i x := by
  induction n with
  | zero => exact ⟨[], rfl, fun i x hx => by simp at hx⟩
  | succ n ih =>
    obtain ⟨l, hl, hq⟩ := ih (fun i hi => h i (by omega))
    obtain ⟨x, hx⟩ := h n (by omega)
    refine ⟨l ++ [x], by simp [hl], fun i y hy => ?_⟩
    by_cases hi : i < n
    · rw [List.getElem?_append_left (by omega)] at hy
      exact hq i y hy
    · by_cases hi' : i = n
      · subst hi'
        rw [List.getElem?_append_right (by omega), hl, Nat.sub_self] at hy
        simp at hy
        subst hy
        exact hx
      · rw [List.getElem?_eq_none (by simp; omega)] at hy
        cases hy

/-- What a slice reads as: its elements are of their kind. -/
def SliceB {α : Type} (B : α → Prop) (l : List α) : Prop := l.length ≤ maxLen ∧ ∀ x ∈ l, B x

theorem opens_slice {α : Type} {t e : TypeId} {d : Kd α} {B : α → Prop} (ht : P.underlying t = some (.slice e)) (hc : P.cellsOf e = d.sz) (hs : 0 < d.sz) (he : Opens enc P w e d B) :
    Opens enc P w t (Kd.slice e d) (SliceB B) := by
  intro fuel cs y h
  rcases open_slice ht h with ⟨rfl, _⟩ | ⟨a, len, cap, m, n, D, Pl, rfl, _, hl, hm, hmm, _, hx⟩
  · exact ⟨[], ⟨none, 0, rfl, Nat.le_refl _, rfl, by simp, fun h0 => absurd h0 (by simp)⟩, Nat.zero_le _, fun x hx => by simp at hx⟩
  · simp only [if_true] at hmm
    obtain ⟨l, hlen, hq⟩ := choose_fin (n := len) (Q := fun i x => ∃ c, c.length = d.sz ∧ d.K w x c ∧ (∀ j u, c[j]? = some u → w.cell? (a.add (i * d.sz + j)) = some u) ∧ B x) (by
      intro i hi
      obtain ⟨cs', h1, h2⟩ := hx i (by omega)
      obtain ⟨x, hK, hB⟩ := he _ _ _ h2
      refine ⟨x, cs', d.K_len hK, hK, fun j u hj => ?_, hB⟩
      rw [hc] at h1
      obtain ⟨_, h3, h4⟩ := World.cells?_some h1
      have hjn : j < d.sz := by
        have := (List.getElem?_eq_some_iff.1 hj).1
        omega
      rw [← Deep.add_add, h4 j hjn, hj])
    refine ⟨l, ⟨some a, cap, by rw [hlen], by omega, ?_⟩, ?_, ?_⟩
    · refine ⟨rfl, ?_, fun _ => ⟨a, rfl, fun j p hp => ?_⟩⟩
      · unfold maxLen at hm; omega
      · obtain ⟨c, h1, h2, h3, _⟩ := hq j p hp
        exact ⟨c, h1, h2, h3⟩
    · omega
    · intro x hx
      obtain ⟨i, hi⟩ := List.mem_iff_getElem?.1 hx
      exact (hq i x hi).choose_spec.2.2.2

/-- A struct of one, of two, of three fields, as an element of a row. -/
theorem opens_one {α γ : Type} {t : TypeId} {f0 : Field} {d0 : Kd α} {B0 : α → Prop} (d : Kd γ) (mk : α → γ) (B : γ → Prop) (ht : P.underlying t = some (.struct #[f0])) (o0 : f0.offset = 0) (s0 : P.cellsOf f0.type = d0.sz) (hC : P.cellsOf t = d0.sz)
    (h0 : Opens enc P w f0.type d0 B0) (hd : ∀ x c0, d0.K w x c0 → d.K w (mk x) c0) (hB : ∀ x, B0 x → B (mk x)) : Opens enc P w t d B := by
  intro fuel cs y h
  obtain ⟨y0, n, _, hl, k0⟩ := trod_struct1 ht h
  obtain ⟨x, hx, bx⟩ := h0 _ _ _ k0
  refine ⟨mk x, ?_, hB x bx⟩
  have e : (cs.drop f0.offset).take (P.cellsOf f0.type) = cs := by rw [o0, s0, List.drop_zero, List.take_of_length_le (by omega)]
  rw [e] at hx
  exact hd _ _ hx
theorem opens_two {α β γ : Type} {t : TypeId} {f0 f1 : Field} {d0 : Kd α} {d1 : Kd β} {B0 : α → Prop} {B1 : β → Prop} (d : Kd γ) (mk : α → β → γ) (B : γ → Prop) (ht : P.underlying t = some (.struct #[f0, f1])) (o0 : f0.offset = 0) (s0 : P.cellsOf f0.type = d0.sz) (o1 : f1.offset = d0.sz) (s1 : P.cellsOf f1.type = d1.sz) (hC : P.cellsOf t = d0.sz + d1.sz)
    (h0 : Opens enc P w f0.type d0 B0) (h1 : Opens enc P w f1.type d1 B1) (hd : ∀ x y c0 c1, d0.K w x c0 → d1.K w y c1 → d.K w (mk x y) (c0 ++ c1)) (hB : ∀ x y, B0 x → B1 y → B (mk x y)) : Opens enc P w t d B := by
  intro fuel cs y h
  obtain ⟨y0, y1, n, _, hl, k0, k1⟩ := trod_struct2 ht h
  obtain ⟨x, hx, bx⟩ := h0 _ _ _ k0
  obtain ⟨z, hz, bz⟩ := h1 _ _ _ k1
  refine ⟨mk x z, ?_, hB x z bx bz⟩
  have e : (cs.drop f0.offset).take (P.cellsOf f0.type) ++ (cs.drop f1.offset).take (P.cellsOf f1.type) = cs := by
    rw [o0, s0, o1, s1, List.drop_zero, List.take_of_length_le (l := cs.drop d0.sz) (by rw [List.length_drop]; omega), List.take_append_drop]
  have := hd _ _ _ _ hx hz
  rwa [e] at this
end

section
variable {H : Type} {enc : TypeId × Value → H} {P : Program} {w : World}
/-- A struct of one field, by value. -/
theorem open_agg1 {r : Reach} {b0 : Nat} {t : TypeId} {f0 : Field} {v : Value} {d : DataW H} {p : List MemPlace} (hs : P.underlying t = some (.struct #[f0])) (hone : oneCellFields P #[f0] = true) (hC : P.cellsOf t = 1)
    (hv : Value.okWide P w r b0 t v) (h : DataW.Trod enc P w 0 (fun _ => true) true t v d p) :
    ∃ (v0 : Value) (y0 : DataW H × List MemPlace) (n : Nat), v = .agg #[v0] ∧ d = .agg [y0.1] ∧ p = y0.2 ∧ DataW.trod enc P w 0 (fun _ => true) true n f0.type [v0] = some y0 := by
  obtain ⟨cs, rfl, hsz⟩ := okWide_struct hs hv
  obtain ⟨c0, rfl⟩ : ∃ c0, cs = #[c0] := by
    obtain ⟨l⟩ := cs
    match l, (hsz.trans hC) with
    | [c0], _ => exact ⟨c0, rfl⟩
  obtain ⟨fuel, hf⟩ := h
  obtain ⟨y0, n, hx, _, h0⟩ := trod_struct1 hs hf
  obtain ⟨o0, k0⟩ := hone_of hone 0 f0 rfl
  simp only [Prod.mk.injEq] at hx
  exact ⟨c0, y0, n, rfl, hx.1, hx.2, by simpa [Value.cells, o0, k0] using h0⟩
end
end Go.Proofs.Ytakepkjcmgcepaa.Open
