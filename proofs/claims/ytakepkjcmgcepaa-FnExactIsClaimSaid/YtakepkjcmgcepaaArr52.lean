/- An array of 52 truth values in its block: made, read and written. -/
import Derived.Test.YtakepkjcmgcepaaWMore
import Derived.Deep.WholeRow
namespace Go.Proofs.YtakepkjcmgcepaaW.PrintMore
open Go.RowKit Go.Proofs.YtakepkjcmgcepaaW.PrintWords Go.Proofs.YtakepkjcmgcepaaW.PrintLast
/-- 52 times false. -/
def zeros52 : Array Value := Array.replicate 52 (.bool false)
theorem zeros52_size : zeros52.size = 52 := by simp [zeros52]
theorem zeros52_one : zeros52.all (·.oneCell') = true := by
  rw [Array.all_eq_true_iff_forall_mem]
  intro x hx
  simp only [zeros52, Array.mem_replicate] at hx
  obtain ⟨_, rfl⟩ := hx
  rfl
/-- The array of what was seen, in its block. -/
def Seen (w : World) (g t : Nat) (seen : List Int) : Prop := ∃ cs : Array Value, w.heap[g]? = some (.cells cs t (0, 0)) ∧ cs.size = 52 ∧ ∀ i : Nat, i < 52 → cs[i]? = some (.bool (seen.contains (i : Int)))
theorem Seen.zero {w : World} {g t : Nat} (h : w.heap[g]? = some (.cells zeros52 t (0, 0))) : Seen w g t [] :=
  ⟨_, h, zeros52_size, fun i hi => by simp [zeros52, hi]⟩
theorem Seen.cell {w : World} {g t : Nat} {s : List Int} (h : Seen w g t s) {c : Int} (h0 : 0 ≤ c) (h1 : c ≤ 51) : w.cell? ⟨g, c.toNat, none⟩ = some (.bool (s.contains c)) := by
  obtain ⟨cs, hg, hs, hc⟩ := h
  rw [blk_cell hg, hc c.toNat (by omega), Int.toNat_of_nonneg h0]
theorem Seen.free {w : World} {g t : Nat} {s : List Int} (h : Seen w g t s) (j : Nat) : w.frozen? ⟨g, j, none⟩ = false := by
  obtain ⟨cs, hg, _⟩ := h
  exact blk_frozen hg j
theorem Seen.below {w w1 : World} {g t : Nat} {s : List Int} (h : Seen w g t s) (hb : Below w.heap.size w w1) : Seen w1 g t s := by
  obtain ⟨cs, hg, hs, hc⟩ := h
  exact ⟨cs, blk_below hg hb, hs, hc⟩
theorem Seen.drewN {w : World} {g t : Nat} {s : List Int} (h : Seen w g t s) (n : Nat) : Seen (w.drewN n) g t s := h
theorem Seen.alloc {w : World} {g t : Nat} {s : List Int} (h : Seen w g t s) (o : Obj) : Seen (w.alloc o) g t s := by
  obtain ⟨cs, hg, hs, hc⟩ := h
  exact ⟨cs, blk_alloc hg o, hs, hc⟩
theorem Seen.far {w : World} {g t : Nat} {s : List Int} (h : Seen w g t s) {p : Addr} (hne : g ≠ p.block) (u : Value) : Seen (w.setCell p u) g t s := by
  obtain ⟨cs, hg, hs, hc⟩ := h
  exact ⟨cs, blk_far hg hne u, hs, hc⟩
theorem Seen.lt {w : World} {g t : Nat} {s : List Int} (h : Seen w g t s) : g < w.heap.size := by
  obtain ⟨cs, hg, _⟩ := h
  exact blk_lt hg
theorem Seen.put {w : World} {g t : Nat} {s : List Int} (h : Seen w g t s) {c : Int} (h0 : 0 ≤ c) (h1 : c ≤ 51) : Seen (w.setCell ⟨g, c.toNat, none⟩ (.bool true)) g t (c :: s) := by
  obtain ⟨cs, hg, hs, hc⟩ := h
  refine ⟨_, by simpa using blk_set hg c.toNat (.bool true), by simpa using hs, fun i hi => ?_⟩
  simp only [Array.getElem?_setIfInBounds]
  by_cases e : c.toNat = i
  · subst e
    rw [if_pos rfl, if_pos (by omega)]
    simp [Int.toNat_of_nonneg h0]
  · rw [if_neg e, hc i hi]
    have : ((i : Int) == c) = false := by simp; omega
    rw [List.contains_cons, this, Bool.false_or]
section
variable {P : Program} {ops : Array Oper} {rest : List Oper} {o : Oper} {a : Act} {Q : Exit → Act → World → Prop}
/-- A whole array is stored into the block of its own. -/
theorem store_row_event {w0 W : World} (hgd : o.guard = none) (ty : TypeId) (x y : Operand) (ho : o.op = .store ty x y) (hN : o.dst = none) (g t : Nat) (old cells : Array Value)
    (hx : a.eval x = .pointer (some ⟨g, 0, none⟩)) (hy : a.eval y = .agg cells) (hg : W.heap[g]? = some (.cells old t (0, 0))) (hi : (P.info? ty).map (·.size) = some cells.size)
    (hold : old.size = cells.size) (h1 : cells.all (·.oneCell') = true) (hB : Below w0.heap.size w0 W) (hge : w0.heap.size ≤ g)
    (h : ∀ w1, w1.heap[g]? = some (.cells cells t (0, 0)) → Below w0.heap.size w0 w1 → (∀ k, k ≠ g → w1.heap[k]? = W.heap[k]?) → W.heap.size = w1.heap.size → wpList P ops Q rest a w1) : wpList P ops Q (o :: rest) a W := by
  refine wpList_plain hgd fun K hK => wp_store_row ty x y ho g cells hx hy t old hg hi hold h1 ?_
  have e : a.put o.dst undef = a := by rw [hN]; rfl
  rw [e]
  have far : ∀ k, k ≠ g → (W.setRow g cells).heap[k]? = W.heap[k]? := by
    intro k hk
    simp only [World.setRow]
    rw [Array.getElem?_modify, if_neg (fun e => hk e.symm)]
  refine hK _ _ (h _ ?_ ⟨hB.os, hB.tape, hB.output, ?_, fun i hi => ?_⟩ far ?_)
  · simp only [World.setRow]
    rw [Array.getElem?_modify, if_pos rfl, hg]; rfl
  · have := hB.size; simpa [World.setRow] using this
  · rw [far i (by omega)]; exact hB.block i hi
  · simp [World.setRow]
end
end Go.Proofs.YtakepkjcmgcepaaW.PrintMore
