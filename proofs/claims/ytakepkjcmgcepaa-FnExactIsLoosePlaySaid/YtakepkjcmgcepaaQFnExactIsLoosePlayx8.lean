/- The functions that the law FnExactIsLoosePlay reaches, as plain functions, and the walks that show that the machine's calls answer so. Written by a program of this session (wip/myprint.py) on the kit's print. -/
import Derived.Test.YtakepkjcmgcepaaQFnExactIsLoosePlayx0
namespace Go.Proofs.Ytakepkjcmgcepaa.QFnExactIsLoosePlay
open Go.RowKit Go.Proofs.YtakepkjcmgcepaaW.PrintWords Go.Proofs.YtakepkjcmgcepaaW.PrintLast Go.Proofs.YtakepkjcmgcepaaW.PrintMore
attribute [local go_sem] max2_int min2_int max_two min_two max_three min_three max_four min_four   -- for this text's walks alone
set_option linter.unusedVariables false
set_option linter.unusedSimpArgs false

/-! ### slices_Clone_int64_int64_115: function 115 -/
def slices_Clone_int64_int64_115.f (l0 : List Int) : Option (List Int) := if l0.length < 17592186044416 then some l0 else none
set_option maxHeartbeats 2000000 in
set_option maxRecDepth 100000 in
theorem slices_Clone_int64_int64_115.calls (A0 : Option Addr) (c0 : Nat) (l0 : List Int) (r : List Int) (w : World) (hr0 : Kd.C (Kd.int .i64) w A0 l0.length l0) (hc0 : l0.length ≤ c0) (h : slices_Clone_int64_int64_115.f l0 = some r) :
  Calls Try.prog 115 #[.slice A0 l0.length c0] w fun e w' => ∃ v0_ : Value, e = .returned (v0_) ∧ Kd.R (Kd.int .i64) 2 w' w.heap.size (fun _ => True) v0_ r ∧ Below w.heap.size w w' := by
 have q : ∀ (w : World) (a : Option Addr) (n c : Nat), (binOp .eql 22 (.slice a n c) (.slice none 0 0)).run Try.prog w = .ok (.bool a.isNone) w := fun w a n c => _root_.Go.run_eql_slice_nil w _ _ a n c Try.underlying22
 unfold slices_Clone_int64_int64_115.f at h
 by_cases hl : l0.length < 17592186044416
 ·rw [if_pos hl] at h
  obtain rfl := Option.some.inj h
  clear h
  have HR := Aside0.mk hr0
  clear hr0
  cases A0 with
  | none =>
   have e0 : l0 = [] := by
    cases l0 with
    | nil => rfl
    | cons x xs => obtain ⟨ad, e, _⟩ := HR.out.2.2 (by simp); cases e
   subst e0
   go_enter Try.func115, Try.ntmps115
   go_wp2
   go_ret
   exact ⟨_, rfl, Kd.R_nil _ _ _ _ _, Below.refl _ _⟩
  | some ad =>
   have HL := Aside0.mk hl
   clear hl
   go_enter Try.func115, Try.ntmps115
   go_wp2_with (first | ((with_reducible refine gate_dst (N := 5) rfl ?_); refine Kd.R_lit (Kd.int .i64) w.heap.size 2 ?hg (N := 5) ?hd (xs := ([] : List Int)) (inner := []) (ok := fun _ => True) (okp := fun _ => True) ?hr ?hp (fun _ hk => hk) trivial (Below.refl _ _) (Nat.le_refl _) (by simp) ?_; (case hd => rfl); (case hg => rfl); (case hr => first | (go_simp; done) | (go_simp; rfl)); (case hp => exact (Reps.none _ _)); intro v1 w1 ho hb hgr hnew; have HO := Aside0.mk ho; have HB := Aside0.mk hb; clear ho hb hgr hnew) | (at_builtin; refine Kd.R_append_row (Value.int .i64) (0 : Int) (w0 := w) w.heap.size rfl _ _ 22 2 (.int .i64 0) 8 rfl Try.underlying22 info2 rfl (by decide) _ [] l0 (some ad) l0.length c0 (fun _ => True) rfl rfl (fun _ _ => trivial) HO.out (Kd.C_below HR.out HB.out) HB.out HB.out.size (by have := HL.out; simp; omega) ?_; intro v2 w2 ho2 hb2 hg2 hn2; have HO2 := Aside0.mk ho2; have HB2 := Aside0.mk hb2; clear ho2 hb2 hg2 hn2))
   go_ret
   exact ⟨_, rfl, HO2.out, HB2.out⟩
 ·rw [if_neg hl] at h
  cases h

/-! ### impl_without: function 145 -/
/-- The closure: is it that card? -/
theorem impl_without.clo (gb : Nat) (card c : Int) (W : World) (hc : W.cell? ⟨gb, 0, none⟩ = some (.int .i64 card)) : Calls Try.prog 157 #[.int .i64 c, .pointer (some ⟨gb, 0, none⟩)] W fun e w' => e = .returned (.bool (c == card)) ∧ ∃ q, w' = W.drewN q := by
 go_enter Try.func157, Try.ntmps157
 go_wp2
 go_ret
 exact ⟨rfl, 0, rfl⟩
theorem impl_without.ix_nil (g : Nat) (lb : Array Value) (w : World) : Calls Try.prog 162 #[.slice none 0 0, .func (.func g) #[] lb] w fun e w' => e = .returned (.int .i64 (-1)) ∧ ∃ q, w' = w.drewN q := by
 go_enter Try.func162, Try.ntmps162
 go_wp2
 go_loopg [5, 8] 0 (fun _ _ s8 wr => s8 = .int .i64 0 ∧ wr = w)
 case atStart => exact ⟨rfl, rfl⟩
 case round =>
  obtain ⟨rfl, rfl⟩ := hrel
  go_wp2
  go_ret
  exact ⟨rfl, 0, rfl⟩
theorem impl_without.del_nil (g : Nat) (lb : Array Value) (w : World) : Calls Try.prog 156 #[.slice none 0 0, .func (.func g) #[] lb] w fun e w' => e = .returned (.slice none 0 0) ∧ ∃ q, w' = w.drewN q := by
 go_enter Try.func156, Try.ntmps156
 go_wp2_with (go_at_call 162; refine (impl_without.ix_nil g lb _).mono ?_; rintro e w' ⟨rfl, q, rfl⟩)
 go_ret
 exact ⟨rfl, _, rfl⟩
theorem impl_without.one : OneCell (Value.int .i64) := by
 intro x; rfl
/-- DeleteFunc over a row of the call's own. -/
theorem impl_without.del (g : Nat) (lb : Array Value) (p : Int → Bool) (eg : ∀ args w, (callFunc g args).run Try.prog w = .ok (.enter g args) w) {base : Nat} {ok : Nat → Prop} {v : Value} {l : List Int} {w : World} (ho0 : Kd.R (Kd.int .i64) 2 w base ok v l) (hlen : l.length ≤ 9223372036854775807)
  (hp : ∀ (W : World) (x : Int), (∀ k, k < w.heap.size → some k ≠ v.ownBlock → W.heap[k]? = w.heap[k]?) → FnGives Try.prog g lb #[.int .i64 x] (.bool (p x)) W) :
  Calls Try.prog 156 #[v, .func (.func g) #[] lb] w fun e w' => ∃ v' : Value, e = .returned v' ∧ Kd.R (Kd.int .i64) 2 w' base ok v' (l.filter fun x => !p x) ∧ w.grownBy w' v.ownBlock := by
 have ho := Kd.own_of_R ho0
 rcases ho.2 with ⟨rfl, h0⟩ | ⟨gr, cap, cur, rfl, hbase, hheap, hn, hcap, hsz, htake⟩
 ·have e0 : l = [] := List.eq_nil_of_length_eq_zero h0
  subst e0
  refine (impl_without.del_nil g lb w).mono ?_
  rintro e w' ⟨rfl, q, rfl⟩
  exact ⟨_, rfl, Kd.R_drewN (Kd.R_nil _ _ _ _ _) q, grown_of_below (pw_below_drewN (Below.refl _ _) q) none⟩
 ·have hg : gr < w.heap.size := (Array.getElem?_eq_some_iff.1 hheap).1
  have hH := holds_of_blockI (ss := l) hheap (by simpa [encs] using htake)
  have hok := ho0.1
  have hne : ∀ k, k ≠ gr → some k ≠ (Value.slice (some ⟨gr, 0, none⟩) l.length cap).ownBlock := fun k hk e => hk (by simpa [Value.ownBlock] using e)
  have hpo : PredOver Try.prog g lb (Value.int .i64) p gr 0 l.toArray.size w := fun n os dk x _ => hp _ x (fun k hk hnk => (grownBy_sortedI (w := w) (g := gr) (n := n) (os := os) dk).block k hk (fun e => hnk (by cases e; rfl)))
  have hpa : PredAt Try.prog g lb (Value.int .i64) p w := fun W x hb => hp W x (fun k hk _ => hb.block k hk)
  refine (AnyE.slices_DeleteFunc Try.delLays (Value.int .i64) impl_without.one p g lb eg 0 (fun w => Try.zeroValue2 w) gr 0 cap l.toArray w hpa hpo hH (by simpa using hlen) (by simpa using hn)).mono ?_
  rintro e w' ⟨rfl, q, rfl⟩
  have hfl : (l.filter fun x => !p x).length ≤ l.length := List.length_filter_le _ _
  have hgr := grownBy_sortedI (w := w) (g := gr) (n := q) (os := #[]) ((l.filter fun x => !p x) ++ List.replicate (l.length - (l.filter fun x => !p x).length) 0).toArray
  have hs := ownsRow_sortedI (n := q) (os := #[]) (ss := l) (ts := (l.filter fun x => !p x) ++ List.replicate (l.length - (l.filter fun x => !p x).length) 0) (by simp; omega) hbase hheap hn hcap hsz
  rw [Go.Sort.grow_empty] at hgr hs
  have ht := own_take hs hfl
  rw [Nat.mul_one, List.map_append, List.take_append_of_le_length (by simp), List.take_of_length_le (by simp)] at ht
  refine ⟨_, rfl, Kd.R_of_own ht (fun k hk => hok k (by simpa [Value.ownBlock] using hk)), ?_⟩
  simpa [Value.ownBlock] using hgr
theorem impl_without.pred {w w1 W : World} {a1 : Int} {v : Value} (hb : Below (w.alloc (.cells #[.int .i64 a1] 2)).heap.size (w.alloc (.cells #[.int .i64 a1] 2)) w1) (hv : ∀ k, v.ownBlock = some k → (w.alloc (.cells #[.int .i64 a1] 2)).heap.size ≤ k)
  (hW : ∀ k, k < w1.heap.size → some k ≠ v.ownBlock → W.heap[k]? = w1.heap[k]?) : W.cell? ⟨w.heap.size, 0, none⟩ = some (.int .i64 a1) := by
 have h1 := blk_new w (.cells #[.int .i64 a1] 2)
 have h2 := blk_below h1 hb
 have h3 := (hW w.heap.size (blk_lt h2) (fun e => by have := hv _ e.symm; have := blk_lt h1; omega)).trans h2
 exact (blk_cell h3 0).trans rfl
def impl_without.f (l0 : List Int) (a1 : Int) : Option (List Int) := if l0.length < 17592186044416 then some (l0.filter fun x => !(x == a1)) else none
set_option maxHeartbeats 2000000 in
set_option maxRecDepth 100000 in
theorem impl_without.calls (A0 : Option Addr) (c0 : Nat) (l0 : List Int) (a1 : Int) (r : List Int) (w : World) (hr0 : Kd.C (Kd.int .i64) w A0 l0.length l0) (hc0 : l0.length ≤ c0) (h : impl_without.f l0 a1 = some r) :
  Calls Try.prog 145 #[.slice A0 l0.length c0, .int .i64 a1] w fun e w' => ∃ v0_ : Value, e = .returned (v0_) ∧ Kd.R (Kd.int .i64) 2 w' w.heap.size (fun _ => True) v0_ r ∧ Below w.heap.size w w' := by
 have eg := enters_of Try.func157 (by kernel_rfl) rfl
 unfold impl_without.f at h
 by_cases hl : l0.length < 17592186044416
 ·rw [if_pos hl] at h
  obtain rfl := Option.some.inj h
  clear h
  have HR := Aside0.mk hr0
  have HC := Aside0.mk hc0
  have HL := Aside0.mk hl
  have EG := Aside0.mk eg
  clear hr0 hc0 hl eg
  go_enter Try.func145, Try.ntmps145
  go_wp2_with (first | (go_at_call 115; refine (slices_Clone_int64_int64_115.calls A0 c0 l0 l0 _ (Kd.C_alloc HR.out _) HC.out (by unfold slices_Clone_int64_int64_115.f; rw [if_pos HL.out])).mono ?_; rintro e w1 ⟨v, rfl, ho, hb⟩; have HO := Aside0.mk ho; have HB := Aside0.mk hb; clear ho hb) | (go_at_call 156; refine (impl_without.del 157 #[.pointer (some ⟨w.heap.size, 0, none⟩)] (fun x => x == a1) EG.out HO.out (by have := HL.out; omega) (fun W x hW => by unfold FnGives; exact impl_without.clo w.heap.size a1 x W (impl_without.pred HB.out (fun k hk => Kd.R_base HO.out k hk) hW))).mono ?_; rintro e w2 ⟨v2, rfl, ho2, hg2⟩; have HO2 := Aside0.mk (Kd.R_lower ho2 (by simp) : Kd.R (Kd.int .i64) 2 w2 w.heap.size _ _ _); have HB2 := Aside0.mk (below_step (below_alloc (Below.refl _ _) _) (HB.out.grown hg2 HB.out.size (fun k hk => Kd.R_base HO.out k hk)) : Below w.heap.size w w2); clear ho2 hg2))
  go_ret
  exact ⟨_, rfl, HO2.out, HB2.out⟩
 ·rw [if_neg hl] at h
  cases h

end Go.Proofs.Ytakepkjcmgcepaa.QFnExactIsLoosePlay
