/- Plain lemmas on Go's whole numbers, lists and rounds, used by the proofs of this seat. -/
import Derived.Test.YtakepkjcmgcepaaWMore
namespace Go.Proofs.Ytakepkjcmgcepaa.Lib
open Go.RowKit Go.Proofs.YtakepkjcmgcepaaW.PrintWords Go.Proofs.YtakepkjcmgcepaaW.PrintLast Go.Proofs.YtakepkjcmgcepaaW.PrintMore

theorem w64 {x : Int} (h1 : -9223372036854775808 ≤ x) (h2 : x ≤ 9223372036854775807) : wrap64 x = x := by
  unfold wrap64; omega

theorem wf64 {a : Int} (h : (Lit.int .i64 a).wf = true) : -9223372036854775808 ≤ a ∧ a ≤ 9223372036854775807 := by
  simp [Lit.wf, IntKind.min, IntKind.max, IntKind.signed, IntKind.bits] at h; omega

theorem wfu8 {a : Int} (h : (Lit.int .u8 a).wf = true) : 0 ≤ a ∧ a ≤ 255 := by
  simp [Lit.wf, IntKind.min, IntKind.max, IntKind.signed, IntKind.bits] at h; omega

theorem rd_lt {xs : List Int} {i : Nat} (h : i < xs.length) : rd xs (i : Int) = xs[i] := by
  simp [rd, List.getD_eq_getElem?_getD, h]

theorem drop_rd {xs : List Int} {i : Nat} (h : i < xs.length) : xs.drop i = rd xs (i : Int) :: xs.drop (i + 1) := by
  rw [rd_lt h]; exact List.drop_eq_getElem_cons h

theorem rd_mem {xs : List Int} {i : Int} (h0 : 0 ≤ i) (h : i < (xs.length : Int)) : rd xs i ∈ xs := by
  obtain ⟨n, rfl⟩ := Int.eq_ofNat_of_zero_le h0
  rw [rd_lt (by omega)]; exact List.getElem_mem _

theorem Ev.some {α : Type} (r : α) : Ev (fun _ => Option.some r) r := Ev.now r

/-- From one number of rounds to its law. -/
theorem ev_true {g : Nat → Option Bool} (h : Ev g true) : ∃ k, g k = Option.some true := h.rounds

theorem ev_one {α : Type} {o : Option α} {r : α} (h : o = Option.some r) : Ev (fun _ => o) r := by
  subst h; exact Ev.now r

/-- A step without rounds. -/
theorem ev_pure {α β : Type} {o : Option α} {f : Nat → α → Option β} {a : α} {r : β} (h : o = Option.some a) (k : Ev (fun n => f n a) r) : Ev (fun n => o.bind (f n)) r := by
  subst h; exact k

theorem ev_if_pos {α : Type} {c : Prop} [Decidable c] {f g : Nat → Option α} {r : α} (hc : c) (h : Ev f r) : Ev (fun n => if c then f n else g n) r :=
  Ev.congr (fun _ => if_pos hc) h

theorem ev_if_neg {α : Type} {c : Prop} [Decidable c] {f g : Nat → Option α} {r : α} (hc : ¬ c) (h : Ev g r) : Ev (fun n => if c then f n else g n) r :=
  Ev.congr (fun _ => if_neg hc) h

/-! ### IMPs -/
def bounds : List Int := [20, 50, 90, 130, 170, 220, 270, 320, 370, 430, 500, 600, 750, 900, 1100, 1300, 1500, 1750, 2000, 2250, 2500, 3000, 3500, 4000]
def one (p : Prop) [Decidable p] : Int := if p then 1 else 0
def impsFrom (d : Int) : List Int → Int → Int
  | [], n => n
  | b :: bs, n => impsFrom d bs (n + one (d ≥ b) - one (d ≤ -b))
/-- The IMPs of a difference. -/
def imps (d : Int) : Int := impsFrom d bounds 0
theorem one_pos {p : Prop} [Decidable p] (h : p) : one p = 1 := if_pos h
theorem one_neg {p : Prop} [Decidable p] (h : ¬ p) : one p = 0 := if_neg h

/-! ### Victory points -/
def rootTo : Nat → Int → Int → Int
  | 0, _, x => x
  | f + 1, n, x => if (x + 1) * (x + 1) ≤ n then rootTo f n (x + 1) else x
def root (n : Int) : Int := rootTo 151 n 0
def vpWin (m r : Int) : Int := 1000 + 1000 * m / (m + r)
def vp (x r : Int) : Int × Int × Int := if x < 0 then (2000 - vpWin (-x) r, vpWin (-x) r, 0) else (vpWin x r, 2000 - vpWin x r, 0)
theorem rootTo_ge : ∀ (f : Nat) (n x : Int), x ≤ rootTo f n x
  | 0, _, _ => Int.le_refl _
  | f + 1, n, x => by
    simp only [rootTo]
    split
    · have := rootTo_ge f n (x + 1); omega
    · omega
theorem rootTo_le : ∀ (f : Nat) (n x : Int), rootTo f n x ≤ x + f
  | 0, _, _ => by simp [rootTo]
  | f + 1, n, x => by
    simp only [rootTo]
    split
    · have := rootTo_le f n (x + 1); omega
    · omega
theorem rootTo_succ (f : Nat) (n x : Int) : rootTo (f + 1) n x = if (x + 1) * (x + 1) ≤ n then rootTo f n (x + 1) else x := rfl
theorem root_pos {n : Int} (h : 1 ≤ n) : 1 ≤ root n := by
  show 1 ≤ rootTo (150 + 1) n 0
  rw [rootTo_succ, if_pos (by omega)]
  exact rootTo_ge _ _ _
theorem root_le (n : Int) : root n ≤ 151 := by
  have := rootTo_le 151 n 0
  unfold root; omega
theorem mul_le_sq {x y : Int} (h0 : 0 ≤ x) (h : x ≤ y) : x * x ≤ y * y := Int.mul_le_mul h h h0 (by omega)
/-- More IMPs never give fewer victory points. -/
theorem vpWin_mono {m m' r : Int} (h0 : 0 ≤ m) (h : m ≤ m') (hr : 1 ≤ r) : vpWin m r ≤ vpWin m' r := by
  unfold vpWin
  have h1 : 0 < m + r := by omega
  have h2 : 0 < m' + r := by omega
  have q1 : 1000 * m / (m + r) * (m + r) ≤ 1000 * m := Int.ediv_mul_le _ (by omega)
  have q2 : 1000 * m / (m + r) ≤ 1000 := by
    refine Int.ediv_le_of_le_mul h1 ?_
    have : 1000 * (m + r) = 1000 * m + 1000 * r := Int.mul_add _ _ _
    omega
  suffices 1000 * m / (m + r) ≤ 1000 * m' / (m' + r) by omega
  refine (Int.le_ediv_iff_mul_le h2).2 ?_
  have e : 1000 * m / (m + r) * (m' + r) = 1000 * m / (m + r) * (m + r) + 1000 * m / (m + r) * (m' - m) := by
    rw [← Int.mul_add]; congr 1; omega
  have f : 1000 * m / (m + r) * (m' - m) ≤ 1000 * (m' - m) := Int.mul_le_mul_of_nonneg_right q2 (by omega)
  omega
theorem vpWin_bd {m r : Int} (h0 : 0 ≤ m) (hr : 1 ≤ r) : 1000 ≤ vpWin m r ∧ vpWin m r ≤ 2000 := by
  unfold vpWin
  have h1 : 0 < m + r := by omega
  have q1 : 0 ≤ 1000 * m / (m + r) := Int.ediv_nonneg (by omega) (by omega)
  have q2 : 1000 * m / (m + r) ≤ 1000 := by
    refine Int.ediv_le_of_le_mul h1 ?_
    have : 1000 * (m + r) = 1000 * m + 1000 * r := Int.mul_add _ _ _
    omega
  omega
theorem vpWin_zero (r : Int) : vpWin 0 r = 1000 := by
  unfold vpWin; simp

/-! ### Fractions -/
/-- The greatest common divisor, as a whole number. -/
def gz (a b : Int) : Int := ((Int.gcd a b : Nat) : Int)
theorem gz_step {a b : Int} : gz b (Int.tmod a b) = gz a b := by
  unfold gz Int.gcd
  rw [Int.natAbs_tmod, Nat.gcd_comm b.natAbs, ← Nat.gcd_rec, Nat.gcd_comm]
theorem gz_nonneg (a b : Int) : 0 ≤ gz a b := Int.natCast_nonneg _
theorem gz_pos {a b : Int} (h : b ≠ 0) : 0 < gz a b := by
  have : 0 < Int.gcd a b := Int.gcd_pos_of_ne_zero_right a h
  unfold gz; omega
theorem gz_dvd_left (a b : Int) : gz a b ∣ a := Int.gcd_dvd_left a b
theorem gz_dvd_right (a b : Int) : gz a b ∣ b := Int.gcd_dvd_right a b
theorem gz_abs_left (a b : Int) : gz (a.natAbs : Int) b = gz a b := by
  unfold gz Int.gcd; simp
theorem gz_neg_left (a b : Int) : gz (-a) b = gz a b := by
  unfold gz Int.gcd; simp
theorem gz_mul_left (c a b : Int) (hc : 0 ≤ c) : gz (c * a) (c * b) = c * gz a b := by
  unfold gz
  rw [Int.gcd_mul_left, Int.natCast_mul, Int.natAbs_of_nonneg hc]
theorem natAbs_tmod_lt {a b : Int} (h : b ≠ 0) : (Int.tmod a b).natAbs < b.natAbs := by
  rw [Int.natAbs_tmod]; exact Nat.mod_lt _ (by omega)
theorem mx_natAbs (x : Int) : mx x (-x) = (x.natAbs : Int) := by unfold mx; split <;> omega
/-- Is it a valid fraction? -/
def isFrac (n d : Int) : Bool := decide (1 ≤ d) && (decide (d ≤ 1000000) && (decide (-1000000 * d ≤ n) && (decide (n ≤ 1000000 * d) && decide (gz n d = 1))))
theorem isFrac_iff (n d : Int) : isFrac n d = true ↔ 1 ≤ d ∧ d ≤ 1000000 ∧ -1000000 * d ≤ n ∧ n ≤ 1000000 * d ∧ gz n d = 1 := by
  simp [isFrac]
/-- A quotient in its lowest terms, if that is valid. -/
def mk (n d : Int) : Int × Int × Bool := if isFrac (n / gz n d) (d / gz n d) = true then (n / gz n d, d / gz n d, true) else (0, 0, false)
def res (n d : Int) : Int × Int × Int := if isFrac (n / gz n d) (d / gz n d) = true then (n / gz n d, d / gz n d, 0) else (0, 0, 2)
theorem mk_res (n d : Int) : (if (mk n d).2.2 = true then ((mk n d).1, (mk n d).2.1, (0 : Int)) else (0, 0, 2)) = res n d := by
  unfold mk res
  by_cases h : isFrac (n / gz n d) (d / gz n d) = true
  · rw [if_pos h, if_pos h]; simp
  · rw [if_neg h, if_neg h]; simp
/-- A common factor falls away. -/
theorem res_scale (c n d : Int) (hc : 0 < c) : res (c * n) (c * d) = res n d := by
  have e := gz_mul_left c n d (by omega)
  have e1 : c * n / (c * gz n d) = n / gz n d := Int.mul_ediv_mul_of_pos _ _ hc
  have e2 : c * d / (c * gz n d) = d / gz n d := Int.mul_ediv_mul_of_pos _ _ hc
  unfold res
  rw [e, e1, e2]

/-! ### Lists that are written element by element -/
theorem take_set_succ {α : Type} {l : List α} {i : Nat} {v : α} (h : i < l.length) : (l.set i v).take (i + 1) = l.take i ++ [v] := by
  rw [List.set_eq_take_append_cons_drop, if_pos h, List.take_append]
  have e : (l.take i).length = i := by simp; omega
  rw [e, List.take_of_length_le (by omega), show i + 1 - i = 1 by omega]; rfl
/-- n, n + 1, .. -/
def iota : Int → Nat → List Int
  | _, 0 => []
  | n, m + 1 => n :: iota (n + 1) m
theorem iota_length : ∀ (n : Int) (m : Nat), (iota n m).length = m
  | _, 0 => rfl
  | n, m + 1 => by simp [iota, iota_length]
theorem rd_append_cons {p q : List Int} {x : Int} : rd (p ++ x :: q) (p.length : Int) = x := by
  simp [rd, List.getD_eq_getElem?_getD]

/-! ### Scores -/
/-- A score. -/
def sc (x : Int) : Bool := decide (-100000 ≤ x) && decide (x ≤ 100000)
theorem sc_iff (x : Int) : sc x = true ↔ -100000 ≤ x ∧ x ≤ 100000 := by simp [sc]
/-- A list of scores, at most so many. -/
def scores (n : Nat) (l : List Int) : Bool := decide (l.length ≤ n) && l.all sc
theorem scores_iff (n : Nat) (l : List Int) : scores n l = true ↔ l.length ≤ n ∧ ∀ x ∈ l, -100000 ≤ x ∧ x ≤ 100000 := by
  simp only [scores, Bool.and_eq_true, decide_eq_true_eq, List.all_eq_true, sc_iff]
theorem scores_rd {n : Nat} {l : List Int} (h : scores n l = true) {i : Int} (h0 : 0 ≤ i) (h1 : i < (l.length : Int)) : -100000 ≤ rd l i ∧ rd l i ≤ 100000 :=
  ((scores_iff n l).1 h).2 _ (rd_mem h0 h1)
theorem impsFrom_bd (d : Int) : ∀ (l : List Int) (n : Int), n - l.length ≤ impsFrom d l n ∧ impsFrom d l n ≤ n + l.length
  | [], n => by simp [impsFrom]
  | b :: bs, n => by
    simp only [impsFrom]
    have h := impsFrom_bd d bs (n + one (d ≥ b) - one (d ≤ -b))
    have a1 : 0 ≤ one (d ≥ b) ∧ one (d ≥ b) ≤ 1 := by unfold one; split <;> omega
    have a2 : 0 ≤ one (d ≤ -b) ∧ one (d ≤ -b) ≤ 1 := by unfold one; split <;> omega
    simp only [List.length_cons]
    omega
theorem imps_bd (d : Int) : -24 ≤ imps d ∧ imps d ≤ 24 := by
  have h := impsFrom_bd d bounds 0
  have e : bounds.length = 24 := rfl
  rw [e] at h
  unfold imps; omega
/-- The IMPs of the boards of a match. -/
def impsOf (a b : List Int) : List Int := List.zipWith (fun x y => imps (x - y)) a b
theorem zip_take_succ {a b : List Int} {i : Nat} (ha : i < a.length) (hb : i < b.length) (f : Int → Int → Int) : List.zipWith f (a.take (i + 1)) (b.take (i + 1)) = List.zipWith f (a.take i) (b.take i) ++ [f (rd a (i : Int)) (rd b (i : Int))] := by
  rw [rd_lt ha, rd_lt hb, List.take_succ_eq_append_getElem ha, List.take_succ_eq_append_getElem hb, List.zipWith_append (by simp; omega)]
  rfl
theorem take_succ_rd {a : List Int} {i : Nat} (ha : i < a.length) : a.take (i + 1) = a.take i ++ [rd a (i : Int)] := by
  rw [rd_lt ha, List.take_succ_eq_append_getElem ha]
/-- The sum of a list. -/
def total : List Int → Int
  | [] => 0
  | x :: xs => x + total xs
theorem total_append : ∀ (a b : List Int), total (a ++ b) = total a + total b
  | [], b => by simp [total]
  | x :: xs, b => by simp only [List.cons_append, total, total_append xs b]; omega
theorem total_bd {c : Int} : ∀ (l : List Int), (∀ x ∈ l, -c ≤ x ∧ x ≤ c) → -(l.length * c) ≤ total l ∧ total l ≤ l.length * c
  | [], _ => by simp [total]
  | x :: xs, h => by
    have h1 := h x (by simp)
    have h2 := total_bd xs (fun y hy => h y (by simp [hy]))
    simp only [total, List.length_cons, Int.natCast_add, Int.add_mul]
    omega

/-! ### IMPs: opposite, monotone, where they are 0 -/
theorem impsFrom_neg (d : Int) : ∀ (l : List Int) (n : Int), impsFrom (-d) l (-n) = -impsFrom d l n
  | [], n => rfl
  | b :: bs, n => by
    simp only [impsFrom]
    have e1 : one (-d ≥ b) = one (d ≤ -b) := by unfold one; split <;> split <;> omega
    have e2 : one (-d ≤ -b) = one (d ≥ b) := by unfold one; split <;> split <;> omega
    rw [e1, e2, ← impsFrom_neg d bs]
    congr 1; omega
theorem imps_neg (d : Int) : imps (-d) = -imps d := by
  have := impsFrom_neg d bounds 0
  simpa [imps] using this
theorem impsFrom_mono {d e : Int} (h : d ≤ e) : ∀ (l : List Int) (n m : Int), n ≤ m → impsFrom d l n ≤ impsFrom e l m
  | [], n, m, hn => hn
  | b :: bs, n, m, hn => by
    simp only [impsFrom]
    refine impsFrom_mono h bs _ _ ?_
    have e1 : one (d ≥ b) ≤ one (e ≥ b) := by unfold one; split <;> split <;> omega
    have e2 : one (e ≤ -b) ≤ one (d ≤ -b) := by unfold one; split <;> split <;> omega
    omega
theorem imps_mono {d e : Int} (h : d ≤ e) : imps d ≤ imps e := impsFrom_mono h bounds 0 0 (Int.le_refl 0)
theorem imps_at : imps 20 = 1 ∧ imps (-20) = -1 ∧ imps 19 = 0 ∧ imps (-19) = 0 ∧ imps 0 = 0 := by decide
theorem imps_zero (d : Int) : imps d ≠ 0 ↔ d ≥ 20 ∨ d ≤ -20 := by
  obtain ⟨a1, a2, a3, a4, _⟩ := imps_at
  by_cases h : d ≥ 20
  · have := imps_mono h; omega
  · by_cases g : d ≤ -20
    · have := imps_mono g; omega
    · have p := imps_mono (show d ≤ 19 by omega)
      have q := imps_mono (show -19 ≤ d by omega)
      omega
theorem impsOf_swap : ∀ (a b : List Int), impsOf b a = (impsOf a b).map fun x => -x
  | [], [] => rfl
  | [], _ :: _ => rfl
  | _ :: _, [] => rfl
  | x :: xs, y :: ys => by
    have e : imps (y - x) = -imps (x - y) := by rw [← imps_neg]; congr 1; omega
    have h := impsOf_swap xs ys
    unfold impsOf at h ⊢
    simp only [List.zipWith_cons_cons, List.map_cons, e, h]
theorem total_neg : ∀ l : List Int, total (l.map fun x => -x) = -total l
  | [] => rfl
  | x :: xs => by simp only [List.map_cons, total, total_neg xs]; omega
theorem impsOf_bd (a b : List Int) : ∀ x ∈ impsOf a b, -24 ≤ x ∧ x ≤ 24 := by
  intro x hx
  obtain ⟨i, hi, rfl⟩ := List.mem_iff_getElem.1 hx
  simp only [impsOf, List.getElem_zipWith]
  exact imps_bd _

/-! ### Cross-IMPs -/
/-- The sum of the IMPs of the differences to all scores. -/
def crossOne (l : List Int) (x : Int) : Int := total (l.map fun y => imps (x - y))
def cross (l : List Int) : List Int := l.map (crossOne l)
theorem mapImps_bd (l : List Int) (x : Int) : ∀ z ∈ l.map (fun y => imps (x - y)), -24 ≤ z ∧ z ≤ 24 := by
  intro z hz
  obtain ⟨y, _, rfl⟩ := List.mem_map.1 hz
  exact imps_bd _
theorem crossOne_bd (l : List Int) (x : Int) : -(l.length * 24) ≤ crossOne l x ∧ crossOne l x ≤ l.length * 24 := by
  have := total_bd _ (mapImps_bd l x)
  simpa [crossOne] using this
theorem total_mono (l : List Int) {x y : Int} (h : x ≤ y) : total (l.map fun z => imps (x - z)) ≤ total (l.map fun z => imps (y - z)) := by
  induction l with
  | nil => simp [total]
  | cons a l ih =>
    simp only [List.map_cons, total]
    have := imps_mono (show x - a ≤ y - a by omega)
    omega
theorem total_add (f g : Int → Int) : ∀ l : List Int, total (l.map fun x => f x + g x) = total (l.map f) + total (l.map g)
  | [] => rfl
  | x :: xs => by simp only [List.map_cons, total, total_add f g xs]; omega
theorem total_zero : ∀ l : List Int, total (l.map fun _ => 0) = 0
  | [] => rfl
  | x :: xs => by simp only [List.map_cons, total, total_zero xs]; omega
theorem total_swap (f : Int → Int → Int) : ∀ a b : List Int, total (a.map fun x => total (b.map fun y => f x y)) = total (b.map fun y => total (a.map fun x => f x y))
  | [], b => by simp only [List.map_nil, total, total_zero]
  | x :: xs, b => by
    simp only [List.map_cons, total]
    rw [total_swap f xs b, ← total_add]
theorem cross_zero (l : List Int) : total (cross l) = 0 := by
  have h : total (cross l) = -total (cross l) := by
    have e := total_swap (fun x y => imps (x - y)) l l
    have n : (l.map fun y => total (l.map fun x => imps (x - y))) = (l.map fun y => total (l.map fun x => imps (y - x))).map fun z => -z := by
      rw [List.map_map]
      refine List.map_congr_left fun y _ => ?_
      have q : (l.map fun x => imps (x - y)) = (l.map fun x => imps (y - x)).map fun z => -z := by
        rw [List.map_map]
        refine List.map_congr_left fun x _ => ?_
        show imps (x - y) = -imps (y - x)
        rw [← imps_neg]; congr 1; omega
      show total (l.map fun x => imps (x - y)) = -total (l.map fun x => imps (y - x))
      rw [q, total_neg]
    rw [n, total_neg] at e
    exact e
  omega
theorem map_take_succ {l : List Int} {i : Nat} (h : i < l.length) (f : Int → Int) : (l.take (i + 1)).map f = (l.take i).map f ++ [f (rd l (i : Int))] := by
  rw [take_succ_rd h, List.map_append]; rfl
theorem rd_map {l : List Int} {i : Nat} (h : i < l.length) (f : Int → Int) : rd (l.map f) (i : Int) = f (rd l (i : Int)) := by
  rw [rd_lt (by simpa using h), rd_lt h]; simp
theorem set_zeros {p : List Int} {m : Nat} {v : Int} : (p ++ List.replicate (m + 1) 0).set p.length v = (p ++ [v]) ++ List.replicate m 0 := by
  rw [List.set_append_right _ _ (Nat.le_refl _), Nat.sub_self, List.replicate_succ, List.set_cons_zero, List.append_assoc]; rfl
theorem rd_set_self {l : List Int} {i : Nat} {v : Int} (h : i < l.length) : rd (l.set i v) (i : Int) = v := by
  rw [rd_lt (by simpa using h)]; simp

end Go.Proofs.Ytakepkjcmgcepaa.Lib
