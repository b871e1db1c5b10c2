/- Both ways to bring a quotient to its lowest terms come to Lib.res. -/
import Derived.Test.YtnkdjddnppajaaaFracAFnFractions
namespace Go.Proofs.Ytnkdjddnppajaaa.QFnFractions
open Go.RowKit Go.Proofs.YtnkdjddnppajaaaW.PrintWords Go.Proofs.YtnkdjddnppajaaaW.PrintLast Go.Proofs.YtnkdjddnppajaaaW.PrintMore Go.Proofs.Ytnkdjddnppajaaa.Lib

theorem tdiv_gz_left {n d : Int} (hn : n.natAbs ≤ 9223372036854775807) : wrap64 (Int.tdiv n (gz n d)) = n / gz n d := by
  rw [Int.tdiv_eq_ediv_of_dvd (gz_dvd_left n d)]
  have := Int.natAbs_ediv_le_natAbs n (gz n d)
  exact w64 (by omega) (by omega)
theorem tdiv_gz_right {n d : Int} (hd : d.natAbs ≤ 9223372036854775807) : wrap64 (Int.tdiv d (gz n d)) = d / gz n d := by
  rw [Int.tdiv_eq_ediv_of_dvd (gz_dvd_right n d)]
  have := Int.natAbs_ediv_le_natAbs d (gz n d)
  exact w64 (by omega) (by omega)

theorem spec_make (n d : Int) (hn : n.natAbs ≤ 9223372036854775807) (h1 : 1 ≤ d) (hd : d.natAbs ≤ 9223372036854775807) : Ev (fun k => spec_l14Make.f k n d) (mk n d) := by
  have hp := gz_pos (a := n) (b := d) (by omega)
  refine Ev.bind (a := gz n d) ?_ ?_
  · rw [w64 (by omega) (by omega), mx_natAbs, ← gz_abs_left]
    exact spec_gcd _ _ (by omega) (by omega)
  · refine ev_if_neg (by omega) ?_
    rw [tdiv_gz_left hn, tdiv_gz_right hd]
    refine Ev.bind (spec_isFrac _ _) (ev_one ?_)
    unfold mk
    by_cases h : isFrac (n / gz n d) (d / gz n d) = true
    · rw [if_pos h, if_pos h]
    · rw [if_neg h, if_neg h]

theorem spec_res (n d : Int) (hn : n.natAbs ≤ 9223372036854775807) (h1 : 1 ≤ d) (hd : d.natAbs ≤ 9223372036854775807) : Ev (fun k => spec_l14Result.f k n d) (res n d) := by
  refine Ev.bind (spec_make n d hn h1 hd) (ev_one ?_)
  rw [← mk_res]
  by_cases h : (mk n d).2.2 = true
  · rw [if_pos h, if_pos h]
  · rw [if_neg h, if_neg h]

theorem impl_red_j0 (n d : Int) (hn : n.natAbs ≤ 9223372036854775807) (h1 : 1 ≤ d) (hd : d.natAbs ≤ 9223372036854775807) : Ev (fun k => impl_reduced.j0 k n d) (mk n d) := by
  have hp := gz_pos (a := n) (b := d) (by omega)
  refine Ev.step (fun k => by simp only [impl_reduced.j0]; rfl) ?_
  refine Ev.bind (impl_gcd n d hn hd) ?_
  refine ev_if_neg (by omega) ?_
  rw [tdiv_gz_left hn, tdiv_gz_right hd]
  refine Ev.bind (impl_isFrac _ _) (ev_one ?_)
  unfold mk
  by_cases h : isFrac (n / gz n d) (d / gz n d) = true
  · rw [if_pos h, if_pos h]
  · rw [if_neg h, if_neg h]

/-- What a quotient comes to, its denominator not 0. -/
def mkz (n d : Int) : Int × Int × Bool := if d < 0 then mk (-n) (-d) else mk n d
def resz (n d : Int) : Int × Int × Int := if d < 0 then res (-n) (-d) else res n d

theorem impl_red (n d : Int) (hn : n.natAbs ≤ 9223372036854775807) (h0 : d ≠ 0) (hd : d.natAbs ≤ 9223372036854775807) : Ev (fun k => impl_reduced.f k n d) (mkz n d) := by
  unfold mkz
  by_cases h : d < 0
  · rw [if_pos h]
    refine ev_if_pos h ?_
    rw [w64 (x := -n) (by omega) (by omega), w64 (x := -d) (by omega) (by omega)]
    exact impl_red_j0 _ _ (by omega) (by omega) (by omega)
  · rw [if_neg h]
    exact ev_if_neg h (impl_red_j0 _ _ hn (by omega) hd)

theorem impl_orR (n d : Int) (hn : n.natAbs ≤ 9223372036854775807) (h0 : d ≠ 0) (hd : d.natAbs ≤ 9223372036854775807) : Ev (fun k => impl_orRange.f k n d) (resz n d) := by
  refine Ev.bind (impl_red n d hn h0 hd) (ev_one ?_)
  unfold mkz resz
  by_cases h : d < 0
  · rw [if_pos h, if_pos h, ← mk_res]
    by_cases c : (mk (-n) (-d)).2.2 = true
    · rw [if_pos c, if_pos c]
    · rw [if_neg c, if_neg c]
  · rw [if_neg h, if_neg h, ← mk_res]
    by_cases c : (mk n d).2.2 = true
    · rw [if_pos c, if_pos c]
    · rw [if_neg c, if_neg c]

theorem resz_pos {n d : Int} (h : 1 ≤ d) : resz n d = res n d := by unfold resz; rw [if_neg (by omega)]

end Go.Proofs.Ytnkdjddnppajaaa.QFnFractions
