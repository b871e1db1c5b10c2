/- The functions that the law FnExactIsClaim reaches, as plain functions, and the walks that show that the machine's calls answer so. Written by a program of this session (wip/myprint.py) on the kit's print. -/
import Derived.Test.YtakepkjcmgcepaaQFnExactIsClaimx0
import Derived.Test.YtakepkjcmgcepaaQFnExactIsClaimx7
namespace Go.Proofs.Ytakepkjcmgcepaa.QFnExactIsClaim
open Go.RowKit Go.Proofs.YtakepkjcmgcepaaW.PrintWords Go.Proofs.YtakepkjcmgcepaaW.PrintLast Go.Proofs.YtakepkjcmgcepaaW.PrintMore
attribute [local go_sem] max2_int min2_int max_two min_two max_three min_three max_four min_four   -- for this text's walks alone
set_option linter.unusedVariables false
set_option linter.unusedSimpArgs false

/-! ### impl_best: function 91 -/
def impl_best.l0 : Nat → Int → List Int → Int → List Int → Int → Int → Option (Int)
 | 0,_,_,_,_,_,_=>none
 | k + 1,x0,x1,x5,x8,x9,x10=>if x10 < x9 then (if 0 ≤ x10 then (if x10 < (x8.length : Int) then (if 0 ≤ x5 then (if x5 < (x1.length : Int) then ((impl_wins.f x0 (rd x1 x5) (rd x8 x10)).bind fun t269=>(if t269 = true then (impl_best.l0 k x0 x1 x10 x8 x9 (wrap64 (x10 + 1))) else (impl_best.l0 k x0 x1 x5 x8 x9 (wrap64 (x10 + 1))))) else (none)) else (none)) else (none)) else (none)) else (some x5)
def impl_best.f (k : Nat) (a0 : Int) (l1 : List Int) : Option (Int) := impl_best.l0 k a0 l1 0 l1 (l1.length : Int) 0
theorem impl_best.mono_l : ∀ k, (∀ y0 y1 y2 y3 y4 y5, LeO (impl_best.l0 k y0 y1 y2 y3 y4 y5) (impl_best.l0 (k + 1) y0 y1 y2 y3 y4 y5))
 | 0=>fun _ _ _ _ _ _ r h=>by simp [impl_best.l0] at h
 | k + 1=>by
  have ih0:=impl_best.mono_l k
  ·intro y0 y1 y2 y3 y4 y5
   unfold impl_best.l0
   repeat' first
   | (with_reducible exact ih0 _ _ _ _ _ _)
   | (with_reducible exact LeO.refl _)
   | (with_reducible exact LeO.none _)
   | (with_reducible refine LeO.ite ?_ ?_)
   | (with_reducible refine LeO.bind ?_ (fun _=>?_))
   | exact ih0 _ _ _ _ _ _
   | exact LeO.none _
   | refine LeO.ite ?_ ?_
   | refine LeO.bind ?_ (fun _=>?_)
theorem impl_best.mono : ∀ a0 a1 k, LeO (impl_best.f k a0 a1) (impl_best.f (k + 1) a0 a1) := by
 intro a0 a1 k
 have ih0:=impl_best.mono_l k
 unfold impl_best.f
 repeat' first
   | (with_reducible exact ih0 _ _ _ _ _ _)
   | (with_reducible exact LeO.refl _)
   | (with_reducible exact LeO.none _)
   | (with_reducible refine LeO.ite ?_ ?_)
   | (with_reducible refine LeO.bind ?_ (fun _=>?_))
   | exact ih0 _ _ _ _ _ _
   | exact LeO.none _
   | refine LeO.ite ?_ ?_
   | refine LeO.bind ?_ (fun _=>?_)
set_option maxHeartbeats 8000000 in
set_option maxRecDepth 100000 in
theorem impl_best.calls (k : Nat) (a0 : Int) (A1 : Option Addr) (c1 : Nat) (l1 : List Int) (r : Int) (w : World) (hr1 : Kd.C (Kd.int .i64) w A1 l1.length l1) (hc1 : l1.length ≤ c1) (h : impl_best.f k a0 l1 = some r) :
  Calls Try.prog 91 #[.int .i64 a0,.slice A1 l1.length c1] w fun e w'=>e = .returned (.int .i64 r) ∧ Drawn0 w w':=by
 have HR1:=aK hr1
 have HC1:=aK hc1
 clear hr1 hc1
 have H : (impl_best.l0 k a0 l1 0 l1 (l1.length : Int) 0) = some r:=h
 clear h
 have H':=aK H
 clear H
 go_enter Try.func91,Try.ntmps91
 go_wp2
 go_loopg [5,10] k (fun kq v5 v10 w'=>∃ (x5_1 : Int) (x10_1 : Int),v5 = .int .i64 x5_1 ∧ v10 = .int .i64 x10_1 ∧ Aside0 (impl_best.l0 kq a0 l1 x5_1 l1 (l1.length : Int) x10_1 = some r) ∧ Aside0 (kq ≤ k) ∧ Drawn0 w w')
 case atStart=>exact ⟨(0),(0),(by first|rfl|(simp;done)|(simp [*];done)),(by first|rfl|(simp;done)|(simp [*];done)),H',⟨Nat.le_refl _⟩,by repeat (first|exact Drawn0.refl _|apply Drawn0.step)⟩
 case round =>
  clear H'
  try clear c1
  try clear p2
  obtain ⟨x5_1,x10_1,rfl,rfl,HA,HK1,⟨m1,rfl⟩⟩:=hrel
  cases gk with
  | zero=>exact absurd HA.out (by simp [impl_best.l0])
  | succ k1 =>
   have H:=HA.out
   clear HA
   simp only [impl_best.l0] at H
   by_cases c3 : x10_1 < (l1.length : Int)
   ·rw [if_pos c3] at H
    have c3b0 : decide (x10_1 < (l1.length : Int)) = true:=decide_eq_true c3
    clear c3
    by_cases c4 : 0 ≤ x10_1
    ·rw [if_pos c4] at H
     have c4b0 : decide (0 ≤ x10_1) = true:=decide_eq_true c4
     clear c4
     by_cases c5 : x10_1 < (l1.length : Int)
     ·rw [if_pos c5] at H
      have c5b0 : decide (x10_1 < (l1.length : Int)) = true:=decide_eq_true c5
      clear c5
      by_cases c6 : 0 ≤ x5_1
      ·rw [if_pos c6] at H
       have c6b0 : decide (0 ≤ x5_1) = true:=decide_eq_true c6
       clear c6
       by_cases c7 : x5_1 < (l1.length : Int)
       ·rw [if_pos c7] at H
        have c7b0 : decide (x5_1 < (l1.length : Int)) = true:=decide_eq_true c7
        clear c7
        replace H:=Option.bind_eq_some_iff.mp H
        obtain ⟨t269,A80,H⟩:=H
        replace H : (if t269 = true then (impl_best.l0 k1 a0 l1 x10_1 l1 (l1.length : Int) (wrap64 (x10_1 + 1))) else (impl_best.l0 k1 a0 l1 x5_1 l1 (l1.length : Int) (wrap64 (x10_1 + 1)))) = some r:=H
        have A8:=aK A80
        clear A80
        by_cases c9 : t269 = true
        ·subst c9
         have H1 : (impl_best.l0 k1 a0 l1 x10_1 l1 (l1.length : Int) (wrap64 (x10_1 + 1))) = some r:=by rw [if_pos rfl] at H;exact H
         clear H
         have H:=H1
         clear H1
         have H':=aK H
         clear H
         have p267 : 0 ≤ (x10_1 : Int):=of_decide_eq_true (by first|(with_reducible assumption)|assumption)
         have q267 : x10_1 < (l1.length : Int):=of_decide_eq_true (by first|(with_reducible assumption)|assumption)
         obtain ⟨ad267,e267,hx267_0⟩:=Kd.at_int HR1.out x10_1 p267 q267
         cases e267
         replace p267:=eq_true p267
         replace q267:=eq_true q267
         have p268 : 0 ≤ (x5_1 : Int):=of_decide_eq_true (by first|(with_reducible assumption)|assumption)
         have q268 : x5_1 < (l1.length : Int):=of_decide_eq_true (by first|(with_reducible assumption)|assumption)
         obtain ⟨ad268,e268,hx268_0⟩:=Kd.at_int HR1.out x5_1 p268 q268
         obtain rfl : ad267 = ad268:=(by injection e268)
         replace p268:=eq_true p268
         replace q268:=eq_true q268
         go_wp2_with (first|((with_reducible refine gate_callee (f:=132) rfl ?_);refine goesL_ (some 21) rfl rfl Try.func132 (by kernel_rfl) rfl #[.int .i64 a0,.int .i64 (rd l1 x5_1),.int .i64 (rd l1 x10_1)] rfl (by (try simp only [mA,mC,mN]);first|done|rfl) ?_;(with_reducible refine (impl_wins.calls a0 (rd l1 x5_1) (rd l1 x10_1) true _ A8.out).mono ?_);rintro e w' ⟨rfl,⟨nd,rfl⟩⟩;refine ⟨_,rfl,?_⟩))
         go_roundg k1
         case measure=>have:=HK1.out;omega
         case rel=>exact ⟨(x10_1),(wrap64 (x10_1 + 1)),(by first|rfl|(simp;done)|(simp [*];done)),(by first|rfl|(simp;done)|(simp [*];done)),H',⟨by have:=HK1.out;omega⟩,by repeat (first|exact Drawn0.refl _|apply Drawn0.step)⟩
        ·replace c9:=Bool.eq_false_iff.mpr c9
         subst c9
         have H1 : (impl_best.l0 k1 a0 l1 x5_1 l1 (l1.length : Int) (wrap64 (x10_1 + 1))) = some r:=by rw [if_neg (show ¬ (false = true) by decide)] at H;exact H
         clear H
         have H:=H1
         clear H1
         have H':=aK H
         clear H
         have p267 : 0 ≤ (x10_1 : Int):=of_decide_eq_true (by first|(with_reducible assumption)|assumption)
         have q267 : x10_1 < (l1.length : Int):=of_decide_eq_true (by first|(with_reducible assumption)|assumption)
         obtain ⟨ad267,e267,hx267_0⟩:=Kd.at_int HR1.out x10_1 p267 q267
         cases e267
         replace p267:=eq_true p267
         replace q267:=eq_true q267
         have p268 : 0 ≤ (x5_1 : Int):=of_decide_eq_true (by first|(with_reducible assumption)|assumption)
         have q268 : x5_1 < (l1.length : Int):=of_decide_eq_true (by first|(with_reducible assumption)|assumption)
         obtain ⟨ad268,e268,hx268_0⟩:=Kd.at_int HR1.out x5_1 p268 q268
         obtain rfl : ad267 = ad268:=(by injection e268)
         replace p268:=eq_true p268
         replace q268:=eq_true q268
         go_wp2_with (first|((with_reducible refine gate_callee (f:=132) rfl ?_);refine goesL_ (some 21) rfl rfl Try.func132 (by kernel_rfl) rfl #[.int .i64 a0,.int .i64 (rd l1 x5_1),.int .i64 (rd l1 x10_1)] rfl (by (try simp only [mA,mC,mN]);first|done|rfl) ?_;(with_reducible refine (impl_wins.calls a0 (rd l1 x5_1) (rd l1 x10_1) false _ A8.out).mono ?_);rintro e w' ⟨rfl,⟨nd,rfl⟩⟩;refine ⟨_,rfl,?_⟩))
         go_roundg k1
         case measure=>have:=HK1.out;omega
         case rel=>exact ⟨(x5_1),(wrap64 (x10_1 + 1)),(by first|rfl|(simp;done)|(simp [*];done)),(by first|rfl|(simp;done)|(simp [*];done)),H',⟨by have:=HK1.out;omega⟩,by repeat (first|exact Drawn0.refl _|apply Drawn0.step)⟩
       ·rw [if_neg c7] at H
        exact absurd H (by simp)
      ·rw [if_neg c6] at H
       exact absurd H (by simp)
     ·rw [if_neg c5] at H
      exact absurd H (by simp)
    ·rw [if_neg c4] at H
     exact absurd H (by simp)
   ·rw [if_neg c3] at H
    have c3b0 : decide (x10_1 < (l1.length : Int)) = false:=decide_eq_false c3
    clear c3
    obtain rfl:=Option.some.inj H
    go_wp2
    go_ret
    exact ⟨by first|rfl|(simp;done)|(simp [*];done),by repeat (first|exact Drawn0.refl _|apply Drawn0.step)⟩

/-! ### impl_leaders: function 93 -/
def impl_leaders.l0 : Nat → List Int → Int → Int → Int → List Int → Option (List Int)
 | 0,_,_,_,_,_=>none
 | k + 1,x3,x4,x271000,x271001,x271002=>if (wrap64 (x4 + 4)) ≤ (x271002.length : Int) then (if 0 ≤ (wrap64 ((x3.length : Int) - 1)) then (if (wrap64 ((x3.length : Int) - 1)) < (x3.length : Int) then (if 0 ≤ x4 then (if x4 ≤ (wrap64 (x4 + 4)) then ((impl_best.f k x271000 ((x271002.take ((wrap64 (x4 + 4)) : Int).toNat).drop (x4 : Int).toNat)).bind fun t276=>(if x3.length < 17592186044416 then (impl_leaders.l0 k (x3 ++ [Int.tmod (wrap64 ((rd x3 (wrap64 ((x3.length : Int) - 1))) + t276)) 4]) (wrap64 (x4 + 4)) x271000 x271001 x271002) else (none))) else (none)) else (none)) else (none)) else (none)) else (some x3)
def impl_leaders.f (k : Nat) (a0_0 : Int) (a0_1 : Int) (l0_2 : List Int) : Option (List Int) := impl_leaders.l0 k (([a0_1] : List Int)) 0 a0_0 a0_1 l0_2
theorem impl_leaders.mono_l : ∀ k, (∀ y0 y1 y2 y3 y4, LeO (impl_leaders.l0 k y0 y1 y2 y3 y4) (impl_leaders.l0 (k + 1) y0 y1 y2 y3 y4))
 | 0=>fun _ _ _ _ _ r h=>by simp [impl_leaders.l0] at h
 | k + 1=>by
  have ih0:=impl_leaders.mono_l k
  ·intro y0 y1 y2 y3 y4
   unfold impl_leaders.l0
   repeat' first
   | (with_reducible exact ih0 _ _ _ _ _)
   | (with_reducible exact impl_best.mono _ _ _)
   | (with_reducible exact LeO.refl _)
   | (with_reducible exact LeO.none _)
   | (with_reducible refine LeO.ite ?_ ?_)
   | (with_reducible refine LeO.bind ?_ (fun _=>?_))
   | exact ih0 _ _ _ _ _
   | exact impl_best.mono _ _ _
   | exact LeO.none _
   | refine LeO.ite ?_ ?_
   | refine LeO.bind ?_ (fun _=>?_)
theorem impl_leaders.mono : ∀ a0 a1 a2 k, LeO (impl_leaders.f k a0 a1 a2) (impl_leaders.f (k + 1) a0 a1 a2) := by
 intro a0 a1 a2 k
 have ih0:=impl_leaders.mono_l k
 unfold impl_leaders.f
 repeat' first
   | (with_reducible exact ih0 _ _ _ _ _)
   | (with_reducible exact impl_best.mono _ _ _)
   | (with_reducible exact LeO.refl _)
   | (with_reducible exact LeO.none _)
   | (with_reducible refine LeO.ite ?_ ?_)
   | (with_reducible refine LeO.bind ?_ (fun _=>?_))
   | exact ih0 _ _ _ _ _
   | exact impl_best.mono _ _ _
   | exact LeO.none _
   | refine LeO.ite ?_ ?_
   | refine LeO.bind ?_ (fun _=>?_)
def impl_leaders.T5 : Bool × List (List Nat × List Nat) := (true, [([], []), ([], []), ([], []), ([2], [2]), ([3], [3]), ([1, 4], [1, 4]), ([5], [5]), ([], []), ([7], [7]), ([], []), ([9], [9]), ([], []), ([], []), ([12], [12]), ([10, 11, 13], [10, 11, 13]), ([8, 14], [8, 14]), ([6, 15], [6, 15]), ([16], [16]), ([17], [17]), ([0, 18, 15], [0, 18]), ([19, 19, 0, 1, 2, 3, 4, 5, 6, 7, 8, 9, 10, 11, 12, 13, 14, 15, 16, 17, 18, 19], [0, 1, 2, 19])])
def impl_leaders.B5 : List Nat := [0, 0, 0, 4, 12, 30, 62, 0, 128, 0, 512, 0, 0, 4096, 15872, 32640, 65534, 131070, 262142, 524287, 1048575]
theorem impl_leaders.tab5 : rtab .any (opsOf Try.f93 5) = impl_leaders.T5 := by kernel_rfl
theorem impl_leaders.bits5 : waitsOk impl_leaders.T5.2 impl_leaders.B5 = true := by kernel_rfl
set_option maxHeartbeats 8000000 in
set_option maxRecDepth 100000 in
theorem impl_leaders.calls (k : Nat) (a0_0 : Int) (a0_1 : Int) (A0_2 : Option Addr) (c0_2 : Nat) (l0_2 : List Int) (r : List Int) (w : World) (hr0_2 : Kd.C (Kd.int .i64) w A0_2 l0_2.length l0_2) (hc0_2 : l0_2.length ≤ c0_2) (h : impl_leaders.f k a0_0 a0_1 l0_2 = some r) :
  Calls Try.prog 93 #[.agg #[.int .i64 a0_0,.int .i64 a0_1,.slice A0_2 l0_2.length c0_2]] w fun e w'=>∃ v0_ : Value,e = .returned (v0_) ∧ Kd.R (Kd.int .i64) 2 w' w.heap.size (fun _=>True) v0_ r ∧ Below w.heap.size w w':=by
 have hu27:=Try.underlying27
 have HR0_2:=aK hr0_2
 have HC0_2:=aK hc0_2
 clear hr0_2 hc0_2
 have HB:=aK (Below.refl w.heap.size w)
 have H : (impl_leaders.l0 k (([a0_1] : List Int)) 0 a0_0 a0_1 l0_2) = some r:=h
 clear h
 obtain ⟨y271,hy271⟩ : ∃ y_ : List Int,y_ = (([a0_1] : List Int)):=⟨_,rfl⟩
 replace H : (impl_leaders.l0 k y271 0 a0_0 a0_1 l0_2) = some r:=by first|(rw [hy271];with_reducible exact H)|(have H2_:=(Option.bind_some _ _).symm.trans H;rw [hy271];with_reducible exact H2_)|(have H2_:=(Option.bind_some _ _).symm.trans H;with_reducible exact H2_)|with_reducible exact H|(rw [hy271];exact H)|exact H
 have Ny271:=aK hy271
 clear hy271
 have H':=aK H
 clear H
 go_enter Try.func93,Try.ntmps93
 go_wp2_with (first|((with_reducible refine gate_dst (N:=1) rfl ?_);refine box_event ?hg (N:=1) ?hd (cs:=#[.int .i64 a0_0,.int .i64 a0_1,.slice A0_2 l0_2.length c0_2]) (t:=27) ?hr ?_;(case hd=>rfl);(case hg=>rfl);(case hr=>first|(go_simp;done)|(go_simp;rfl));intro gb270 hg w2 hbox hb;have n0_:=aK (below_step (bW HB.out) hb);have n1_:=aK (hbox);have n2_:=aK ((by rw [hg];exact (below_size (bW HB.out)) : w.heap.size ≤ gb270));have n3_:=aK ((by rw [hg];exact (below_size (bW HB.out)) : w.heap.size ≤ gb270));clear HB;have HB:=n0_;have BK270:=n1_;have GW270:=n2_;have GE270:=n3_;clear n0_ n1_ n2_ n3_;clear hb hbox hg;have hcz3_0 : w2.cell? ⟨gb270,0,none⟩ = some (.int .i64 a0_0):=(bC BK270.out 0).trans rfl;have hcz3_1 : w2.cell? ⟨gb270,1,none⟩ = some (.int .i64 a0_1):=(bC BK270.out 1).trans rfl;have hcz3_2 : w2.cell? ⟨gb270,2,none⟩ = some (.slice A0_2 l0_2.length c0_2):=(bC BK270.out 2).trans rfl;have hfz3_0:=blk_frozen BK270.out 0;have hfz3_1:=blk_frozen BK270.out 1;have hfz3_2:=blk_frozen BK270.out 2)|((with_reducible refine gate_dst (N:=7) rfl ?_);refine Kd.R_lit (Kd.int .i64) _ 2 ?hg (N:=7) ?hd (xs:=([a0_1] : List Int)) (inner:=[.int .i64 a0_1]) (ok:=fun _=>True) (okp:=fun _=>True) ?hr ?hp (fun _ hk=>hk) trivial (Below.refl _ _) (Nat.le_refl _) (by simp) ?_;(case hd=>rfl);(case hg=>rfl);(case hr=>first|(go_simp;done)|(go_simp;rfl));(case hp=>exact (Reps.one (show Kd.M (Kd.int .i64) _ _ _ a0_1 [.int .i64 a0_1] from rfl) (Reps.none _ _)));intro v272 w4 ho5 hb hg_ hnew_;clear hg_ hnew_;(first|rw [← Ny271.out] at ho5|(simp only [Int.reduceToNat] at ho5;rw [← Ny271.out] at ho5));have n0_:=aK (Kd.R_lower ho5 (below_size (bW HB.out)));have n1_:=aK (bB (bX BK270.out) hb);have n2_:=aK (below_step (bW HB.out) hb);clear BK270;clear HB;have HO273:=n0_;have BK270:=n1_;have HB:=n2_;clear n0_ n1_ n2_;clear hb ho5))
 go_loopg [3,4] k (fun kq v3 v4 w'=>∃ (x3_1 : List Int) (x4_1 : Int),v4 = .int .i64 x4_1 ∧ Aside0 (impl_leaders.l0 kq x3_1 x4_1 a0_0 a0_1 l0_2 = some r) ∧ Aside0 (kq ≤ k) ∧ Aside0 (Kd.R (Kd.int .i64) 2 w' w.heap.size (fun _=>True) v3 x3_1) ∧ Aside0 (w'.heap[gb270]? = some (.cells #[.int .i64 a0_0,.int .i64 a0_1,(.slice A0_2 l0_2.length c0_2)] 27 (0,0))) ∧ Aside0 (Below w.heap.size w w'))
 case atStart=>exact ⟨(y271),(0),(by first|rfl|(simp;done)|(simp [*];done)),H',⟨Nat.le_refl _⟩,⟨by (with_reducible repeat first|apply Kd.R_alloc|apply Kd.R_drewN|apply Kd.R_drew);exact HO273.out⟩,⟨by (with_reducible repeat first|apply bN|apply bD|apply bA);exact BK270.out⟩,⟨bW HB.out⟩⟩
 case round =>
  clear H'
  try clear p2
  try clear hcz3_0
  try clear hcz3_1
  try clear hcz3_2
  try clear hfz3_0
  try clear hfz3_1
  try clear hfz3_2
  obtain ⟨x3_1,x4_1,rfl,HA,HK1,HO_3,BK270,HB⟩:=hrel
  cases gk with
  | zero=>exact absurd HA.out (by simp [impl_leaders.l0])
  | succ k1 =>
   have H:=HA.out
   clear HA
   simp only [impl_leaders.l0] at H
   by_cases c6 : (wrap64 (x4_1 + 4)) ≤ (l0_2.length : Int)
   ·rw [if_pos c6] at H
    have c6b0 : decide ((wrap64 (x4_1 + 4)) ≤ (l0_2.length : Int)) = true:=decide_eq_true c6
    clear c6
    obtain ⟨ji7,hji7⟩ : ∃ j_ : Int,(wrap64 ((x3_1.length : Int) - 1)) = j_:=⟨_,rfl⟩
    replace H : (if 0 ≤ (ji7) then (if (ji7) < (x3_1.length : Int) then (if 0 ≤ x4_1 then (if x4_1 ≤ (wrap64 (x4_1 + 4)) then ((impl_best.f k1 a0_0 ((l0_2.take ((wrap64 (x4_1 + 4)) : Int).toNat).drop (x4_1 : Int).toNat)).bind fun t276=>(if x3_1.length < 17592186044416 then (impl_leaders.l0 k1 (x3_1 ++ [Int.tmod (wrap64 ((rd x3_1 (ji7)) + t276)) 4]) (wrap64 (x4_1 + 4)) a0_0 a0_1 l0_2) else (none))) else (none)) else (none)) else (none)) else (none)) = some r:=by first|(rw [hji7] at H;exact H)|(simp only [hji7] at H ⊢;exact H)
    have hji7w : (IntKind.i64.wrap ((x3_1.length : Int) - 1)) = ji7:=(i64_w _).trans hji7
    by_cases c8 : 0 ≤ (ji7)
    ·rw [if_pos c8] at H
     have c8b0 : decide (0 ≤ (ji7)) = true:=decide_eq_true c8
     clear c8
     by_cases c9 : (ji7) < (x3_1.length : Int)
     ·rw [if_pos c9] at H
      have c9b0 : decide ((ji7) < (x3_1.length : Int)) = true:=decide_eq_true c9
      clear c9
      by_cases c10 : 0 ≤ x4_1
      ·rw [if_pos c10] at H
       have c10b0:=eq_true c10
       have c10b1 : decide (0 ≤ x4_1) = true:=decide_eq_true c10
       clear c10
       by_cases c11 : x4_1 ≤ (wrap64 (x4_1 + 4))
       ·rw [if_pos c11] at H
        have c11b0:=eq_true c11
        have c11b1 : decide (x4_1 ≤ (wrap64 (x4_1 + 4))) = true:=decide_eq_true c11
        have c12b0:=eq_true (of_decide_eq_true (by first|(with_reducible assumption)|assumption) : (wrap64 (x4_1 + 4)) ≤ (l0_2.length : Int))
        replace H:=Option.bind_eq_some_iff.mp H
        obtain ⟨t276,A130,H⟩:=H
        replace H : (if x3_1.length < 17592186044416 then (impl_leaders.l0 k1 (x3_1 ++ [Int.tmod (wrap64 ((rd x3_1 (ji7)) + t276)) 4]) (wrap64 (x4_1 + 4)) a0_0 a0_1 l0_2) else (none)) = some r:=H
        have A13:=aK A130
        clear A130
        by_cases c14 : x3_1.length < 17592186044416
        ·rw [if_pos c14] at H
         have LMc14:=aK c14
         clear c14
         obtain ⟨y277,hy277⟩ : ∃ y_ : List Int,y_ = (x3_1 ++ [Int.tmod (wrap64 ((rd x3_1 (ji7)) + t276)) 4]):=⟨_,rfl⟩
         replace H : (impl_leaders.l0 k1 y277 (wrap64 (x4_1 + 4)) a0_0 a0_1 l0_2) = some r:=by first|(rw [hy277];with_reducible exact H)|(have H2_:=(Option.bind_some _ _).symm.trans H;rw [hy277];with_reducible exact H2_)|(have H2_:=(Option.bind_some _ _).symm.trans H;with_reducible exact H2_)|with_reducible exact H|(rw [hy277];exact H)|exact H
         have Ny277:=aK hy277
         clear hy277
         have H':=aK H
         clear H
         have hcz15_0 : wr.cell? ⟨gb270,0,none⟩ = some (.int .i64 a0_0):=(bC BK270.out 0).trans rfl
         have hcz15_1 : wr.cell? ⟨gb270,1,none⟩ = some (.int .i64 a0_1):=(bC BK270.out 1).trans rfl
         have hcz15_2 : wr.cell? ⟨gb270,2,none⟩ = some (.slice A0_2 l0_2.length c0_2):=(bC BK270.out 2).trans rfl
         have hfz15_0:=blk_frozen BK270.out 0
         have hfz15_1:=blk_frozen BK270.out 1
         have hfz15_2:=blk_frozen BK270.out 2
         try go_wp2
         have n0_:=aK (Kd.R_drew HO_3.out)
         have n1_:=aK (bD BK270.out)
         have n2_:=aK (b1 HB.out)
         clear HO_3
         clear BK270
         clear HB
         have HO_3:=n0_
         have BK270:=n1_
         have HB:=n2_
         clear n0_ n1_ n2_
         obtain ⟨Ao17,co17,eo17⟩:=Kd.R_slice HO_3.out
         (first|subst eo17|(injection eo17 with f1_ f2_ f3_;have f4_:=f1_.symm;have f5_:=f3_.symm;clear f1_ f2_ f3_;subst f4_;subst f5_))
         have p274 : 0 ≤ ((ji7) : Int):=of_decide_eq_true (by first|(with_reducible assumption)|assumption)
         have q274 : (ji7) < (x3_1.length : Int):=of_decide_eq_true (by first|(with_reducible assumption)|assumption)
         obtain ⟨ad274,e274,hx274_0⟩:=Kd.at_int (Kd.R_reads' HO_3.out).2.2 (ji7) p274 q274
         cases e274
         replace p274:=eq_true p274
         replace q274:=eq_true q274
         obtain ⟨i018,hi018,_,hsz18,_⟩:=info_parts info2
         obtain ⟨A18,hcut18,hA18,hC18⟩:=print_mid_of (P:=Try.prog) (Value.int .i64) 0 22 2 .i64 .i64 Try.underlying22 hi018 hsz18 A0_2 c0_2 l0_2 x4_1 (wrap64 (x4_1 + 4)) (of_decide_eq_true (by first|(with_reducible assumption)|assumption)) (by first|omega|exact of_decide_eq_true (by first|(with_reducible assumption)|assumption)) (of_decide_eq_true (by first|(with_reducible assumption)|assumption)) HC0_2.out
         have HR275:=aK (Kd.C_of_reads (h1:=fun _=>rfl) (hA18 _ (Kd.reads_of_C HR0_2.out)))
         have HC275:=aK hC18
         clear hA18 hC18 hi018 hsz18
         refine start_ (n:=21) (S:=fun w'=>w'.cell? ⟨gb270,0,none⟩ = some (.int .i64 a0_0) ∧ w'.cell? ⟨gb270,1,none⟩ = some (.int .i64 a0_1) ∧ w'.cell? ⟨gb270,2,none⟩ = some (.slice A0_2 l0_2.length c0_2) ∧ w'.cell? (ad274.add ((ji7)).toNat) = some (.int .i64 (rd x3_1 (ji7)))) (ds:=[18,19]) #[false,false,false,false,false,false,false,false,false,false,false,false,false,false,false,false,false,false,false,false,false] (by kernel_rfl) rfl rfl ⟨(bC BK270.out 0).trans rfl,(bC BK270.out 1).trans rfl,(bC BK270.out 2).trans rfl,hx274_0⟩ (fun hHeld=>?_);refine with_tabW impl_leaders.tab5 impl_leaders.bits5 (fun HT_ HW_=>?_)
         generalize wr.drew = w16 at HO_3 BK270 HB HR275 hx274_0 hHeld ⊢
         refine pure_ (i:=0) (N:=some 16) (v:=?_) (a':=?_) #[true,false,false,false,false,false,false,false,false,false,false,false,false,false,false,false,false,false,false,false,false] rfl rfl (any_of HT_.out (by kernel_rfl)) (fun _ _ _ h=>h) (Or.inl ⟨by rfl,?_⟩) ?_ ?_
         rotate_left
         ·intro w'
          go_simp
          with_reducible rfl
         rotate_left
         ·simp only [Act.put,lA,l0',lS,i64_w,i32_w]
          rfl
         refine pure_ (i:=1) (N:=some 17) (v:=?_) (a':=?_) #[true,true,false,false,false,false,false,false,false,false,false,false,false,false,false,false,false,false,false,false,false] rfl rfl (any_of HT_.out (by kernel_rfl)) (fun _ _ _ h=>h) (Or.inl ⟨by rfl,?_⟩) ?_ ?_
         rotate_left
         ·intro w'
          go_simp
          with_reducible rfl
         rotate_left
         ·simp only [Act.put,lA,l0',lS,i64_w,i32_w]
          rfl
         refine pure_ (i:=2) (N:=some 18) (v:=?_) (a':=?_) #[true,true,true,false,false,false,false,false,false,false,false,false,false,false,false,false,false,false,false,false,false] rfl rfl (any_of HT_.out (by kernel_rfl)) (fun _ _ _ h=>h) (Or.inl ⟨by rfl,?_⟩) ?_ ?_
         rotate_left
         ·intro w'
          go_simp
          with_reducible rfl
         rotate_left
         ·simp only [Act.put,lA,l0',lS,i64_w,i32_w]
          rfl
         refine pure_ (i:=3) (N:=some 19) (v:=?_) (a':=?_) #[true,true,true,true,false,false,false,false,false,false,false,false,false,false,false,false,false,false,false,false,false] rfl rfl (any_of HT_.out (by kernel_rfl)) (fun _ _ _ h=>h) (Or.inl ⟨by rfl,?_⟩) ?_ ?_
         rotate_left
         ·intro w'
          go_simp
          with_reducible rfl
         rotate_left
         ·simp only [Act.put,lA,l0',lS,i64_w,i32_w]
          rfl
         refine pure_ (i:=4) (N:=some 20) (v:=?_) (a':=?_) #[true,true,true,true,true,false,false,false,false,false,false,false,false,false,false,false,false,false,false,false,false] rfl rfl (any_of HT_.out (by kernel_rfl)) (fun _ _ _ h=>h) (Or.inl ⟨by rfl,?_⟩) ?_ ?_
         rotate_left
         ·intro w'
          go_simp
          with_reducible rfl
         rotate_left
         ·simp only [Act.put,lA,l0',lS,i64_w,i32_w]
          rfl
         refine pure_ (i:=5) (N:=some 21) (v:=?_) (a':=?_) #[true,true,true,true,true,true,false,false,false,false,false,false,false,false,false,false,false,false,false,false,false] rfl rfl (any_of HT_.out (by kernel_rfl)) (fun _ _ _ h=>h) (Or.inl ⟨by rfl,?_⟩) ?_ ?_
         rotate_left
         ·intro w'
          go_simp
          with_reducible rfl
         rotate_left
         ·simp only [Act.put,lA,l0',lS,i64_w,i32_w]
          rfl
         refine pure_ (i:=7) (N:=some 23) (v:=?_) (a':=?_) #[true,true,true,true,true,true,false,true,false,false,false,false,false,false,false,false,false,false,false,false,false] rfl rfl (any_of HT_.out (by kernel_rfl)) (fun _ _ _ h=>h) (Or.inl ⟨by rfl,?_⟩) ?_ ?_
         rotate_left
         ·intro w'
          go_simp
          with_reducible rfl
         rotate_left
         ·simp only [Act.put,lA,l0',lS,i64_w,i32_w]
          rfl
         refine pure_ (i:=9) (N:=some 25) (v:=?_) (a':=?_) #[true,true,true,true,true,true,false,true,false,true,false,false,false,false,false,false,false,false,false,false,false] rfl rfl (any_of HT_.out (by kernel_rfl)) (fun _ _ _ h=>h) (Or.inl ⟨by rfl,?_⟩) ?_ ?_
         rotate_left
         ·intro w'
          go_simp
          with_reducible rfl
         rotate_left
         ·simp only [Act.put,lA,l0',lS,i64_w,i32_w]
          rfl
         refine pure_ (i:=11) (N:=some 27) (v:=?_) (a':=?_) #[true,true,true,true,true,true,false,true,false,true,false,true,false,false,false,false,false,false,false,false,false] rfl rfl (any_of HT_.out (by kernel_rfl)) (fun _ _ _ h=>h) (Or.inl ⟨by rfl,?_⟩) ?_ ?_
         rotate_left
         ·intro w'
          go_simp
          with_reducible rfl
         rotate_left
         ·simp only [Act.put,lA,l0',lS,i64_w,i32_w]
          rfl
         refine pure_ (i:=12) (N:=some 28) (v:=?_) (a':=?_) #[true,true,true,true,true,true,false,true,false,true,false,true,true,false,false,false,false,false,false,false,false] rfl rfl (any_of HT_.out (by kernel_rfl)) (fun _ _ _ h=>h) (Or.inl ⟨by rfl,?_⟩) ?_ ?_
         rotate_left
         ·intro w'
          go_simp
          with_reducible rfl
         rotate_left
         ·simp only [Act.put,lA,l0',lS,i64_w,i32_w]
          rfl
         refine pure_ (i:=13) (N:=some 29) (v:=?_) (a':=?_) #[true,true,true,true,true,true,false,true,false,true,false,true,true,true,false,false,false,false,false,false,false] rfl rfl (any_of HT_.out (by kernel_rfl)) (fun _ _ _ h=>h) (Or.inl ⟨by rfl,?_⟩) ?_ ?_
         rotate_left
         ·intro w'
          go_simp
          with_reducible rfl
         rotate_left
         ·simp only [Act.put,lA,l0',lS,i64_w,i32_w]
          rfl
         refine take_ (i:=6) (N:=some 22) (v:=?_) (a':=?_) #[true,true,true,true,true,true,true,true,false,true,false,true,true,true,false,false,false,false,false,false,false] rfl rfl (take_ofW HT_.out HW_.out (by kernel_rfl)) (fun _ _ _ h=>h) (Or.inl ⟨by rfl,?_⟩) hHeld ?_ ?_
         rotate_left
         ·rintro w' ⟨s0,s1,s2,s3⟩
          go_simp
          with_reducible rfl
         rotate_left
         ·simp only [Act.put,lA,l0',lS,i64_w,i32_w]
          rfl
         refine take_ (i:=8) (N:=some 24) (v:=?_) (a':=?_) #[true,true,true,true,true,true,true,true,true,true,false,true,true,true,false,false,false,false,false,false,false] rfl rfl (take_ofW HT_.out HW_.out (by kernel_rfl)) (fun _ _ _ h=>h) (Or.inl ⟨by rfl,?_⟩) hHeld ?_ ?_
         rotate_left
         ·rintro w' ⟨s0,s1,s2,s3⟩
          go_simp
          with_reducible rfl
         rotate_left
         ·simp only [Act.put,lA,l0',lS,i64_w,i32_w]
          rfl
         refine take_ (i:=10) (N:=some 26) (v:=?_) (a':=?_) #[true,true,true,true,true,true,true,true,true,true,true,true,true,true,false,false,false,false,false,false,false] rfl rfl (take_ofW HT_.out HW_.out (by kernel_rfl)) (fun _ _ _ h=>h) (Or.inl ⟨by rfl,?_⟩) hHeld ?_ ?_
         rotate_left
         ·rintro w' ⟨s0,s1,s2,s3⟩
          go_simp
          with_reducible rfl
         rotate_left
         ·simp only [Act.put,lA,l0',lS,i64_w,i32_w]
          rfl
         refine pure_ (i:=14) (N:=some 30) (v:=?_) (a':=?_) #[true,true,true,true,true,true,true,true,true,true,true,true,true,true,true,false,false,false,false,false,false] rfl rfl (any_of HT_.out (by kernel_rfl)) (fun _ _ _ h=>h) (Or.inl ⟨by rfl,?_⟩) ?_ ?_
         rotate_left
         ·intro w'
          go_simp
          with_reducible rfl
         rotate_left
         ·simp only [Act.put,lA,l0',lS,i64_w,i32_w]
          rfl
         refine one_ (i:=15) (N:=some 31) #[true,true,true,true,true,true,true,true,true,true,true,true,true,true,true,true,false,false,false,false,false] rfl rfl (one_of HT_.out (by kernel_rfl)) (by decide) (fun K hK=>?_)
         refine goes_ Try.func91 (by kernel_rfl) rfl #[.int .i64 a0_0,.slice A18 ((l0_2.take ((wrap64 (x4_1 + 4)) : Int).toNat).drop (x4_1 : Int).toNat).length (c0_2 - x4_1.toNat)] (by rfl) rfl rfl (by (try simp only [List.map_toArray,List.map_cons,List.map_nil]);first|done|(rw [show ((l0_2.take ((wrap64 (x4_1 + 4)) : Int).toNat).drop (x4_1 : Int).toNat).length = ((wrap64 (x4_1 + 4)).toNat - x4_1.toNat) from (by rw [List.length_drop,List.length_take];have h_ : ((wrap64 (x4_1 + 4)) : Int) ≤ (l0_2.length : Int):=of_decide_eq_true (by first|(with_reducible assumption)|assumption);omega)] <;> rfl)|rfl|(simp only [List.length_drop,List.length_take];rfl)) ?_
         with_reducible refine (impl_best.calls k1 a0_0 _ _ ((l0_2.take ((wrap64 (x4_1 + 4)) : Int).toNat).drop (x4_1 : Int).toNat) t276 _ ?side1 ?side2 A13.out).mono ?_
         (case side1=>repeat (first|exact (Kd.C_below HR275.out HB.out)|(with_reducible refine Kd.C_alloc ?_ _)|(with_reducible refine Kd.C_drewN ?_ _)|(with_reducible refine Kd.C_drew ?_)))
         (case side2=>exact HC275.out)
         rintro e w' ⟨rfl,⟨nd,rfl⟩⟩
         refine ⟨_,rfl,?_⟩
         refine hK.out _ _ ⟨(bC BK270.out 0).trans rfl,(bC BK270.out 1).trans rfl,(bC BK270.out 2).trans rfl,hHeld.2.2.2⟩ (fun hHeld=>?_)
         clear hK K
         refine norm_ (a':=?_) ?_ ?_
         rotate_left
         ·show Act.put _ (some 31) _ = _
          simp only [Act.put,lA,l0',lS,i64_w,i32_w]
          rfl
         refine pure_ (i:=16) (N:=some 32) (v:=?_) (a':=?_) #[true,true,true,true,true,true,true,true,true,true,true,true,true,true,true,true,true,false,false,false,false] rfl rfl (any_of HT_.out (by kernel_rfl)) (fun _ _ _ h=>h) (Or.inl ⟨by rfl,?_⟩) ?_ ?_
         rotate_left
         ·intro w'
          go_simp
          with_reducible rfl
         rotate_left
         ·simp only [Act.put,lA,l0',lS,i64_w,i32_w]
          rfl
         refine pure_ (i:=17) (N:=some 33) (v:=?_) (a':=?_) #[true,true,true,true,true,true,true,true,true,true,true,true,true,true,true,true,true,true,false,false,false] rfl rfl (any_of HT_.out (by kernel_rfl)) (fun _ _ _ h=>h) (Or.inl ⟨by rfl,?_⟩) ?_ ?_
         rotate_left
         ·intro w'
          go_simp
          with_reducible rfl
         rotate_left
         ·simp only [Act.put,lA,l0',lS,i64_w,i32_w]
          rfl
         refine last_ (i:=18) (N:=some 34) #[true,true,true,true,true,true,true,true,true,true,true,true,true,true,true,true,true,true,true,false,false] rfl rfl (one_of HT_.out (by kernel_rfl)) (by decide) (fun K hK=>?_)
         refine value_ (w1:=?_) (v:=?_) (by rfl) rfl ?_ ?_
         rotate_left 2
         ·go_simp
          constructor
          ·rfl
          ·rfl
         refine hK.out _ _ ?_
         clear hK K
         refine norm_ (a':=?_) ?_ ?_
         rotate_left
         ·show Act.put _ (some 34) _ = _
          simp only [Act.put,lA,l0',lS,i64_w,i32_w]
          rfl
         refine last_ (i:=19) (N:=some 35) #[true,true,true,true,true,true,true,true,true,true,true,true,true,true,true,true,true,true,true,true,false] rfl rfl (one_of HT_.out (by kernel_rfl)) (by decide) (fun K hK=>?_)
         refine Kd.R_append_step (Kd.int .i64) (w0:=w) w.heap.size (by rfl) (.tmp 16) (.tmp 34) 22 2 (.int .i64 0) 8 rfl Try.underlying22 info2 rfl (by decide) (by omega) (.slice (some ad274) x3_1.length co17) x3_1 (Int.tmod (wrap64 ((rd x3_1 (ji7)) + t276)) 4) [.int .i64 (Int.tmod (wrap64 ((rd x3_1 (ji7)) + t276)) 4)] (fun _=>True) (fun _=>False) rfl rfl ?aP (fun _ hk=>hk.elim) ?aF ?aO ?aB ?aS ?aL ?_
         (case aP=>exact rfl)
         (case aB=>exact (bW HB.out))
         (case aF=>exact (fun _ _=>trivial))
         (case aO=>exact (rX HO_3.out))
         (case aS=>exact (below_size (bW HB.out)))
         (case aL=>have:=LMc14.out;omega)
         intro v278 w19 ho hb hg hat
         rw [← Ny277.out] at ho
         have n0_:=aK (blk_grown (g:=gb270) (o:=.cells #[.int .i64 a0_0,.int .i64 a0_1,.slice A0_2 l0_2.length c0_2] 27 (0,0)) (bX BK270.out) hg (Kd.R_ne HO_3.out BK270.out (by decide)))
         have n1_:=aK (hb)
         have n2_:=aK (ho)
         clear BK270
         clear HB
         clear HO_3
         have BK270:=n0_
         have HB:=n1_
         have HO279:=n2_
         clear n0_ n1_ n2_
         clear ho hb hg hat
         refine hK.out _ _ ?_
         clear hK K
         refine norm_ (a':=?_) ?_ ?_
         rotate_left
         ·show Act.put _ (some 35) _ = _
          simp only [Act.put,lA,l0',lS,i64_w,i32_w]
          rfl
         refine pure_ (i:=20) (N:=some 3) (v:=?_) (a':=?_) #[true,true,true,true,true,true,true,true,true,true,true,true,true,true,true,true,true,true,true,true,true] rfl rfl (any_of HT_.out (by kernel_rfl)) (fun _ _ _ h=>h) (Or.inl ⟨by rfl,?_⟩) ?_ ?_
         rotate_left
         ·intro w'
          go_simp
          with_reducible rfl
         rotate_left
         ·simp only [Act.put,lA,l0',lS,i64_w,i32_w]
          rfl
         refine done_ (done_of HT_.out (by kernel_rfl)) ?_
         try go_wp2
         go_roundg k1
         case measure=>have:=HK1.out;omega
         case rel=>exact ⟨(y277),(wrap64 (x4_1 + 4)),(by first|rfl|(simp;done)|(simp [*];done)),H',⟨by have:=HK1.out;omega⟩,⟨by (with_reducible repeat first|apply Kd.R_alloc|apply Kd.R_drewN|apply Kd.R_drew);exact HO279.out⟩,⟨by (with_reducible repeat first|apply bN|apply bD|apply bA);exact BK270.out⟩,⟨bW HB.out⟩⟩
        ·rw [if_neg c14] at H
         exact absurd H (by simp)
       ·rw [if_neg c11] at H
        exact absurd H (by simp)
      ·rw [if_neg c10] at H
       exact absurd H (by simp)
     ·rw [if_neg c9] at H
      exact absurd H (by simp)
    ·rw [if_neg c8] at H
     exact absurd H (by simp)
   ·rw [if_neg c6] at H
    have c6b0 : decide ((wrap64 (x4_1 + 4)) ≤ (l0_2.length : Int)) = false:=decide_eq_false c6
    clear c6
    obtain rfl:=Option.some.inj H
    have hcz20_0 : wr.cell? ⟨gb270,0,none⟩ = some (.int .i64 a0_0):=(bC BK270.out 0).trans rfl
    have hcz20_1 : wr.cell? ⟨gb270,1,none⟩ = some (.int .i64 a0_1):=(bC BK270.out 1).trans rfl
    have hcz20_2 : wr.cell? ⟨gb270,2,none⟩ = some (.slice A0_2 l0_2.length c0_2):=(bC BK270.out 2).trans rfl
    have hfz20_0:=blk_frozen BK270.out 0
    have hfz20_1:=blk_frozen BK270.out 1
    have hfz20_2:=blk_frozen BK270.out 2
    go_wp2
    go_ret
    exact ⟨_,by first|rfl|(simp [errW_none,errW_some] <;> rfl)|(simp [*,errW_none,errW_some] <;> rfl),by (with_reducible repeat first|apply Kd.R_alloc|apply Kd.R_drewN|apply Kd.R_drew);exact HO_3.out,bW HB.out⟩

/-! ### impl_seatOf: function 110 -/
def impl_seatOf.f (l0 : List Int) (a1 : Int) : Option (Int) := if 0 ≤ (wrap64 (Int.tdiv a1 4)) then (if (wrap64 (Int.tdiv a1 4)) < (l0.length : Int) then (some (Int.tmod (wrap64 ((rd l0 (wrap64 (Int.tdiv a1 4))) + (Int.tmod a1 4))) 4)) else (none)) else (none)
set_option maxHeartbeats 8000000 in
set_option maxRecDepth 100000 in
theorem impl_seatOf.calls (A0 : Option Addr) (c0 : Nat) (l0 : List Int) (a1 : Int) (r : Int) (w : World) (hr0 : Kd.C (Kd.int .i64) w A0 l0.length l0) (hc0 : l0.length ≤ c0) (h : impl_seatOf.f l0 a1 = some r) :
  Calls Try.prog 110 #[.slice A0 l0.length c0,.int .i64 a1] w fun e w'=>e = .returned (.int .i64 r) ∧ Drawn0 w w':=by
 have HR0:=aK hr0
 have HC0:=aK hc0
 clear hr0 hc0
 have H : (if 0 ≤ (wrap64 (Int.tdiv a1 4)) then (if (wrap64 (Int.tdiv a1 4)) < (l0.length : Int) then (some (Int.tmod (wrap64 ((rd l0 (wrap64 (Int.tdiv a1 4))) + (Int.tmod a1 4))) 4)) else (none)) else (none)) = some r:=h
 clear h
 obtain ⟨ji3,hji3⟩ : ∃ j_ : Int,(wrap64 (Int.tdiv a1 4)) = j_:=⟨_,rfl⟩
 replace H : (if 0 ≤ (ji3) then (if (ji3) < (l0.length : Int) then (some (Int.tmod (wrap64 ((rd l0 (ji3)) + (Int.tmod a1 4))) 4)) else (none)) else (none)) = some r:=by first|(rw [hji3] at H;exact H)|(simp only [hji3] at H ⊢;exact H)
 have hji3w : (IntKind.i64.wrap (Int.tdiv a1 4)) = ji3:=(i64_w _).trans hji3
 by_cases c4 : 0 ≤ (ji3)
 ·rw [if_pos c4] at H
  have c4b0 : decide (0 ≤ (ji3)) = true:=decide_eq_true c4
  clear c4
  by_cases c5 : (ji3) < (l0.length : Int)
  ·rw [if_pos c5] at H
   have c5b0 : decide ((ji3) < (l0.length : Int)) = true:=decide_eq_true c5
   clear c5
   obtain rfl:=Option.some.inj H
   have p280 : 0 ≤ ((ji3) : Int):=of_decide_eq_true (by first|(with_reducible assumption)|assumption)
   have q280 : (ji3) < (l0.length : Int):=of_decide_eq_true (by first|(with_reducible assumption)|assumption)
   obtain ⟨ad280,e280,hx280_0⟩:=Kd.at_int HR0.out (ji3) p280 q280
   cases e280
   replace p280:=eq_true p280
   replace q280:=eq_true q280
   go_enter Try.func110,Try.ntmps110
   go_wp2
   go_ret
   exact ⟨by first|rfl|(simp;done)|(simp only [← hji3] <;> (first|rfl|simp))|(simp [*];done),by repeat (first|exact Drawn0.refl _|apply Drawn0.step)⟩
  ·rw [if_neg c5] at H
   exact absurd H (by simp)
 ·rw [if_neg c4] at H
  exact absurd H (by simp)

/-! ### impl_ofSuit: function 147 -/
def impl_ofSuit.l0 : Nat → Int → List Int → List Int → Int → Int → Option (List Int)
 | 0,_,_,_,_,_=>none
 | k + 1,x1,x5,x9,x10,x11=>if x11 < x10 then (if 0 ≤ x11 then (if x11 < (x9.length : Int) then ((impl_suit.f (rd x9 x11)).bind fun t285=>(if t285 = x1 then (if x5.length < 17592186044416 then (impl_ofSuit.l0 k x1 (x5 ++ [rd x9 x11]) x9 x10 (wrap64 (x11 + 1))) else (none)) else (impl_ofSuit.l0 k x1 x5 x9 x10 (wrap64 (x11 + 1))))) else (none)) else (none)) else (some x5)
def impl_ofSuit.f (k : Nat) (l0 : List Int) (a1 : Int) : Option (List Int) := impl_ofSuit.l0 k a1 (([] : List Int)) l0 (l0.length : Int) 0
theorem impl_ofSuit.mono_l : ∀ k, (∀ y0 y1 y2 y3 y4, LeO (impl_ofSuit.l0 k y0 y1 y2 y3 y4) (impl_ofSuit.l0 (k + 1) y0 y1 y2 y3 y4))
 | 0=>fun _ _ _ _ _ r h=>by simp [impl_ofSuit.l0] at h
 | k + 1=>by
  have ih0:=impl_ofSuit.mono_l k
  ·intro y0 y1 y2 y3 y4
   unfold impl_ofSuit.l0
   repeat' first
   | (with_reducible exact ih0 _ _ _ _ _)
   | (with_reducible exact LeO.refl _)
   | (with_reducible exact LeO.none _)
   | (with_reducible refine LeO.ite ?_ ?_)
   | (with_reducible refine LeO.bind ?_ (fun _=>?_))
   | exact ih0 _ _ _ _ _
   | exact LeO.none _
   | refine LeO.ite ?_ ?_
   | refine LeO.bind ?_ (fun _=>?_)
theorem impl_ofSuit.mono : ∀ a0 a1 k, LeO (impl_ofSuit.f k a0 a1) (impl_ofSuit.f (k + 1) a0 a1) := by
 intro a0 a1 k
 have ih0:=impl_ofSuit.mono_l k
 unfold impl_ofSuit.f
 repeat' first
   | (with_reducible exact ih0 _ _ _ _ _)
   | (with_reducible exact LeO.refl _)
   | (with_reducible exact LeO.none _)
   | (with_reducible refine LeO.ite ?_ ?_)
   | (with_reducible refine LeO.bind ?_ (fun _=>?_))
   | exact ih0 _ _ _ _ _
   | exact LeO.none _
   | refine LeO.ite ?_ ?_
   | refine LeO.bind ?_ (fun _=>?_)
set_option maxHeartbeats 8000000 in
set_option maxRecDepth 100000 in
theorem impl_ofSuit.calls (k : Nat) (A0 : Option Addr) (c0 : Nat) (l0 : List Int) (a1 : Int) (r : List Int) (w : World) (hr0 : Kd.C (Kd.int .i64) w A0 l0.length l0) (hc0 : l0.length ≤ c0) (h : impl_ofSuit.f k l0 a1 = some r) :
  Calls Try.prog 147 #[.slice A0 l0.length c0,.int .i64 a1] w fun e w'=>∃ v0_ : Value,e = .returned (v0_) ∧ Kd.R (Kd.int .i64) 2 w' w.heap.size (fun _=>True) v0_ r ∧ Below w.heap.size w w':=by
 have HR0:=aK hr0
 have HC0:=aK hc0
 clear hr0 hc0
 have HB:=aK (Below.refl w.heap.size w)
 have H : (impl_ofSuit.l0 k a1 (([] : List Int)) l0 (l0.length : Int) 0) = some r:=h
 clear h
 obtain ⟨y281,hy281⟩ : ∃ y_ : List Int,y_ = (([] : List Int)):=⟨_,rfl⟩
 replace H : (impl_ofSuit.l0 k a1 y281 l0 (l0.length : Int) 0) = some r:=by first|(rw [hy281];with_reducible exact H)|(have H2_:=(Option.bind_some _ _).symm.trans H;rw [hy281];with_reducible exact H2_)|(have H2_:=(Option.bind_some _ _).symm.trans H;with_reducible exact H2_)|with_reducible exact H|(rw [hy281];exact H)|exact H
 have Ny281:=aK hy281
 clear hy281
 have H':=aK H
 clear H
 go_enter Try.func147,Try.ntmps147
 go_wp2_with (first|((with_reducible refine gate_dst (N:=8) rfl ?_);refine Kd.R_lit (Kd.int .i64) _ 2 ?hg (N:=8) ?hd (xs:=([] : List Int)) (inner:=[]) (ok:=fun _=>True) (okp:=fun _=>True) ?hr ?hp (fun _ hk=>hk) trivial (Below.refl _ _) (Nat.le_refl _) (by simp) ?_;(case hd=>rfl);(case hg=>rfl);(case hr=>first|(go_simp;done)|(go_simp;rfl));(case hp=>exact (Reps.none _ _));intro v282 w3 ho4 hb hg_ hnew_;clear hg_ hnew_;(first|rw [← Ny281.out] at ho4|(simp only [Int.reduceToNat] at ho4;rw [← Ny281.out] at ho4));have n0_:=aK (Kd.R_lower ho4 (below_size (bW HB.out)));have n1_:=aK (below_step (bW HB.out) hb);clear HB;have HO283:=n0_;have HB:=n1_;clear n0_ n1_;clear hb ho4))
 go_loopg [5,11] k (fun kq v5 v11 w'=>∃ (x5_1 : List Int) (x11_1 : Int),v11 = .int .i64 x11_1 ∧ Aside0 (impl_ofSuit.l0 kq a1 x5_1 l0 (l0.length : Int) x11_1 = some r) ∧ Aside0 (kq ≤ k) ∧ Aside0 (Kd.R (Kd.int .i64) 2 w' w.heap.size (fun _=>True) v5 x5_1) ∧ Aside0 (Below w.heap.size w w'))
 case atStart=>exact ⟨(y281),(0),(by first|rfl|(simp;done)|(simp [*];done)),H',⟨Nat.le_refl _⟩,⟨by (with_reducible repeat first|apply Kd.R_alloc|apply Kd.R_drewN|apply Kd.R_drew);exact HO283.out⟩,⟨bW HB.out⟩⟩
 case round =>
  clear H'
  try clear c1
  try clear p2
  obtain ⟨x5_1,x11_1,rfl,HA,HK1,HO_5,HB⟩:=hrel
  cases gk with
  | zero=>exact absurd HA.out (by simp [impl_ofSuit.l0])
  | succ k1 =>
   have H:=HA.out
   clear HA
   simp only [impl_ofSuit.l0] at H
   by_cases c5 : x11_1 < (l0.length : Int)
   ·rw [if_pos c5] at H
    have c5b0 : decide (x11_1 < (l0.length : Int)) = true:=decide_eq_true c5
    clear c5
    by_cases c6 : 0 ≤ x11_1
    ·rw [if_pos c6] at H
     have c6b0 : decide (0 ≤ x11_1) = true:=decide_eq_true c6
     clear c6
     by_cases c7 : x11_1 < (l0.length : Int)
     ·rw [if_pos c7] at H
      have c7b0 : decide (x11_1 < (l0.length : Int)) = true:=decide_eq_true c7
      clear c7
      replace H:=Option.bind_eq_some_iff.mp H
      obtain ⟨t285,A80,H⟩:=H
      replace H : (if t285 = a1 then (if x5_1.length < 17592186044416 then (impl_ofSuit.l0 k1 a1 (x5_1 ++ [rd l0 x11_1]) l0 (l0.length : Int) (wrap64 (x11_1 + 1))) else (none)) else (impl_ofSuit.l0 k1 a1 x5_1 l0 (l0.length : Int) (wrap64 (x11_1 + 1)))) = some r:=H
      have A8:=aK A80
      clear A80
      by_cases c9 : t285 = a1
      ·rw [if_pos c9] at H
       have c9b0 : (t285 == a1) = true:=beq_iff_eq.mpr c9
       have c9b1 : (t285 != a1) = false:=bne_eq_false_iff_eq.mpr c9
       clear c9
       by_cases c10 : x5_1.length < 17592186044416
       ·rw [if_pos c10] at H
        have LMc10:=aK c10
        clear c10
        obtain ⟨y286,hy286⟩ : ∃ y_ : List Int,y_ = (x5_1 ++ [rd l0 x11_1]):=⟨_,rfl⟩
        replace H : (impl_ofSuit.l0 k1 a1 y286 l0 (l0.length : Int) (wrap64 (x11_1 + 1))) = some r:=by first|(rw [hy286];with_reducible exact H)|(have H2_:=(Option.bind_some _ _).symm.trans H;rw [hy286];with_reducible exact H2_)|(have H2_:=(Option.bind_some _ _).symm.trans H;with_reducible exact H2_)|with_reducible exact H|(rw [hy286];exact H)|exact H
        have Ny286:=aK hy286
        clear hy286
        have H':=aK H
        clear H
        have p284 : 0 ≤ (x11_1 : Int):=of_decide_eq_true (by first|(with_reducible assumption)|assumption)
        have q284 : x11_1 < (l0.length : Int):=of_decide_eq_true (by first|(with_reducible assumption)|assumption)
        obtain ⟨ad284,e284,hx284_0⟩:=Kd.at_int HR0.out x11_1 p284 q284
        cases e284
        replace hx284_0:=(HB.out.cell (World.block_lt_of_cell? w _ hx284_0)).trans hx284_0
        replace p284:=eq_true p284
        replace q284:=eq_true q284
        go_wp2_with (first|((with_reducible refine gate_callee (f:=137) rfl ?_);refine goesL_ (some 16) rfl rfl Try.func137 (by kernel_rfl) rfl #[.int .i64 (rd l0 x11_1)] rfl (by (try simp only [mA,mC,mN]);first|done|rfl) ?_;(with_reducible refine (impl_suit.calls (rd l0 x11_1) t285 _ A8.out).mono ?_);rintro e w' ⟨rfl,⟨nd,rfl⟩⟩;refine ⟨_,rfl,?_⟩)|((with_reducible refine gate_builtin (b:=.append) (xs:=#[.tmp 19,.tmp 21]) rfl ?_);at_builtin;refine Kd.R_append (Kd.int .i64) (w0:=w) w.heap.size rfl (.tmp 19) (.tmp 21) 22 2 (.int .i64 0) 8 rfl Try.underlying22 info2 rfl (by decide) (by omega) u5 x5_1 (rd l0 x11_1) [.int .i64 (rd l0 x11_1)] (fun _=>True) (fun _=>False) rfl rfl ?aP (fun _ hk=>hk.elim) ?aF ?aO ?aB ?aS ?aL ?_;(case aP=>exact rfl);(case aB=>exact (bW HB.out));(case aF=>exact (fun _ _=>trivial));(case aO=>exact (rX HO_5.out));(case aS=>exact (below_size (bW HB.out)));(case aL=>have:=LMc10.out;omega);intro v287 w11 ho hb hg hat;rw [← Ny286.out] at ho;have n0_:=aK (hb);have n1_:=aK (ho);clear HB;clear HO_5;have HB:=n0_;have HO288:=n1_;clear n0_ n1_;clear ho hb hg hat))
        go_roundg k1
        case measure=>have:=HK1.out;omega
        case rel=>exact ⟨(y286),(wrap64 (x11_1 + 1)),(by first|rfl|(simp;done)|(simp [*];done)),H',⟨by have:=HK1.out;omega⟩,⟨by (with_reducible repeat first|apply Kd.R_alloc|apply Kd.R_drewN|apply Kd.R_drew);exact HO288.out⟩,⟨bW HB.out⟩⟩
       ·rw [if_neg c10] at H
        exact absurd H (by simp)
      ·rw [if_neg c9] at H
       have c9b0 : (t285 == a1) = false:=beq_eq_false_iff_ne.mpr c9
       have c9b1 : (t285 != a1) = true:=bne_iff_ne.mpr c9
       have H':=aK H
       clear H
       have p284 : 0 ≤ (x11_1 : Int):=of_decide_eq_true (by first|(with_reducible assumption)|assumption)
       have q284 : x11_1 < (l0.length : Int):=of_decide_eq_true (by first|(with_reducible assumption)|assumption)
       obtain ⟨ad284,e284,hx284_0⟩:=Kd.at_int HR0.out x11_1 p284 q284
       cases e284
       replace hx284_0:=(HB.out.cell (World.block_lt_of_cell? w _ hx284_0)).trans hx284_0
       replace p284:=eq_true p284
       replace q284:=eq_true q284
       go_wp2_with (first|((with_reducible refine gate_callee (f:=137) rfl ?_);refine goesL_ (some 16) rfl rfl Try.func137 (by kernel_rfl) rfl #[.int .i64 (rd l0 x11_1)] rfl (by (try simp only [mA,mC,mN]);first|done|rfl) ?_;(with_reducible refine (impl_suit.calls (rd l0 x11_1) t285 _ A8.out).mono ?_);rintro e w' ⟨rfl,⟨nd,rfl⟩⟩;refine ⟨_,rfl,?_⟩))
       go_roundg k1
       case measure=>have:=HK1.out;omega
       case rel=>exact ⟨(x5_1),(wrap64 (x11_1 + 1)),(by first|rfl|(simp;done)|(simp [*];done)),H',⟨by have:=HK1.out;omega⟩,⟨by (with_reducible repeat first|apply Kd.R_alloc|apply Kd.R_drewN|apply Kd.R_drew);exact HO_5.out⟩,⟨bW HB.out⟩⟩
     ·rw [if_neg c7] at H
      exact absurd H (by simp)
    ·rw [if_neg c6] at H
     exact absurd H (by simp)
   ·rw [if_neg c5] at H
    have c5b0 : decide (x11_1 < (l0.length : Int)) = false:=decide_eq_false c5
    clear c5
    obtain rfl:=Option.some.inj H
    go_wp2
    go_ret
    exact ⟨_,by first|rfl|(simp [errW_none,errW_some] <;> rfl)|(simp [*,errW_none,errW_some] <;> rfl),by (with_reducible repeat first|apply Kd.R_alloc|apply Kd.R_drewN|apply Kd.R_drew);exact HO_5.out,bW HB.out⟩

/-! ### impl_follow: function 116 -/
def impl_follow.f (k : Nat) (l0 : List Int) (l1 : List Int) : Option (List Int) := if (l1.length : Int) > 0 then (if 0 < (l1.length : Int) then ((impl_suit.f (rd l1 0)).bind fun t290 => ((impl_ofSuit.f k l0 t290).bind fun t291 => (if (t291.length : Int) > 0 then (some t291) else (some l0)))) else (none)) else (some l0)
theorem impl_follow.mono : ∀ a0 a1 k, LeO (impl_follow.f k a0 a1) (impl_follow.f (k + 1) a0 a1) := by
 intro a0 a1 k
 unfold impl_follow.f
 repeat' first
   | (with_reducible exact impl_ofSuit.mono _ _ _)
   | (with_reducible exact LeO.refl _)
   | (with_reducible exact LeO.none _)
   | (with_reducible refine LeO.ite ?_ ?_)
   | (with_reducible refine LeO.bind ?_ (fun _=>?_))
   | exact impl_ofSuit.mono _ _ _
   | exact LeO.none _
   | refine LeO.ite ?_ ?_
   | refine LeO.bind ?_ (fun _=>?_)
set_option maxHeartbeats 8000000 in
set_option maxRecDepth 100000 in
theorem impl_follow.calls (k : Nat) (P0_ : Nat → Prop) (A0 : Option Addr) (c0 : Nat) (l0 : List Int) (A1 : Option Addr) (c1 : Nat) (l1 : List Int) (r : List Int) (w : World) (hs0 : Kd.V (Kd.int .i64) 2 w w.heap.size (fun k_ => P0_ k_) (.slice A0 l0.length c0) l0) (hr1 : Kd.C (Kd.int .i64) w A1 l1.length l1) (hc1 : l1.length ≤ c1) (h : impl_follow.f k l0 l1 = some r) :
  Calls Try.prog 116 #[.slice A0 l0.length c0,.slice A1 l1.length c1] w fun e w'=>∃ v0_ : Value,e = .returned (v0_) ∧ Kd.V (Kd.int .i64) 2 w' w.heap.size (fun k_=>(P0_ k_ ∨ w.heap.size ≤ k_)) v0_ r ∧ Below w.heap.size w w':=by
 have HO0:=aK (show Kd.V (Kd.int .i64) 2 w w.heap.size (fun k_=>(P0_ k_ ∨ w.heap.size ≤ k_)) (.slice A0 l0.length c0) l0 from Kd.V_mono hs0 (fun k_ hk=>.inl hk))
 have HR1:=aK hr1
 have HC1:=aK hc1
 clear hr1 hc1
 have HB:=aK (Below.refl w.heap.size w)
 have H : (if (l1.length : Int) > 0 then (if 0 < (l1.length : Int) then ((impl_suit.f (rd l1 0)).bind fun t290=>((impl_ofSuit.f k l0 t290).bind fun t291=>(if (t291.length : Int) > 0 then (some t291) else (some l0)))) else (none)) else (some l0)) = some r:=h
 clear h
 by_cases c3 : (l1.length : Int) > 0
 ·rw [if_pos c3] at H
  have c3b0 : decide (0 < (l1.length : Int)) = true:=decide_eq_true c3
  have c3b1 : decide (0 < l1.length) = true:=decide_eq_true (by omega)
  clear c3
  by_cases c4 : 0 < (l1.length : Int)
  ·rw [if_pos c4] at H
   have c4b0 : decide (0 < (l1.length : Int)) = true:=decide_eq_true c4
   have c4b1 : decide (0 < l1.length) = true:=decide_eq_true (by omega)
   clear c4
   replace H:=Option.bind_eq_some_iff.mp H
   obtain ⟨t290,A50,H⟩:=H
   replace H : ((impl_ofSuit.f k l0 t290).bind fun t291=>(if (t291.length : Int) > 0 then (some t291) else (some l0))) = some r:=H
   have A5:=aK A50
   clear A50
   replace H:=Option.bind_eq_some_iff.mp H
   obtain ⟨t291,A60,H⟩:=H
   replace H : (if (t291.length : Int) > 0 then (some t291) else (some l0)) = some r:=H
   have A6:=aK A60
   clear A60
   by_cases c7 : (t291.length : Int) > 0
   ·rw [if_pos c7] at H
    have c7b0 : decide (0 < (t291.length : Int)) = true:=decide_eq_true c7
    have c7b1 : decide (0 < t291.length) = true:=decide_eq_true (by omega)
    clear c7
    obtain rfl:=Option.some.inj H
    have p289 : 0 ≤ (0 : Int):=(by omega)
    have q289 : 0 < (l1.length : Int):=of_decide_eq_true (by first|(with_reducible assumption)|assumption)
    obtain ⟨ad289,e289,hx289_0⟩:=Kd.at_int HR1.out 0 p289 q289
    cases e289
    have qi289 : (0 < l1.length) = True:=eq_true (by omega)
    (try rw [show ((0 : Int)).toNat = 0 from rfl] at hx289_0)
    (try rw [Addr.add_zero'] at hx289_0)
    replace p289:=eq_true p289
    replace q289:=eq_true q289
    go_enter Try.func116,Try.ntmps116
    go_wp2_with (first|((with_reducible refine gate_callee (f:=137) rfl ?_);refine goesL_ (some 13) rfl rfl Try.func137 (by kernel_rfl) rfl #[.int .i64 (rd l1 0)] rfl (by (try simp only [mA,mC,mN]);first|done|rfl) ?_;(with_reducible refine (impl_suit.calls (rd l1 0) t290 _ A5.out).mono ?_);rintro e w' ⟨rfl,⟨nd,rfl⟩⟩;refine ⟨_,rfl,?_⟩)|((with_reducible refine gate_callee (f:=147) rfl ?_);refine goesL_ (some 14) rfl rfl Try.func147 (by kernel_rfl) rfl #[.slice A0 l0.length c0,.int .i64 t290] rfl (by (try simp only [mA,mC,mN]);first|done|rfl) ?_;(with_reducible refine (impl_ofSuit.calls k _ _ l0 t290 t291 _ ?side1 ?side2 A6.out).mono ?_);(case side1=>repeat (first|exact (Kd.V_reads' HO0.out).2.2|(with_reducible refine Kd.C_alloc ?_ _)|(with_reducible refine Kd.C_drewN ?_ _)|(with_reducible refine Kd.C_drew ?_)));(case side2=>exact (Kd.V_reads' HO0.out).2.1);rintro e w8 ⟨v292,rfl,ho0,hb⟩;refine ⟨_,rfl,?_⟩;have n0_:=aK (Kd.V_elder' (vX HO0.out) (Kd.R_base ho0) hb);have n1_:=aK (Kd.R_lower (Kd.R_newM (M:=fun k_=>(w.heap.size ≤ k_)) ho0 (below_size (bW HB.out)) (fun k_ h_=>h_)) (below_size (bW HB.out)));have n2_:=aK (below_step (bW HB.out) hb);clear HO0;clear HB;have HO0:=n0_;have HO293:=n1_;have HB:=n2_;clear n0_ n1_ n2_;(try clear hb);(try clear hb2);(try clear hk);(try clear hi);(try clear ho0);obtain ⟨Ao9,co9,eo9⟩:=Kd.R_slice HO293.out;subst eo9))
    go_ret
    exact ⟨_,by first|rfl|(simp [errW_none,errW_some] <;> rfl)|(simp [*,errW_none,errW_some] <;> rfl),Kd.V_mono (Kd.R_V (by (with_reducible repeat first|apply Kd.R_alloc|apply Kd.R_drewN|apply Kd.R_drew);exact Kd.R_mono HO293.out (fun _ hk=>hk.1))) (fun k_ hk=>by first|exact ⟨(.inr (hk.1)),hk.2⟩|exact (.inr (hk))),bW HB.out⟩
   ·rw [if_neg c7] at H
    have c7b0 : decide (0 < (t291.length : Int)) = false:=decide_eq_false c7
    have c7b1 : decide (0 < t291.length) = false:=decide_eq_false (by omega)
    clear c7
    obtain rfl:=Option.some.inj H
    have p289 : 0 ≤ (0 : Int):=(by omega)
    have q289 : 0 < (l1.length : Int):=of_decide_eq_true (by first|(with_reducible assumption)|assumption)
    obtain ⟨ad289,e289,hx289_0⟩:=Kd.at_int HR1.out 0 p289 q289
    cases e289
    have qi289 : (0 < l1.length) = True:=eq_true (by omega)
    (try rw [show ((0 : Int)).toNat = 0 from rfl] at hx289_0)
    (try rw [Addr.add_zero'] at hx289_0)
    replace p289:=eq_true p289
    replace q289:=eq_true q289
    go_enter Try.func116,Try.ntmps116
    go_wp2_with (first|((with_reducible refine gate_callee (f:=137) rfl ?_);refine goesL_ (some 13) rfl rfl Try.func137 (by kernel_rfl) rfl #[.int .i64 (rd l1 0)] rfl (by (try simp only [mA,mC,mN]);first|done|rfl) ?_;(with_reducible refine (impl_suit.calls (rd l1 0) t290 _ A5.out).mono ?_);rintro e w' ⟨rfl,⟨nd,rfl⟩⟩;refine ⟨_,rfl,?_⟩)|((with_reducible refine gate_callee (f:=147) rfl ?_);refine goesL_ (some 14) rfl rfl Try.func147 (by kernel_rfl) rfl #[.slice A0 l0.length c0,.int .i64 t290] rfl (by (try simp only [mA,mC,mN]);first|done|rfl) ?_;(with_reducible refine (impl_ofSuit.calls k _ _ l0 t290 t291 _ ?side1 ?side2 A6.out).mono ?_);(case side1=>repeat (first|exact (Kd.V_reads' HO0.out).2.2|(with_reducible refine Kd.C_alloc ?_ _)|(with_reducible refine Kd.C_drewN ?_ _)|(with_reducible refine Kd.C_drew ?_)));(case side2=>exact (Kd.V_reads' HO0.out).2.1);rintro e w10 ⟨v292,rfl,ho0,hb⟩;refine ⟨_,rfl,?_⟩;have n0_:=aK (Kd.V_elder' (vX HO0.out) (Kd.R_base ho0) hb);have n1_:=aK (Kd.R_lower (Kd.R_newM (M:=fun k_=>(w.heap.size ≤ k_)) ho0 (below_size (bW HB.out)) (fun k_ h_=>h_)) (below_size (bW HB.out)));have n2_:=aK (below_step (bW HB.out) hb);clear HO0;clear HB;have HO0:=n0_;have HO293:=n1_;have HB:=n2_;clear n0_ n1_ n2_;(try clear hb);(try clear hb2);(try clear hk);(try clear hi);(try clear ho0);obtain ⟨Ao11,co11,eo11⟩:=Kd.R_slice HO293.out;subst eo11))
    go_ret
    exact ⟨_,by first|rfl|(simp [errW_none,errW_some] <;> rfl)|(simp [*,errW_none,errW_some] <;> rfl),by (with_reducible repeat first|apply Kd.V_alloc|apply Kd.V_drewN|apply Kd.V_drew);exact Kd.V_mono HO0.out (fun _ hk=>hk.1),bW HB.out⟩
  ·rw [if_neg c4] at H
   exact absurd H (by simp)
 ·rw [if_neg c3] at H
  have c3b0 : decide (0 < (l1.length : Int)) = false:=decide_eq_false c3
  have c3b1 : decide (0 < l1.length) = false:=decide_eq_false (by omega)
  clear c3
  obtain rfl:=Option.some.inj H
  go_enter Try.func116,Try.ntmps116
  go_wp2
  go_ret
  exact ⟨_,by first|rfl|(simp [errW_none,errW_some] <;> rfl)|(simp [*,errW_none,errW_some] <;> rfl),by (with_reducible repeat first|apply Kd.V_alloc|apply Kd.V_drewN|apply Kd.V_drew);exact HO0.out,bW HB.out⟩

/-! ### impl_trickAt: function 117 -/
def impl_trickAt.f (l0 : List Int) : Option (List Int) := if 0 ≤ (wrap64 ((wrap64 ((l0.length : Int) / 4)) * 4)) then (if (wrap64 ((wrap64 ((l0.length : Int) / 4)) * 4)) ≤ (l0.length : Int) then (some (l0.drop ((wrap64 ((wrap64 ((l0.length : Int) / 4)) * 4)) : Int).toNat)) else (none)) else (none)
set_option maxHeartbeats 8000000 in
set_option maxRecDepth 100000 in
theorem impl_trickAt.calls (P0_ : Nat → Prop) (A0 : Option Addr) (c0 : Nat) (l0 : List Int) (r : List Int) (w : World) (hs0 : Kd.V (Kd.int .i64) 2 w w.heap.size (fun k_ => P0_ k_) (.slice A0 l0.length c0) l0) (h : impl_trickAt.f l0 = some r) :
  Calls Try.prog 117 #[.slice A0 l0.length c0] w fun e w'=>∃ v0_ : Value,e = .returned (v0_) ∧ Kd.V (Kd.int .i64) 2 w' w.heap.size (fun k_=>(P0_ k_ ∨ w.heap.size ≤ k_)) v0_ r ∧ Below w.heap.size w w':=by
 have HO0:=aK (show Kd.V (Kd.int .i64) 2 w w.heap.size (fun k_=>(P0_ k_ ∨ w.heap.size ≤ k_)) (.slice A0 l0.length c0) l0 from Kd.V_mono hs0 (fun k_ hk=>.inl hk))
 have HB:=aK (Below.refl w.heap.size w)
 have H : (if 0 ≤ (wrap64 ((wrap64 ((l0.length : Int) / 4)) * 4)) then (if (wrap64 ((wrap64 ((l0.length : Int) / 4)) * 4)) ≤ (l0.length : Int) then (some (l0.drop ((wrap64 ((wrap64 ((l0.length : Int) / 4)) * 4)) : Int).toNat)) else (none)) else (none)) = some r:=h
 clear h
 obtain ⟨ji2,hji2⟩ : ∃ j_ : Int,(wrap64 ((wrap64 ((l0.length : Int) / 4)) * 4)) = j_:=⟨_,rfl⟩
 replace H : (if 0 ≤ (ji2) then (if (ji2) ≤ (l0.length : Int) then (some (l0.drop ((ji2) : Int).toNat)) else (none)) else (none)) = some r:=by first|(rw [hji2] at H;exact H)|(simp only [hji2] at H ⊢;exact H)
 have hji2w : (IntKind.i64.wrap ((wrap64 ((l0.length : Int) / 4)) * 4)) = ji2:=(i64_w _).trans hji2
 by_cases c3 : 0 ≤ (ji2)
 ·rw [if_pos c3] at H
  have c3b0:=eq_true c3
  have c3b1 : decide (0 ≤ (ji2)) = true:=decide_eq_true c3
  clear c3
  by_cases c4 : (ji2) ≤ (l0.length : Int)
  ·rw [if_pos c4] at H
   have c4b0:=eq_true c4
   have c4b1 : decide ((ji2) ≤ (l0.length : Int)) = true:=decide_eq_true c4
   clear c4
   obtain ⟨y294,hy294⟩ : ∃ y_ : List Int,y_ = (l0.drop ((ji2) : Int).toNat):=⟨_,rfl⟩
   replace H : (some y294) = some r:=by first|(rw [hy294];with_reducible exact H)|(have H2_:=(Option.bind_some _ _).symm.trans H;rw [hy294];with_reducible exact H2_)|(have H2_:=(Option.bind_some _ _).symm.trans H;with_reducible exact H2_)|with_reducible exact H|(rw [hy294];exact H)|exact H
   have Ny294:=aK hy294
   clear hy294
   obtain rfl:=Option.some.inj H
   have q5 : ((ji2) : Int) ≤ ((l0.length : Int) : Int):=of_decide_eq_true (by first|(with_reducible assumption)|assumption)
   obtain ⟨i05,hi05,_,hsz5,_⟩:=info_parts info2
   have hroom5 : l0.length ≤ c0:=(Kd.V_reads' HO0.out).2.1
   have hC5 : Kd.F (Kd.int .i64) _ _ A0 l0.length l0:=(Kd.V_at (base:=w.heap.size) HO0.out).2.2
   have q05 : (0 : Int) ≤ ((ji2) : Int):=of_decide_eq_true (by first|(with_reducible assumption)|assumption)
   have hcut5:=cut_from (P:=Try.prog) 22 2 .i64 Try.underlying22 hi05 1 hsz5 A0 l0.length c0 (ji2) q05 q5
   have hr5:=Kd.F_cut (m:=((ji2) : Int).toNat) (c:=c0) hC5 (by omega) hroom5
   obtain ⟨A5,hA5⟩ : ∃ A1,A1 = (if c0 = ((ji2) : Int).toNat then A0 else (A0 : Option Addr).map (·.add (((ji2) : Int).toNat * 1))):=⟨_,rfl⟩
   obtain ⟨c5,hc5⟩ : ∃ c1,c1 = c0 - ((ji2) : Int).toNat:=⟨_,rfl⟩
   have hy5 : y294.length = l0.length - ((ji2) : Int).toNat:=(by rw [Ny294.out,List.length_drop] <;> omega)
   rw [show (l0).drop ((ji2) : Int).toNat = y294 from Ny294.out.symm] at hr5
   replace hr5 : Kd.F (Kd.int .i64) _ _ A5 y294.length y294:=(by rw [hA5];exact hr5)
   rw [← hy5,← hA5,← hc5] at hcut5
   have HO298:=aK (show Kd.V (Kd.int .i64) 2 _ w.heap.size _ (.slice A5 y294.length c5) y294 from Kd.V_mk (by rw [hy5,hc5];exact Nat.sub_le_sub_right hroom5 _) hr5)
   have HC298:=aK (show y294.length ≤ c5 from by rw [hy5,hc5];exact Nat.sub_le_sub_right hroom5 _)
   clear hr5 hC5 hroom5 hi05 hsz5 hc5
   have KY5:=aK hy5
   have KA5:=aK hA5
   clear hy5 hA5
   replace q5:=eq_true q5
   go_enter Try.func117,Try.ntmps117
   go_wp2
   go_ret
   exact ⟨_,by first|rfl|(simp [errW_none,errW_some] <;> rfl)|(simp only [← hji2];first|rfl|(simp [errW_none,errW_some] <;> rfl))|(simp [*,errW_none,errW_some] <;> rfl),by (with_reducible repeat first|apply Kd.V_alloc|apply Kd.V_drewN|apply Kd.V_drew);exact HO298.out,bW HB.out⟩
  ·rw [if_neg c4] at H
   exact absurd H (by simp)
 ·rw [if_neg c3] at H
  exact absurd H (by simp)

end Go.Proofs.Ytakepkjcmgcepaa.QFnExactIsClaim
