/- The functions that the law FnExactIsClaim reaches, as plain functions, and the walks that show that the machine's calls answer so. Written by a program of this session (wip/myprint.py) on the kit's print. -/
import Derived.Test.YtakepkjcmgcepaaQFnExactIsClaimx0
import Derived.Test.YtakepkjcmgcepaaQFnExactIsClaimx2
namespace Go.Proofs.Ytakepkjcmgcepaa.QFnExactIsClaim
open Go.RowKit Go.Proofs.YtakepkjcmgcepaaW.PrintWords Go.Proofs.YtakepkjcmgcepaaW.PrintLast Go.Proofs.YtakepkjcmgcepaaW.PrintMore
attribute [local go_sem] max2_int min2_int max_two min_two max_three min_three max_four min_four   -- for this text's walks alone
set_option linter.unusedVariables false
set_option linter.unusedSimpArgs false

/-! ### spec_l08Winner: function 133 -/
def spec_l08Winner.l0 : Nat → Int → Int → List Int → Int → Int → Option (Int)
 | 0,_,_,_,_,_=>none
 | k + 1,x0,x1,x2,x7,x8=>if x8 < (x2.length : Int) then (if 0 ≤ x7 then (if x7 < (x2.length : Int) then (if 0 ≤ x8 then (if (wrap64 (Int.tdiv (rd x2 x7) 13)) = (wrap64 (Int.tdiv (rd x2 x8) 13)) then (if (rd x2 x8) > (rd x2 x7) then (spec_l08Winner.l0 k x0 x1 x2 x8 (wrap64 (x8 + 1))) else (spec_l08Winner.l0 k x0 x1 x2 x7 (wrap64 (x8 + 1)))) else (if (wrap64 (Int.tdiv (rd x2 x8) 13)) = x0 then (spec_l08Winner.l0 k x0 x1 x2 x8 (wrap64 (x8 + 1))) else (spec_l08Winner.l0 k x0 x1 x2 x7 (wrap64 (x8 + 1))))) else (none)) else (none)) else (none)) else (some (Int.tmod (wrap64 (x1 + x7)) 4))
def spec_l08Winner.f (k : Nat) (a0 : Int) (a1 : Int) (l2 : List Int) : Option (Int) := spec_l08Winner.l0 k a0 a1 l2 0 1
theorem spec_l08Winner.mono_l : ∀ k, (∀ y0 y1 y2 y3 y4, LeO (spec_l08Winner.l0 k y0 y1 y2 y3 y4) (spec_l08Winner.l0 (k + 1) y0 y1 y2 y3 y4))
 | 0=>fun _ _ _ _ _ r h=>by simp [spec_l08Winner.l0] at h
 | k + 1=>by
  have ih0:=spec_l08Winner.mono_l k
  ·intro y0 y1 y2 y3 y4
   unfold spec_l08Winner.l0
   repeat' first
   | (with_reducible exact ih0 _ _ _ _ _)
   | (with_reducible exact LeO.refl _)
   | (with_reducible exact LeO.none _)
   | (with_reducible refine LeO.ite ?_ ?_)
   | (with_reducible refine LeO.bind ?_ (fun _=>?_))
   | exact ih0 _ _ _ _ _
   | exact LeO.none _
   | refine LeO.ite ?_ ?_
   | refine LeO.bind ?_ (fun _=>?_)
theorem spec_l08Winner.mono : ∀ a0 a1 a2 k, LeO (spec_l08Winner.f k a0 a1 a2) (spec_l08Winner.f (k + 1) a0 a1 a2) := by
 intro a0 a1 a2 k
 have ih0:=spec_l08Winner.mono_l k
 unfold spec_l08Winner.f
 repeat' first
   | (with_reducible exact ih0 _ _ _ _ _)
   | (with_reducible exact LeO.refl _)
   | (with_reducible exact LeO.none _)
   | (with_reducible refine LeO.ite ?_ ?_)
   | (with_reducible refine LeO.bind ?_ (fun _=>?_))
   | exact ih0 _ _ _ _ _
   | exact LeO.none _
   | refine LeO.ite ?_ ?_
   | refine LeO.bind ?_ (fun _=>?_)
set_option maxHeartbeats 8000000 in
set_option maxRecDepth 100000 in
theorem spec_l08Winner.calls (k : Nat) (a0 : Int) (a1 : Int) (A2 : Option Addr) (c2 : Nat) (l2 : List Int) (r : Int) (w : World) (hr2 : Kd.C (Kd.int .i64) w A2 l2.length l2) (hc2 : l2.length ≤ c2) (h : spec_l08Winner.f k a0 a1 l2 = some r) :
  Calls Try.prog 133 #[.int .i64 a0,.int .i64 a1,.slice A2 l2.length c2] w fun e w'=>e = .returned (.int .i64 r) ∧ Drawn0 w w':=by
 have HR2:=aK hr2
 have HC2:=aK hc2
 clear hr2 hc2
 have H : (spec_l08Winner.l0 k a0 a1 l2 0 1) = some r:=h
 clear h
 have H':=aK H
 clear H
 go_enter Try.func133,Try.ntmps133
 go_wp2
 repeat (go_quiet (fail);try go_wp2)
 go_loopg [7,8] k (fun kq v7 v8 w'=>∃ (x7_1 : Int) (x8_1 : Int),v7 = .int .i64 x7_1 ∧ v8 = .int .i64 x8_1 ∧ Aside0 (spec_l08Winner.l0 kq a0 a1 l2 x7_1 x8_1 = some r) ∧ Aside0 (kq ≤ k) ∧ Drawn0 w w')
 case atStart=>exact ⟨(0),(1),(by first|rfl|(simp;done)|(simp [*];done)),(by first|rfl|(simp;done)|(simp [*];done)),H',⟨Nat.le_refl _⟩,by repeat (first|exact Drawn0.refl _|apply Drawn0.step)⟩
 case round =>
  clear H'
  try clear c1
  try clear c2
  try clear p2
  obtain ⟨x7_1,x8_1,rfl,rfl,HA,HK1,⟨m1,rfl⟩⟩:=hrel
  cases gk with
  | zero=>exact absurd HA.out (by simp [spec_l08Winner.l0])
  | succ k1 =>
   have H:=HA.out
   clear HA
   simp only [spec_l08Winner.l0] at H
   by_cases c4 : x8_1 < (l2.length : Int)
   ·rw [if_pos c4] at H
    have c4b0 : decide (x8_1 < (l2.length : Int)) = true:=decide_eq_true c4
    clear c4
    by_cases c5 : 0 ≤ x7_1
    ·rw [if_pos c5] at H
     have c5b0 : decide (0 ≤ x7_1) = true:=decide_eq_true c5
     clear c5
     by_cases c6 : x7_1 < (l2.length : Int)
     ·rw [if_pos c6] at H
      have c6b0 : decide (x7_1 < (l2.length : Int)) = true:=decide_eq_true c6
      clear c6
      by_cases c7 : 0 ≤ x8_1
      ·rw [if_pos c7] at H
       have c7b0 : decide (0 ≤ x8_1) = true:=decide_eq_true c7
       clear c7
       by_cases c8 : (wrap64 (Int.tdiv (rd l2 x7_1) 13)) = (wrap64 (Int.tdiv (rd l2 x8_1) 13))
       ·rw [if_pos c8] at H
        have c8b0 : ((wrap64 (Int.tdiv (rd l2 x7_1) 13)) == (wrap64 (Int.tdiv (rd l2 x8_1) 13))) = true:=beq_iff_eq.mpr c8
        have c8b1 : ((wrap64 (Int.tdiv (rd l2 x7_1) 13)) != (wrap64 (Int.tdiv (rd l2 x8_1) 13))) = false:=bne_eq_false_iff_eq.mpr c8
        clear c8
        by_cases c9 : (rd l2 x8_1) > (rd l2 x7_1)
        ·rw [if_pos c9] at H
         have c9b0 : decide ((rd l2 x7_1) < (rd l2 x8_1)) = true:=decide_eq_true c9
         clear c9
         have H':=aK H
         clear H
         have p182 : 0 ≤ (x7_1 : Int):=of_decide_eq_true (by first|(with_reducible assumption)|assumption)
         have q182 : x7_1 < (l2.length : Int):=of_decide_eq_true (by first|(with_reducible assumption)|assumption)
         obtain ⟨ad182,e182,hx182_0⟩:=Kd.at_int HR2.out x7_1 p182 q182
         cases e182
         replace p182:=eq_true p182
         replace q182:=eq_true q182
         have p183 : 0 ≤ (x8_1 : Int):=of_decide_eq_true (by first|(with_reducible assumption)|assumption)
         have q183 : x8_1 < (l2.length : Int):=of_decide_eq_true (by first|(with_reducible assumption)|assumption)
         obtain ⟨ad183,e183,hx183_0⟩:=Kd.at_int HR2.out x8_1 p183 q183
         obtain rfl : ad182 = ad183:=(by injection e183)
         replace p183:=eq_true p183
         replace q183:=eq_true q183
         go_wp2
         repeat (go_quiet (fail);try go_wp2)
         go_roundg k1
         case measure=>have:=HK1.out;omega
         case rel=>exact ⟨(x8_1),(wrap64 (x8_1 + 1)),(by first|rfl|(simp;done)|(simp [*];done)),(by first|rfl|(simp;done)|(simp [*];done)),H',⟨by have:=HK1.out;omega⟩,by repeat (first|exact Drawn0.refl _|apply Drawn0.step)⟩
        ·rw [if_neg c9] at H
         have c9b0 : decide ((rd l2 x7_1) < (rd l2 x8_1)) = false:=decide_eq_false c9
         clear c9
         have H':=aK H
         clear H
         have p182 : 0 ≤ (x7_1 : Int):=of_decide_eq_true (by first|(with_reducible assumption)|assumption)
         have q182 : x7_1 < (l2.length : Int):=of_decide_eq_true (by first|(with_reducible assumption)|assumption)
         obtain ⟨ad182,e182,hx182_0⟩:=Kd.at_int HR2.out x7_1 p182 q182
         cases e182
         replace p182:=eq_true p182
         replace q182:=eq_true q182
         have p183 : 0 ≤ (x8_1 : Int):=of_decide_eq_true (by first|(with_reducible assumption)|assumption)
         have q183 : x8_1 < (l2.length : Int):=of_decide_eq_true (by first|(with_reducible assumption)|assumption)
         obtain ⟨ad183,e183,hx183_0⟩:=Kd.at_int HR2.out x8_1 p183 q183
         obtain rfl : ad182 = ad183:=(by injection e183)
         replace p183:=eq_true p183
         replace q183:=eq_true q183
         go_wp2
         repeat (go_quiet (fail);try go_wp2)
         go_roundg k1
         case measure=>have:=HK1.out;omega
         case rel=>exact ⟨(x7_1),(wrap64 (x8_1 + 1)),(by first|rfl|(simp;done)|(simp [*];done)),(by first|rfl|(simp;done)|(simp [*];done)),H',⟨by have:=HK1.out;omega⟩,by repeat (first|exact Drawn0.refl _|apply Drawn0.step)⟩
       ·rw [if_neg c8] at H
        have c8b0 : ((wrap64 (Int.tdiv (rd l2 x7_1) 13)) == (wrap64 (Int.tdiv (rd l2 x8_1) 13))) = false:=beq_eq_false_iff_ne.mpr c8
        have c8b1 : ((wrap64 (Int.tdiv (rd l2 x7_1) 13)) != (wrap64 (Int.tdiv (rd l2 x8_1) 13))) = true:=bne_iff_ne.mpr c8
        by_cases c10 : (wrap64 (Int.tdiv (rd l2 x8_1) 13)) = a0
        ·rw [if_pos c10] at H
         have c10b0 : ((wrap64 (Int.tdiv (rd l2 x8_1) 13)) == a0) = true:=beq_iff_eq.mpr c10
         have c10b1 : ((wrap64 (Int.tdiv (rd l2 x8_1) 13)) != a0) = false:=bne_eq_false_iff_eq.mpr c10
         clear c10
         have H':=aK H
         clear H
         have p182 : 0 ≤ (x7_1 : Int):=of_decide_eq_true (by first|(with_reducible assumption)|assumption)
         have q182 : x7_1 < (l2.length : Int):=of_decide_eq_true (by first|(with_reducible assumption)|assumption)
         obtain ⟨ad182,e182,hx182_0⟩:=Kd.at_int HR2.out x7_1 p182 q182
         cases e182
         replace p182:=eq_true p182
         replace q182:=eq_true q182
         have p183 : 0 ≤ (x8_1 : Int):=of_decide_eq_true (by first|(with_reducible assumption)|assumption)
         have q183 : x8_1 < (l2.length : Int):=of_decide_eq_true (by first|(with_reducible assumption)|assumption)
         obtain ⟨ad183,e183,hx183_0⟩:=Kd.at_int HR2.out x8_1 p183 q183
         obtain rfl : ad182 = ad183:=(by injection e183)
         replace p183:=eq_true p183
         replace q183:=eq_true q183
         go_wp2
         repeat (go_quiet (fail);try go_wp2)
         go_roundg k1
         case measure=>have:=HK1.out;omega
         case rel=>exact ⟨(x8_1),(wrap64 (x8_1 + 1)),(by first|rfl|(simp;done)|(simp [*];done)),(by first|rfl|(simp;done)|(simp [*];done)),H',⟨by have:=HK1.out;omega⟩,by repeat (first|exact Drawn0.refl _|apply Drawn0.step)⟩
        ·rw [if_neg c10] at H
         have c10b0 : ((wrap64 (Int.tdiv (rd l2 x8_1) 13)) == a0) = false:=beq_eq_false_iff_ne.mpr c10
         have c10b1 : ((wrap64 (Int.tdiv (rd l2 x8_1) 13)) != a0) = true:=bne_iff_ne.mpr c10
         have H':=aK H
         clear H
         have p182 : 0 ≤ (x7_1 : Int):=of_decide_eq_true (by first|(with_reducible assumption)|assumption)
         have q182 : x7_1 < (l2.length : Int):=of_decide_eq_true (by first|(with_reducible assumption)|assumption)
         obtain ⟨ad182,e182,hx182_0⟩:=Kd.at_int HR2.out x7_1 p182 q182
         cases e182
         replace p182:=eq_true p182
         replace q182:=eq_true q182
         have p183 : 0 ≤ (x8_1 : Int):=of_decide_eq_true (by first|(with_reducible assumption)|assumption)
         have q183 : x8_1 < (l2.length : Int):=of_decide_eq_true (by first|(with_reducible assumption)|assumption)
         obtain ⟨ad183,e183,hx183_0⟩:=Kd.at_int HR2.out x8_1 p183 q183
         obtain rfl : ad182 = ad183:=(by injection e183)
         replace p183:=eq_true p183
         replace q183:=eq_true q183
         go_wp2
         repeat (go_quiet (fail);try go_wp2)
         go_roundg k1
         case measure=>have:=HK1.out;omega
         case rel=>exact ⟨(x7_1),(wrap64 (x8_1 + 1)),(by first|rfl|(simp;done)|(simp [*];done)),(by first|rfl|(simp;done)|(simp [*];done)),H',⟨by have:=HK1.out;omega⟩,by repeat (first|exact Drawn0.refl _|apply Drawn0.step)⟩
      ·rw [if_neg c7] at H
       exact absurd H (by simp)
     ·rw [if_neg c6] at H
      exact absurd H (by simp)
    ·rw [if_neg c5] at H
     exact absurd H (by simp)
   ·rw [if_neg c4] at H
    have c4b0 : decide (x8_1 < (l2.length : Int)) = false:=decide_eq_false c4
    clear c4
    obtain rfl:=Option.some.inj H
    go_wp2
    repeat (go_quiet (fail);try go_wp2)
    go_ret
    exact ⟨by first|rfl|(simp;done)|(simp [*];done),by repeat (first|exact Drawn0.refl _|apply Drawn0.step)⟩

/-! ### spec_l08Leaders: function 92 -/
def spec_l08Leaders.l0 : Nat → List Int → Int → Int → Int → List Int → Option (List Int)
 | 0,_,_,_,_,_=>none
 | k + 1,x3,x4,x185000,x185001,x185002=>if x4 ≤ (x185002.length : Int) then (if 0 ≤ (wrap64 ((x3.length : Int) - 1)) then (if (wrap64 ((x3.length : Int) - 1)) < (x3.length : Int) then (if 0 ≤ (wrap64 (x4 - 4)) then (if (wrap64 (x4 - 4)) ≤ x4 then ((spec_l08Winner.f k x185000 (rd x3 (wrap64 ((x3.length : Int) - 1))) ((x185002.take (x4 : Int).toNat).drop ((wrap64 (x4 - 4)) : Int).toNat)).bind fun t190=>(if x3.length < 17592186044416 then (spec_l08Leaders.l0 k (x3 ++ [t190]) (wrap64 (x4 + 4)) x185000 x185001 x185002) else (none))) else (none)) else (none)) else (none)) else (none)) else (some x3)
def spec_l08Leaders.f (k : Nat) (a0_0 : Int) (a0_1 : Int) (l0_2 : List Int) : Option (List Int) := spec_l08Leaders.l0 k (([a0_1] : List Int)) 4 a0_0 a0_1 l0_2
theorem spec_l08Leaders.mono_l : ∀ k, (∀ y0 y1 y2 y3 y4, LeO (spec_l08Leaders.l0 k y0 y1 y2 y3 y4) (spec_l08Leaders.l0 (k + 1) y0 y1 y2 y3 y4))
 | 0=>fun _ _ _ _ _ r h=>by simp [spec_l08Leaders.l0] at h
 | k + 1=>by
  have ih0:=spec_l08Leaders.mono_l k
  ·intro y0 y1 y2 y3 y4
   unfold spec_l08Leaders.l0
   repeat' first
   | (with_reducible exact ih0 _ _ _ _ _)
   | (with_reducible exact spec_l08Winner.mono _ _ _ _)
   | (with_reducible exact LeO.refl _)
   | (with_reducible exact LeO.none _)
   | (with_reducible refine LeO.ite ?_ ?_)
   | (with_reducible refine LeO.bind ?_ (fun _=>?_))
   | exact ih0 _ _ _ _ _
   | exact spec_l08Winner.mono _ _ _ _
   | exact LeO.none _
   | refine LeO.ite ?_ ?_
   | refine LeO.bind ?_ (fun _=>?_)
theorem spec_l08Leaders.mono : ∀ a0 a1 a2 k, LeO (spec_l08Leaders.f k a0 a1 a2) (spec_l08Leaders.f (k + 1) a0 a1 a2) := by
 intro a0 a1 a2 k
 have ih0:=spec_l08Leaders.mono_l k
 unfold spec_l08Leaders.f
 repeat' first
   | (with_reducible exact ih0 _ _ _ _ _)
   | (with_reducible exact spec_l08Winner.mono _ _ _ _)
   | (with_reducible exact LeO.refl _)
   | (with_reducible exact LeO.none _)
   | (with_reducible refine LeO.ite ?_ ?_)
   | (with_reducible refine LeO.bind ?_ (fun _=>?_))
   | exact ih0 _ _ _ _ _
   | exact spec_l08Winner.mono _ _ _ _
   | exact LeO.none _
   | refine LeO.ite ?_ ?_
   | refine LeO.bind ?_ (fun _=>?_)
def spec_l08Leaders.T5 : Bool × List (List Nat × List Nat) := (true, [([], []), ([], []), ([1], [1]), ([], []), ([], []), ([4], [4]), ([5], [5]), ([3, 6], [3, 6]), ([7], [7]), ([], []), ([9], [9]), ([], []), ([11], [11]), ([], []), ([10, 12, 13], [10, 12, 13]), ([2, 8, 14], [2, 8, 14]), ([15], [15]), ([0, 16, 15], [0, 16]), ([17, 17, 0, 1, 2, 3, 4, 5, 6, 7, 8, 9, 10, 11, 12, 13, 14, 15, 16, 17], [0, 3, 4, 17])])
def spec_l08Leaders.B5 : List Nat := [0, 0, 2, 0, 0, 16, 48, 120, 248, 0, 512, 0, 2048, 0, 15872, 32766, 65534, 131071, 262143]
theorem spec_l08Leaders.tab5 : rtab .any (opsOf Try.f92 5) = spec_l08Leaders.T5 := by kernel_rfl
theorem spec_l08Leaders.bits5 : waitsOk spec_l08Leaders.T5.2 spec_l08Leaders.B5 = true := by kernel_rfl
set_option maxHeartbeats 8000000 in
set_option maxRecDepth 100000 in
theorem spec_l08Leaders.calls (k : Nat) (a0_0 : Int) (a0_1 : Int) (A0_2 : Option Addr) (c0_2 : Nat) (l0_2 : List Int) (r : List Int) (w : World) (hr0_2 : Kd.C (Kd.int .i64) w A0_2 l0_2.length l0_2) (hc0_2 : l0_2.length ≤ c0_2) (h : spec_l08Leaders.f k a0_0 a0_1 l0_2 = some r) :
  Calls Try.prog 92 #[.agg #[.int .i64 a0_0,.int .i64 a0_1,.slice A0_2 l0_2.length c0_2]] w fun e w'=>∃ v0_ : Value,e = .returned (v0_) ∧ Kd.R (Kd.int .i64) 2 w' w.heap.size (fun _=>True) v0_ r ∧ Below w.heap.size w w':=by
 have hu27:=Try.underlying27
 have HR0_2:=aK hr0_2
 have HC0_2:=aK hc0_2
 clear hr0_2 hc0_2
 have HB:=aK (Below.refl w.heap.size w)
 have H : (spec_l08Leaders.l0 k (([a0_1] : List Int)) 4 a0_0 a0_1 l0_2) = some r:=h
 clear h
 obtain ⟨y185,hy185⟩ : ∃ y_ : List Int,y_ = (([a0_1] : List Int)):=⟨_,rfl⟩
 replace H : (spec_l08Leaders.l0 k y185 4 a0_0 a0_1 l0_2) = some r:=by first|(rw [hy185];with_reducible exact H)|(have H2_:=(Option.bind_some _ _).symm.trans H;rw [hy185];with_reducible exact H2_)|(have H2_:=(Option.bind_some _ _).symm.trans H;with_reducible exact H2_)|with_reducible exact H|(rw [hy185];exact H)|exact H
 have Ny185:=aK hy185
 clear hy185
 have H':=aK H
 clear H
 go_enter Try.func92,Try.ntmps92
 go_wp2_with (first|((with_reducible refine gate_dst (N:=1) rfl ?_);refine box_event ?hg (N:=1) ?hd (cs:=#[.int .i64 a0_0,.int .i64 a0_1,.slice A0_2 l0_2.length c0_2]) (t:=27) ?hr ?_;(case hd=>rfl);(case hg=>rfl);(case hr=>first|(go_simp;done)|(go_simp;rfl));intro gb184 hg w2 hbox hb;have n0_:=aK (below_step (bW HB.out) hb);have n1_:=aK (hbox);have n2_:=aK ((by rw [hg];exact (below_size (bW HB.out)) : w.heap.size ≤ gb184));have n3_:=aK ((by rw [hg];exact (below_size (bW HB.out)) : w.heap.size ≤ gb184));clear HB;have HB:=n0_;have BK184:=n1_;have GW184:=n2_;have GE184:=n3_;clear n0_ n1_ n2_ n3_;clear hb hbox hg;have hcz3_0 : w2.cell? ⟨gb184,0,none⟩ = some (.int .i64 a0_0):=(bC BK184.out 0).trans rfl;have hcz3_1 : w2.cell? ⟨gb184,1,none⟩ = some (.int .i64 a0_1):=(bC BK184.out 1).trans rfl;have hcz3_2 : w2.cell? ⟨gb184,2,none⟩ = some (.slice A0_2 l0_2.length c0_2):=(bC BK184.out 2).trans rfl;have hfz3_0:=blk_frozen BK184.out 0;have hfz3_1:=blk_frozen BK184.out 1;have hfz3_2:=blk_frozen BK184.out 2)|((with_reducible refine gate_dst (N:=7) rfl ?_);refine Kd.R_lit (Kd.int .i64) _ 2 ?hg (N:=7) ?hd (xs:=([a0_1] : List Int)) (inner:=[.int .i64 a0_1]) (ok:=fun _=>True) (okp:=fun _=>True) ?hr ?hp (fun _ hk=>hk) trivial (Below.refl _ _) (Nat.le_refl _) (by simp) ?_;(case hd=>rfl);(case hg=>rfl);(case hr=>first|(go_simp;done)|(go_simp;rfl));(case hp=>exact (Reps.one (show Kd.M (Kd.int .i64) _ _ _ a0_1 [.int .i64 a0_1] from rfl) (Reps.none _ _)));intro v186 w4 ho5 hb hg_ hnew_;clear hg_ hnew_;(first|rw [← Ny185.out] at ho5|(simp only [Int.reduceToNat] at ho5;rw [← Ny185.out] at ho5));have n0_:=aK (Kd.R_lower ho5 (below_size (bW HB.out)));have n1_:=aK (bB (bX BK184.out) hb);have n2_:=aK (below_step (bW HB.out) hb);clear BK184;clear HB;have HO187:=n0_;have BK184:=n1_;have HB:=n2_;clear n0_ n1_ n2_;clear hb ho5))
 go_loopg [3,4] k (fun kq v3 v4 w'=>∃ (x3_1 : List Int) (x4_1 : Int),v4 = .int .i64 x4_1 ∧ Aside0 (spec_l08Leaders.l0 kq x3_1 x4_1 a0_0 a0_1 l0_2 = some r) ∧ Aside0 (kq ≤ k) ∧ Aside0 (Kd.R (Kd.int .i64) 2 w' w.heap.size (fun _=>True) v3 x3_1) ∧ Aside0 (w'.heap[gb184]? = some (.cells #[.int .i64 a0_0,.int .i64 a0_1,(.slice A0_2 l0_2.length c0_2)] 27 (0,0))) ∧ Aside0 (Below w.heap.size w w'))
 case atStart=>exact ⟨(y185),(4),(by first|rfl|(simp;done)|(simp [*];done)),H',⟨Nat.le_refl _⟩,⟨by (with_reducible repeat first|apply Kd.R_alloc|apply Kd.R_drewN|apply Kd.R_drew);exact HO187.out⟩,⟨by (with_reducible repeat first|apply bN|apply bD|apply bA);exact BK184.out⟩,⟨bW HB.out⟩⟩
 case round =>
  clear H'
  try clear p2
  try clear hcz3_0
  try clear hcz3_1
  try clear hcz3_2
  try clear hfz3_0
  try clear hfz3_1
  try clear hfz3_2
  obtain ⟨x3_1,x4_1,rfl,HA,HK1,HO_3,BK184,HB⟩:=hrel
  cases gk with
  | zero=>exact absurd HA.out (by simp [spec_l08Leaders.l0])
  | succ k1 =>
   have H:=HA.out
   clear HA
   simp only [spec_l08Leaders.l0] at H
   by_cases c6 : x4_1 ≤ (l0_2.length : Int)
   ·rw [if_pos c6] at H
    have c6b0 : decide (x4_1 ≤ (l0_2.length : Int)) = true:=decide_eq_true c6
    clear c6
    obtain ⟨ji7,hji7⟩ : ∃ j_ : Int,(wrap64 ((x3_1.length : Int) - 1)) = j_:=⟨_,rfl⟩
    replace H : (if 0 ≤ (ji7) then (if (ji7) < (x3_1.length : Int) then (if 0 ≤ (wrap64 (x4_1 - 4)) then (if (wrap64 (x4_1 - 4)) ≤ x4_1 then ((spec_l08Winner.f k1 a0_0 (rd x3_1 (ji7)) ((l0_2.take (x4_1 : Int).toNat).drop ((wrap64 (x4_1 - 4)) : Int).toNat)).bind fun t190=>(if x3_1.length < 17592186044416 then (spec_l08Leaders.l0 k1 (x3_1 ++ [t190]) (wrap64 (x4_1 + 4)) a0_0 a0_1 l0_2) else (none))) else (none)) else (none)) else (none)) else (none)) = some r:=by first|(rw [hji7] at H;exact H)|(simp only [hji7] at H ⊢;exact H)
    have hji7w : (IntKind.i64.wrap ((x3_1.length : Int) - 1)) = ji7:=(i64_w _).trans hji7
    by_cases c8 : 0 ≤ (ji7)
    ·rw [if_pos c8] at H
     have c8b0 : decide (0 ≤ (ji7)) = true:=decide_eq_true c8
     clear c8
     by_cases c9 : (ji7) < (x3_1.length : Int)
     ·rw [if_pos c9] at H
      have c9b0 : decide ((ji7) < (x3_1.length : Int)) = true:=decide_eq_true c9
      clear c9
      obtain ⟨ji10,hji10⟩ : ∃ j_ : Int,(wrap64 (x4_1 - 4)) = j_:=⟨_,rfl⟩
      replace H : (if 0 ≤ (ji10) then (if (ji10) ≤ x4_1 then ((spec_l08Winner.f k1 a0_0 (rd x3_1 (ji7)) ((l0_2.take (x4_1 : Int).toNat).drop ((ji10) : Int).toNat)).bind fun t190=>(if x3_1.length < 17592186044416 then (spec_l08Leaders.l0 k1 (x3_1 ++ [t190]) (wrap64 (x4_1 + 4)) a0_0 a0_1 l0_2) else (none))) else (none)) else (none)) = some r:=by first|(rw [hji10] at H;exact H)|(simp only [hji10] at H ⊢;exact H)
      have hji10w : (IntKind.i64.wrap (x4_1 - 4)) = ji10:=(i64_w _).trans hji10
      by_cases c11 : 0 ≤ (ji10)
      ·rw [if_pos c11] at H
       have c11b0:=eq_true c11
       have c11b1 : decide (0 ≤ (ji10)) = true:=decide_eq_true c11
       clear c11
       by_cases c12 : (ji10) ≤ x4_1
       ·rw [if_pos c12] at H
        have c12b0:=eq_true c12
        have c12b1 : decide ((ji10) ≤ x4_1) = true:=decide_eq_true c12
        clear c12
        have c13b0:=eq_true (of_decide_eq_true (by first|(with_reducible assumption)|assumption) : x4_1 ≤ (l0_2.length : Int))
        replace H:=Option.bind_eq_some_iff.mp H
        obtain ⟨t190,A140,H⟩:=H
        replace H : (if x3_1.length < 17592186044416 then (spec_l08Leaders.l0 k1 (x3_1 ++ [t190]) (wrap64 (x4_1 + 4)) a0_0 a0_1 l0_2) else (none)) = some r:=H
        have A14:=aK A140
        clear A140
        by_cases c15 : x3_1.length < 17592186044416
        ·rw [if_pos c15] at H
         have LMc15:=aK c15
         clear c15
         obtain ⟨y191,hy191⟩ : ∃ y_ : List Int,y_ = (x3_1 ++ [t190]):=⟨_,rfl⟩
         replace H : (spec_l08Leaders.l0 k1 y191 (wrap64 (x4_1 + 4)) a0_0 a0_1 l0_2) = some r:=by first|(rw [hy191];with_reducible exact H)|(have H2_:=(Option.bind_some _ _).symm.trans H;rw [hy191];with_reducible exact H2_)|(have H2_:=(Option.bind_some _ _).symm.trans H;with_reducible exact H2_)|with_reducible exact H|(rw [hy191];exact H)|exact H
         have Ny191:=aK hy191
         clear hy191
         have H':=aK H
         clear H
         have hcz16_0 : wr.cell? ⟨gb184,0,none⟩ = some (.int .i64 a0_0):=(bC BK184.out 0).trans rfl
         have hcz16_1 : wr.cell? ⟨gb184,1,none⟩ = some (.int .i64 a0_1):=(bC BK184.out 1).trans rfl
         have hcz16_2 : wr.cell? ⟨gb184,2,none⟩ = some (.slice A0_2 l0_2.length c0_2):=(bC BK184.out 2).trans rfl
         have hfz16_0:=blk_frozen BK184.out 0
         have hfz16_1:=blk_frozen BK184.out 1
         have hfz16_2:=blk_frozen BK184.out 2
         try go_wp2
         have n0_:=aK (Kd.R_drew HO_3.out)
         have n1_:=aK (bD BK184.out)
         have n2_:=aK (b1 HB.out)
         clear HO_3
         clear BK184
         clear HB
         have HO_3:=n0_
         have BK184:=n1_
         have HB:=n2_
         clear n0_ n1_ n2_
         obtain ⟨Ao18,co18,eo18⟩:=Kd.R_slice HO_3.out
         (first|subst eo18|(injection eo18 with f1_ f2_ f3_;have f4_:=f1_.symm;have f5_:=f3_.symm;clear f1_ f2_ f3_;subst f4_;subst f5_))
         have p188 : 0 ≤ ((ji7) : Int):=of_decide_eq_true (by first|(with_reducible assumption)|assumption)
         have q188 : (ji7) < (x3_1.length : Int):=of_decide_eq_true (by first|(with_reducible assumption)|assumption)
         obtain ⟨ad188,e188,hx188_0⟩:=Kd.at_int (Kd.R_reads' HO_3.out).2.2 (ji7) p188 q188
         cases e188
         replace p188:=eq_true p188
         replace q188:=eq_true q188
         obtain ⟨i019,hi019,_,hsz19,_⟩:=info_parts info2
         obtain ⟨A19,hcut19,hA19,hC19⟩:=print_mid_of (P:=Try.prog) (Value.int .i64) 0 22 2 .i64 .i64 Try.underlying22 hi019 hsz19 A0_2 c0_2 l0_2 (ji10) x4_1 (of_decide_eq_true (by first|(with_reducible assumption)|assumption)) (by first|omega|exact of_decide_eq_true (by first|(with_reducible assumption)|assumption)) (of_decide_eq_true (by first|(with_reducible assumption)|assumption)) HC0_2.out
         have HR189:=aK (Kd.C_of_reads (h1:=fun _=>rfl) (hA19 _ (Kd.reads_of_C HR0_2.out)))
         have HC189:=aK hC19
         clear hA19 hC19 hi019 hsz19
         refine start_ (n:=19) (S:=fun w'=>w'.cell? ⟨gb184,0,none⟩ = some (.int .i64 a0_0) ∧ w'.cell? ⟨gb184,1,none⟩ = some (.int .i64 a0_1) ∧ w'.cell? ⟨gb184,2,none⟩ = some (.slice A0_2 l0_2.length c0_2) ∧ w'.cell? (ad188.add ((ji7)).toNat) = some (.int .i64 (rd x3_1 (ji7)))) (ds:=[16,17]) #[false,false,false,false,false,false,false,false,false,false,false,false,false,false,false,false,false,false,false] (by kernel_rfl) rfl rfl ⟨(bC BK184.out 0).trans rfl,(bC BK184.out 1).trans rfl,(bC BK184.out 2).trans rfl,hx188_0⟩ (fun hHeld=>?_);refine with_tabW spec_l08Leaders.tab5 spec_l08Leaders.bits5 (fun HT_ HW_=>?_)
         generalize wr.drew = w17 at HO_3 BK184 HB HR189 hx188_0 hHeld ⊢
         refine pure_ (i:=0) (N:=some 15) (v:=?_) (a':=?_) #[true,false,false,false,false,false,false,false,false,false,false,false,false,false,false,false,false,false,false] rfl rfl (any_of HT_.out (by kernel_rfl)) (fun _ _ _ h=>h) (Or.inl ⟨by rfl,?_⟩) ?_ ?_
         rotate_left
         ·intro w'
          go_simp
          with_reducible rfl
         rotate_left
         ·simp only [Act.put,lA,l0',lS,i64_w,i32_w]
          rfl
         refine pure_ (i:=1) (N:=some 16) (v:=?_) (a':=?_) #[true,true,false,false,false,false,false,false,false,false,false,false,false,false,false,false,false,false,false] rfl rfl (any_of HT_.out (by kernel_rfl)) (fun _ _ _ h=>h) (Or.inl ⟨by rfl,?_⟩) ?_ ?_
         rotate_left
         ·intro w'
          go_simp
          with_reducible rfl
         rotate_left
         ·simp only [Act.put,lA,l0',lS,i64_w,i32_w]
          rfl
         refine pure_ (i:=3) (N:=some 18) (v:=?_) (a':=?_) #[true,true,false,true,false,false,false,false,false,false,false,false,false,false,false,false,false,false,false] rfl rfl (any_of HT_.out (by kernel_rfl)) (fun _ _ _ h=>h) (Or.inl ⟨by rfl,?_⟩) ?_ ?_
         rotate_left
         ·intro w'
          go_simp
          with_reducible rfl
         rotate_left
         ·simp only [Act.put,lA,l0',lS,i64_w,i32_w]
          rfl
         refine pure_ (i:=4) (N:=some 19) (v:=?_) (a':=?_) #[true,true,false,true,true,false,false,false,false,false,false,false,false,false,false,false,false,false,false] rfl rfl (any_of HT_.out (by kernel_rfl)) (fun _ _ _ h=>h) (Or.inl ⟨by rfl,?_⟩) ?_ ?_
         rotate_left
         ·intro w'
          go_simp
          with_reducible rfl
         rotate_left
         ·simp only [Act.put,lA,l0',lS,i64_w,i32_w]
          rfl
         refine pure_ (i:=5) (N:=some 20) (v:=?_) (a':=?_) #[true,true,false,true,true,true,false,false,false,false,false,false,false,false,false,false,false,false,false] rfl rfl (any_of HT_.out (by kernel_rfl)) (fun _ _ _ h=>h) (Or.inl ⟨by rfl,?_⟩) ?_ ?_
         rotate_left
         ·intro w'
          go_simp
          with_reducible rfl
         rotate_left
         ·simp only [Act.put,lA,l0',lS,i64_w,i32_w]
          rfl
         refine pure_ (i:=6) (N:=some 21) (v:=?_) (a':=?_) #[true,true,false,true,true,true,true,false,false,false,false,false,false,false,false,false,false,false,false] rfl rfl (any_of HT_.out (by kernel_rfl)) (fun _ _ _ h=>h) (Or.inl ⟨by rfl,?_⟩) ?_ ?_
         rotate_left
         ·intro w'
          go_simp
          with_reducible rfl
         rotate_left
         ·simp only [Act.put,lA,l0',lS,i64_w,i32_w]
          rfl
         refine pure_ (i:=7) (N:=some 22) (v:=?_) (a':=?_) #[true,true,false,true,true,true,true,true,false,false,false,false,false,false,false,false,false,false,false] rfl rfl (any_of HT_.out (by kernel_rfl)) (fun _ _ _ h=>h) (Or.inl ⟨by rfl,?_⟩) ?_ ?_
         rotate_left
         ·intro w'
          go_simp
          with_reducible rfl
         rotate_left
         ·simp only [Act.put,lA,l0',lS,i64_w,i32_w]
          rfl
         refine pure_ (i:=9) (N:=some 24) (v:=?_) (a':=?_) #[true,true,false,true,true,true,true,true,false,true,false,false,false,false,false,false,false,false,false] rfl rfl (any_of HT_.out (by kernel_rfl)) (fun _ _ _ h=>h) (Or.inl ⟨by rfl,?_⟩) ?_ ?_
         rotate_left
         ·intro w'
          go_simp
          with_reducible rfl
         rotate_left
         ·simp only [Act.put,lA,l0',lS,i64_w,i32_w]
          rfl
         refine pure_ (i:=11) (N:=some 26) (v:=?_) (a':=?_) #[true,true,false,true,true,true,true,true,false,true,false,true,false,false,false,false,false,false,false] rfl rfl (any_of HT_.out (by kernel_rfl)) (fun _ _ _ h=>h) (Or.inl ⟨by rfl,?_⟩) ?_ ?_
         rotate_left
         ·intro w'
          go_simp
          with_reducible rfl
         rotate_left
         ·simp only [Act.put,lA,l0',lS,i64_w,i32_w]
          rfl
         refine pure_ (i:=12) (N:=some 27) (v:=?_) (a':=?_) #[true,true,false,true,true,true,true,true,false,true,false,true,true,false,false,false,false,false,false] rfl rfl (any_of HT_.out (by kernel_rfl)) (fun _ _ _ h=>h) (Or.inl ⟨by rfl,?_⟩) ?_ ?_
         rotate_left
         ·intro w'
          go_simp
          with_reducible rfl
         rotate_left
         ·simp only [Act.put,lA,l0',lS,i64_w,i32_w]
          rfl
         refine pure_ (i:=13) (N:=some 28) (v:=?_) (a':=?_) #[true,true,false,true,true,true,true,true,false,true,false,true,true,true,false,false,false,false,false] rfl rfl (any_of HT_.out (by kernel_rfl)) (fun _ _ _ h=>h) (Or.inl ⟨by rfl,?_⟩) ?_ ?_
         rotate_left
         ·intro w'
          go_simp
          with_reducible rfl
         rotate_left
         ·simp only [Act.put,lA,l0',lS,i64_w,i32_w]
          rfl
         refine take_ (i:=2) (N:=some 17) (v:=?_) (a':=?_) #[true,true,true,true,true,true,true,true,false,true,false,true,true,true,false,false,false,false,false] rfl rfl (take_ofW HT_.out HW_.out (by kernel_rfl)) (fun _ _ _ h=>h) (Or.inl ⟨by rfl,?_⟩) hHeld ?_ ?_
         rotate_left
         ·rintro w' ⟨s0,s1,s2,s3⟩
          go_simp
          with_reducible rfl
         rotate_left
         ·simp only [Act.put,lA,l0',lS,i64_w,i32_w]
          rfl
         refine take_ (i:=8) (N:=some 23) (v:=?_) (a':=?_) #[true,true,true,true,true,true,true,true,true,true,false,true,true,true,false,false,false,false,false] rfl rfl (take_ofW HT_.out HW_.out (by kernel_rfl)) (fun _ _ _ h=>h) (Or.inl ⟨by rfl,?_⟩) hHeld ?_ ?_
         rotate_left
         ·rintro w' ⟨s0,s1,s2,s3⟩
          go_simp
          with_reducible rfl
         rotate_left
         ·simp only [Act.put,lA,l0',lS,i64_w,i32_w]
          rfl
         refine take_ (i:=10) (N:=some 25) (v:=?_) (a':=?_) #[true,true,true,true,true,true,true,true,true,true,true,true,true,true,false,false,false,false,false] rfl rfl (take_ofW HT_.out HW_.out (by kernel_rfl)) (fun _ _ _ h=>h) (Or.inl ⟨by rfl,?_⟩) hHeld ?_ ?_
         rotate_left
         ·rintro w' ⟨s0,s1,s2,s3⟩
          go_simp
          with_reducible rfl
         rotate_left
         ·simp only [Act.put,lA,l0',lS,i64_w,i32_w]
          rfl
         refine pure_ (i:=14) (N:=some 29) (v:=?_) (a':=?_) #[true,true,true,true,true,true,true,true,true,true,true,true,true,true,true,false,false,false,false] rfl rfl (any_of HT_.out (by kernel_rfl)) (fun _ _ _ h=>h) (Or.inl ⟨by rfl,?_⟩) ?_ ?_
         rotate_left
         ·intro w'
          go_simp
          with_reducible rfl
         rotate_left
         ·simp only [Act.put,lA,l0',lS,i64_w,i32_w]
          rfl
         refine one_ (i:=15) (N:=some 30) #[true,true,true,true,true,true,true,true,true,true,true,true,true,true,true,true,false,false,false] rfl rfl (one_of HT_.out (by kernel_rfl)) (by decide) (fun K hK=>?_)
         refine goes_ Try.func133 (by kernel_rfl) rfl #[.int .i64 a0_0,.int .i64 (rd x3_1 (ji7)),.slice A19 ((l0_2.take (x4_1 : Int).toNat).drop ((ji10) : Int).toNat).length (c0_2 - (ji10).toNat)] (by rfl) rfl rfl (by (try simp only [List.map_toArray,List.map_cons,List.map_nil]);first|done|(rw [show ((l0_2.take (x4_1 : Int).toNat).drop ((ji10) : Int).toNat).length = (x4_1.toNat - (ji10).toNat) from (by rw [List.length_drop,List.length_take];have h_ : (x4_1 : Int) ≤ (l0_2.length : Int):=of_decide_eq_true (by first|(with_reducible assumption)|assumption);omega)] <;> rfl)|(simp only [hji10,hji7];rfl)|rfl|(simp only [List.length_drop,List.length_take];rfl)) ?_
         with_reducible refine (spec_l08Winner.calls k1 a0_0 (rd x3_1 (ji7)) _ _ ((l0_2.take (x4_1 : Int).toNat).drop ((ji10) : Int).toNat) t190 _ ?side1 ?side2 A14.out).mono ?_
         (case side1=>repeat (first|exact (Kd.C_below HR189.out HB.out)|(with_reducible refine Kd.C_alloc ?_ _)|(with_reducible refine Kd.C_drewN ?_ _)|(with_reducible refine Kd.C_drew ?_)))
         (case side2=>exact HC189.out)
         rintro e w' ⟨rfl,⟨nd,rfl⟩⟩
         refine ⟨_,rfl,?_⟩
         refine hK.out _ _ ⟨(bC BK184.out 0).trans rfl,(bC BK184.out 1).trans rfl,(bC BK184.out 2).trans rfl,hHeld.2.2.2⟩ (fun hHeld=>?_)
         clear hK K
         refine norm_ (a':=?_) ?_ ?_
         rotate_left
         ·show Act.put _ (some 30) _ = _
          simp only [Act.put,lA,l0',lS,i64_w,i32_w]
          rfl
         refine last_ (i:=16) (N:=some 31) #[true,true,true,true,true,true,true,true,true,true,true,true,true,true,true,true,true,false,false] rfl rfl (one_of HT_.out (by kernel_rfl)) (by decide) (fun K hK=>?_)
         refine value_ (w1:=?_) (v:=?_) (by rfl) rfl ?_ ?_
         rotate_left 2
         ·go_simp
          constructor
          ·rfl
          ·rfl
         refine hK.out _ _ ?_
         clear hK K
         refine norm_ (a':=?_) ?_ ?_
         rotate_left
         ·show Act.put _ (some 31) _ = _
          simp only [Act.put,lA,l0',lS,i64_w,i32_w]
          rfl
         refine last_ (i:=17) (N:=some 32) #[true,true,true,true,true,true,true,true,true,true,true,true,true,true,true,true,true,true,false] rfl rfl (one_of HT_.out (by kernel_rfl)) (by decide) (fun K hK=>?_)
         refine Kd.R_append_step (Kd.int .i64) (w0:=w) w.heap.size (by rfl) (.tmp 15) (.tmp 31) 22 2 (.int .i64 0) 8 rfl Try.underlying22 info2 rfl (by decide) (by omega) (.slice (some ad188) x3_1.length co18) x3_1 t190 [.int .i64 t190] (fun _=>True) (fun _=>False) rfl rfl ?aP (fun _ hk=>hk.elim) ?aF ?aO ?aB ?aS ?aL ?_
         (case aP=>exact rfl)
         (case aB=>exact (bW HB.out))
         (case aF=>exact (fun _ _=>trivial))
         (case aO=>exact (rX HO_3.out))
         (case aS=>exact (below_size (bW HB.out)))
         (case aL=>have:=LMc15.out;omega)
         intro v192 w20 ho hb hg hat
         rw [← Ny191.out] at ho
         have n0_:=aK (blk_grown (g:=gb184) (o:=.cells #[.int .i64 a0_0,.int .i64 a0_1,.slice A0_2 l0_2.length c0_2] 27 (0,0)) (bX BK184.out) hg (Kd.R_ne HO_3.out BK184.out (by decide)))
         have n1_:=aK (hb)
         have n2_:=aK (ho)
         clear BK184
         clear HB
         clear HO_3
         have BK184:=n0_
         have HB:=n1_
         have HO193:=n2_
         clear n0_ n1_ n2_
         clear ho hb hg hat
         refine hK.out _ _ ?_
         clear hK K
         refine norm_ (a':=?_) ?_ ?_
         rotate_left
         ·show Act.put _ (some 32) _ = _
          simp only [Act.put,lA,l0',lS,i64_w,i32_w]
          rfl
         refine pure_ (i:=18) (N:=some 3) (v:=?_) (a':=?_) #[true,true,true,true,true,true,true,true,true,true,true,true,true,true,true,true,true,true,true] rfl rfl (any_of HT_.out (by kernel_rfl)) (fun _ _ _ h=>h) (Or.inl ⟨by rfl,?_⟩) ?_ ?_
         rotate_left
         ·intro w'
          go_simp
          with_reducible rfl
         rotate_left
         ·simp only [Act.put,lA,l0',lS,i64_w,i32_w]
          rfl
         refine done_ (done_of HT_.out (by kernel_rfl)) ?_
         try go_wp2
         go_roundg k1
         case measure=>have:=HK1.out;omega
         case rel=>exact ⟨(y191),(wrap64 (x4_1 + 4)),(by first|rfl|(simp;done)|(simp [*];done)),H',⟨by have:=HK1.out;omega⟩,⟨by (with_reducible repeat first|apply Kd.R_alloc|apply Kd.R_drewN|apply Kd.R_drew);exact HO193.out⟩,⟨by (with_reducible repeat first|apply bN|apply bD|apply bA);exact BK184.out⟩,⟨bW HB.out⟩⟩
        ·rw [if_neg c15] at H
         exact absurd H (by simp)
       ·rw [if_neg c12] at H
        exact absurd H (by simp)
      ·rw [if_neg c11] at H
       exact absurd H (by simp)
     ·rw [if_neg c9] at H
      exact absurd H (by simp)
    ·rw [if_neg c8] at H
     exact absurd H (by simp)
   ·rw [if_neg c6] at H
    have c6b0 : decide (x4_1 ≤ (l0_2.length : Int)) = false:=decide_eq_false c6
    clear c6
    obtain rfl:=Option.some.inj H
    have hcz21_0 : wr.cell? ⟨gb184,0,none⟩ = some (.int .i64 a0_0):=(bC BK184.out 0).trans rfl
    have hcz21_1 : wr.cell? ⟨gb184,1,none⟩ = some (.int .i64 a0_1):=(bC BK184.out 1).trans rfl
    have hcz21_2 : wr.cell? ⟨gb184,2,none⟩ = some (.slice A0_2 l0_2.length c0_2):=(bC BK184.out 2).trans rfl
    have hfz21_0:=blk_frozen BK184.out 0
    have hfz21_1:=blk_frozen BK184.out 1
    have hfz21_2:=blk_frozen BK184.out 2
    go_wp2
    go_ret
    exact ⟨_,by first|rfl|(simp [errW_none,errW_some] <;> rfl)|(simp [*,errW_none,errW_some] <;> rfl),by (with_reducible repeat first|apply Kd.R_alloc|apply Kd.R_drewN|apply Kd.R_drew);exact HO_3.out,bW HB.out⟩

/-! ### spec_l08Turn: function 103 -/
def spec_l08Turn.f (k : Nat) (a0_0 : Int) (a0_1 : Int) (l0_2 : List Int) : Option (Int) := (spec_l08Leaders.f k a0_0 a0_1 l0_2).bind fun t195 => (if 0 ≤ (wrap64 ((t195.length : Int) - 1)) then (if (wrap64 ((t195.length : Int) - 1)) < (t195.length : Int) then (some (Int.tmod (wrap64 ((rd t195 (wrap64 ((t195.length : Int) - 1))) + ((l0_2.length : Int) % 4))) 4)) else (none)) else (none))
theorem spec_l08Turn.mono : ∀ a0 a1 a2 k, LeO (spec_l08Turn.f k a0 a1 a2) (spec_l08Turn.f (k + 1) a0 a1 a2) := by
 intro a0 a1 a2 k
 unfold spec_l08Turn.f
 repeat' first
   | (with_reducible exact spec_l08Leaders.mono _ _ _ _)
   | (with_reducible exact LeO.refl _)
   | (with_reducible exact LeO.none _)
   | (with_reducible refine LeO.ite ?_ ?_)
   | (with_reducible refine LeO.bind ?_ (fun _=>?_))
   | exact spec_l08Leaders.mono _ _ _ _
   | exact LeO.none _
   | refine LeO.ite ?_ ?_
   | refine LeO.bind ?_ (fun _=>?_)
set_option maxHeartbeats 8000000 in
set_option maxRecDepth 100000 in
theorem spec_l08Turn.calls (k : Nat) (a0_0 : Int) (a0_1 : Int) (A0_2 : Option Addr) (c0_2 : Nat) (l0_2 : List Int) (r : Int) (w : World) (hr0_2 : Kd.C (Kd.int .i64) w A0_2 l0_2.length l0_2) (hc0_2 : l0_2.length ≤ c0_2) (h : spec_l08Turn.f k a0_0 a0_1 l0_2 = some r) :
  Calls Try.prog 103 #[.agg #[.int .i64 a0_0,.int .i64 a0_1,.slice A0_2 l0_2.length c0_2]] w fun e w'=>e = .returned (.int .i64 r) ∧ Below w.heap.size w w':=by
 have hu27:=Try.underlying27
 have HR0_2:=aK hr0_2
 have HC0_2:=aK hc0_2
 clear hr0_2 hc0_2
 have HB:=aK (Below.refl w.heap.size w)
 have H : ((spec_l08Leaders.f k a0_0 a0_1 l0_2).bind fun t195=>(if 0 ≤ (wrap64 ((t195.length : Int) - 1)) then (if (wrap64 ((t195.length : Int) - 1)) < (t195.length : Int) then (some (Int.tmod (wrap64 ((rd t195 (wrap64 ((t195.length : Int) - 1))) + ((l0_2.length : Int) % 4))) 4)) else (none)) else (none))) = some r:=h
 clear h
 replace H:=Option.bind_eq_some_iff.mp H
 obtain ⟨t195,A20,H⟩:=H
 replace H : (if 0 ≤ (wrap64 ((t195.length : Int) - 1)) then (if (wrap64 ((t195.length : Int) - 1)) < (t195.length : Int) then (some (Int.tmod (wrap64 ((rd t195 (wrap64 ((t195.length : Int) - 1))) + ((l0_2.length : Int) % 4))) 4)) else (none)) else (none)) = some r:=H
 have A2:=aK A20
 clear A20
 obtain ⟨ji3,hji3⟩ : ∃ j_ : Int,(wrap64 ((t195.length : Int) - 1)) = j_:=⟨_,rfl⟩
 replace H : (if 0 ≤ (ji3) then (if (ji3) < (t195.length : Int) then (some (Int.tmod (wrap64 ((rd t195 (ji3)) + ((l0_2.length : Int) % 4))) 4)) else (none)) else (none)) = some r:=by first|(rw [hji3] at H;exact H)|(simp only [hji3] at H ⊢;exact H)
 (try rw [hji3] at A2)
 have hji3w : (IntKind.i64.wrap ((t195.length : Int) - 1)) = ji3:=(i64_w _).trans hji3
 by_cases c4 : 0 ≤ (ji3)
 ·rw [if_pos c4] at H
  have c4b0 : decide (0 ≤ (ji3)) = true:=decide_eq_true c4
  clear c4
  by_cases c5 : (ji3) < (t195.length : Int)
  ·rw [if_pos c5] at H
   have c5b0 : decide ((ji3) < (t195.length : Int)) = true:=decide_eq_true c5
   clear c5
   obtain rfl:=Option.some.inj H
   go_enter Try.func103,Try.ntmps103
   go_wp2_with (first|((with_reducible refine gate_dst (N:=1) rfl ?_);refine box_event ?hg (N:=1) ?hd (cs:=#[.int .i64 a0_0,.int .i64 a0_1,.slice A0_2 l0_2.length c0_2]) (t:=27) ?hr ?_;(case hd=>rfl);(case hg=>rfl);(case hr=>first|(go_simp;done)|(go_simp;rfl));intro gb194 hg w6 hbox hb;have n0_:=aK (below_step (bW HB.out) hb);have n1_:=aK (hbox);have n2_:=aK ((by rw [hg];exact (below_size (bW HB.out)) : w.heap.size ≤ gb194));have n3_:=aK ((by rw [hg];exact (below_size (bW HB.out)) : w.heap.size ≤ gb194));clear HB;have HB:=n0_;have BK194:=n1_;have GW194:=n2_;have GE194:=n3_;clear n0_ n1_ n2_ n3_;clear hb hbox hg;have hcz7_0 : w6.cell? ⟨gb194,0,none⟩ = some (.int .i64 a0_0):=(bC BK194.out 0).trans rfl;have hcz7_1 : w6.cell? ⟨gb194,1,none⟩ = some (.int .i64 a0_1):=(bC BK194.out 1).trans rfl;have hcz7_2 : w6.cell? ⟨gb194,2,none⟩ = some (.slice A0_2 l0_2.length c0_2):=(bC BK194.out 2).trans rfl;have hfz7_0:=blk_frozen BK194.out 0;have hfz7_1:=blk_frozen BK194.out 1;have hfz7_2:=blk_frozen BK194.out 2)|(go_at_call 92;(with_reducible refine (spec_l08Leaders.calls k a0_0 a0_1 _ _ l0_2 t195 _ ?side1 ?side2 A2.out).mono ?_);(case side1=>repeat (first|exact (Kd.C_below HR0_2.out HB.out)|(with_reducible refine Kd.C_alloc ?_ _)|(with_reducible refine Kd.C_drewN ?_ _)|(with_reducible refine Kd.C_drew ?_)));(case side2=>exact HC0_2.out);rintro e w8 ⟨v196,rfl,ho0,hb⟩;have n0_:=aK (Kd.R_lower ho0 (below_size (bW HB.out)));have n1_:=aK (bB (bX BK194.out) hb);have n2_:=aK (below_step (bW HB.out) hb);clear BK194;clear HB;have HO197:=n0_;have BK194:=n1_;have HB:=n2_;clear n0_ n1_ n2_;(try clear hb);(try clear hb2);(try clear hk);(try clear hi);(try clear ho0);obtain ⟨Ao9,co9,eo9⟩:=Kd.R_slice HO197.out;subst eo9;have p198 : 0 ≤ ((ji3) : Int):=of_decide_eq_true (by first|(with_reducible assumption)|assumption);have q198 : (ji3) < (t195.length : Int):=of_decide_eq_true (by first|(with_reducible assumption)|assumption);obtain ⟨ad198,e198,hx198_0⟩:=Kd.at_int (Kd.R_reads' HO197.out).2.2 (ji3) p198 q198;cases e198;replace p198:=eq_true p198;replace q198:=eq_true q198;have hcz10_0 : w8.cell? ⟨gb194,0,none⟩ = some (.int .i64 a0_0):=(bC BK194.out 0).trans rfl;have hcz10_1 : w8.cell? ⟨gb194,1,none⟩ = some (.int .i64 a0_1):=(bC BK194.out 1).trans rfl;have hcz10_2 : w8.cell? ⟨gb194,2,none⟩ = some (.slice A0_2 l0_2.length c0_2):=(bC BK194.out 2).trans rfl;have hfz10_0:=blk_frozen BK194.out 0;have hfz10_1:=blk_frozen BK194.out 1;have hfz10_2:=blk_frozen BK194.out 2))
   repeat (go_quiet (first|((with_reducible refine gate_dst (N:=1) rfl ?_);refine box_event ?hg (N:=1) ?hd (cs:=#[.int .i64 a0_0,.int .i64 a0_1,.slice A0_2 l0_2.length c0_2]) (t:=27) ?hr ?_;(case hd=>rfl);(case hg=>rfl);(case hr=>first|(go_simp;done)|(go_simp;rfl));intro gb194 hg w6 hbox hb;have n0_:=aK (below_step (bW HB.out) hb);have n1_:=aK (hbox);have n2_:=aK ((by rw [hg];exact (below_size (bW HB.out)) : w.heap.size ≤ gb194));have n3_:=aK ((by rw [hg];exact (below_size (bW HB.out)) : w.heap.size ≤ gb194));clear HB;have HB:=n0_;have BK194:=n1_;have GW194:=n2_;have GE194:=n3_;clear n0_ n1_ n2_ n3_;clear hb hbox hg;have hcz7_0 : w6.cell? ⟨gb194,0,none⟩ = some (.int .i64 a0_0):=(bC BK194.out 0).trans rfl;have hcz7_1 : w6.cell? ⟨gb194,1,none⟩ = some (.int .i64 a0_1):=(bC BK194.out 1).trans rfl;have hcz7_2 : w6.cell? ⟨gb194,2,none⟩ = some (.slice A0_2 l0_2.length c0_2):=(bC BK194.out 2).trans rfl;have hfz7_0:=blk_frozen BK194.out 0;have hfz7_1:=blk_frozen BK194.out 1;have hfz7_2:=blk_frozen BK194.out 2)|(go_at_call 92;(with_reducible refine (spec_l08Leaders.calls k a0_0 a0_1 _ _ l0_2 t195 _ ?side1 ?side2 A2.out).mono ?_);(case side1=>repeat (first|exact (Kd.C_below HR0_2.out HB.out)|(with_reducible refine Kd.C_alloc ?_ _)|(with_reducible refine Kd.C_drewN ?_ _)|(with_reducible refine Kd.C_drew ?_)));(case side2=>exact HC0_2.out);rintro e w8 ⟨v196,rfl,ho0,hb⟩;have n0_:=aK (Kd.R_lower ho0 (below_size (bW HB.out)));have n1_:=aK (bB (bX BK194.out) hb);have n2_:=aK (below_step (bW HB.out) hb);clear BK194;clear HB;have HO197:=n0_;have BK194:=n1_;have HB:=n2_;clear n0_ n1_ n2_;(try clear hb);(try clear hb2);(try clear hk);(try clear hi);(try clear ho0);obtain ⟨Ao9,co9,eo9⟩:=Kd.R_slice HO197.out;subst eo9;have p198 : 0 ≤ ((ji3) : Int):=of_decide_eq_true (by first|(with_reducible assumption)|assumption);have q198 : (ji3) < (t195.length : Int):=of_decide_eq_true (by first|(with_reducible assumption)|assumption);obtain ⟨ad198,e198,hx198_0⟩:=Kd.at_int (Kd.R_reads' HO197.out).2.2 (ji3) p198 q198;cases e198;replace p198:=eq_true p198;replace q198:=eq_true q198;have hcz10_0 : w8.cell? ⟨gb194,0,none⟩ = some (.int .i64 a0_0):=(bC BK194.out 0).trans rfl;have hcz10_1 : w8.cell? ⟨gb194,1,none⟩ = some (.int .i64 a0_1):=(bC BK194.out 1).trans rfl;have hcz10_2 : w8.cell? ⟨gb194,2,none⟩ = some (.slice A0_2 l0_2.length c0_2):=(bC BK194.out 2).trans rfl;have hfz10_0:=blk_frozen BK194.out 0;have hfz10_1:=blk_frozen BK194.out 1;have hfz10_2:=blk_frozen BK194.out 2));try go_wp2_with (first|((with_reducible refine gate_dst (N:=1) rfl ?_);refine box_event ?hg (N:=1) ?hd (cs:=#[.int .i64 a0_0,.int .i64 a0_1,.slice A0_2 l0_2.length c0_2]) (t:=27) ?hr ?_;(case hd=>rfl);(case hg=>rfl);(case hr=>first|(go_simp;done)|(go_simp;rfl));intro gb194 hg w6 hbox hb;have n0_:=aK (below_step (bW HB.out) hb);have n1_:=aK (hbox);have n2_:=aK ((by rw [hg];exact (below_size (bW HB.out)) : w.heap.size ≤ gb194));have n3_:=aK ((by rw [hg];exact (below_size (bW HB.out)) : w.heap.size ≤ gb194));clear HB;have HB:=n0_;have BK194:=n1_;have GW194:=n2_;have GE194:=n3_;clear n0_ n1_ n2_ n3_;clear hb hbox hg;have hcz7_0 : w6.cell? ⟨gb194,0,none⟩ = some (.int .i64 a0_0):=(bC BK194.out 0).trans rfl;have hcz7_1 : w6.cell? ⟨gb194,1,none⟩ = some (.int .i64 a0_1):=(bC BK194.out 1).trans rfl;have hcz7_2 : w6.cell? ⟨gb194,2,none⟩ = some (.slice A0_2 l0_2.length c0_2):=(bC BK194.out 2).trans rfl;have hfz7_0:=blk_frozen BK194.out 0;have hfz7_1:=blk_frozen BK194.out 1;have hfz7_2:=blk_frozen BK194.out 2)|(go_at_call 92;(with_reducible refine (spec_l08Leaders.calls k a0_0 a0_1 _ _ l0_2 t195 _ ?side1 ?side2 A2.out).mono ?_);(case side1=>repeat (first|exact (Kd.C_below HR0_2.out HB.out)|(with_reducible refine Kd.C_alloc ?_ _)|(with_reducible refine Kd.C_drewN ?_ _)|(with_reducible refine Kd.C_drew ?_)));(case side2=>exact HC0_2.out);rintro e w8 ⟨v196,rfl,ho0,hb⟩;have n0_:=aK (Kd.R_lower ho0 (below_size (bW HB.out)));have n1_:=aK (bB (bX BK194.out) hb);have n2_:=aK (below_step (bW HB.out) hb);clear BK194;clear HB;have HO197:=n0_;have BK194:=n1_;have HB:=n2_;clear n0_ n1_ n2_;(try clear hb);(try clear hb2);(try clear hk);(try clear hi);(try clear ho0);obtain ⟨Ao9,co9,eo9⟩:=Kd.R_slice HO197.out;subst eo9;have p198 : 0 ≤ ((ji3) : Int):=of_decide_eq_true (by first|(with_reducible assumption)|assumption);have q198 : (ji3) < (t195.length : Int):=of_decide_eq_true (by first|(with_reducible assumption)|assumption);obtain ⟨ad198,e198,hx198_0⟩:=Kd.at_int (Kd.R_reads' HO197.out).2.2 (ji3) p198 q198;cases e198;replace p198:=eq_true p198;replace q198:=eq_true q198;have hcz10_0 : w8.cell? ⟨gb194,0,none⟩ = some (.int .i64 a0_0):=(bC BK194.out 0).trans rfl;have hcz10_1 : w8.cell? ⟨gb194,1,none⟩ = some (.int .i64 a0_1):=(bC BK194.out 1).trans rfl;have hcz10_2 : w8.cell? ⟨gb194,2,none⟩ = some (.slice A0_2 l0_2.length c0_2):=(bC BK194.out 2).trans rfl;have hfz10_0:=blk_frozen BK194.out 0;have hfz10_1:=blk_frozen BK194.out 1;have hfz10_2:=blk_frozen BK194.out 2)))
   go_ret
   exact ⟨by first|rfl|(simp [errW_none,errW_some] <;> rfl)|(simp only [← hji3];first|rfl|(simp [errW_none,errW_some] <;> rfl))|(simp [*,errW_none,errW_some] <;> rfl),bW HB.out⟩
  ·rw [if_neg c5] at H
   exact absurd H (by simp)
 ·rw [if_neg c4] at H
  exact absurd H (by simp)

/-! ### spec_l08Left: function 120 -/
def spec_l08Left.l0 : Nat → Int → List Int → Int → List (List Int) → Int → Int → List Int → Option (List Int)
 | 0,_,_,_,_,_,_,_=>none
 | k + 1,x2,x7,x8,x200000,x201000,x201001,x201002=>if 0 ≤ x2 then (if x2 < (x200000.length : Int) then (if x8 < ((rd_L1 x200000 x2).length : Int) then (if 0 ≤ x8 then ((spec_l01Has.f k x201002 (rd (rd_L1 x200000 x2) x8)).bind fun t207=>(if t207 = true then (spec_l08Left.l0 k x2 x7 (wrap64 (x8 + 1)) x200000 x201000 x201001 x201002) else (if x7.length < 17592186044416 then (spec_l08Left.l0 k x2 (x7 ++ [rd (rd_L1 x200000 x2) x8]) (wrap64 (x8 + 1)) x200000 x201000 x201001 x201002) else (none)))) else (none)) else (some x7)) else (none)) else (none)
def spec_l08Left.f (k : Nat) (l0_0 : List (List Int)) (a1_0 : Int) (a1_1 : Int) (l1_2 : List Int) (a2 : Int) : Option (List Int) := spec_l08Left.l0 k a2 (([] : List Int)) 0 l0_0 a1_0 a1_1 l1_2
theorem spec_l08Left.mono_l : ∀ k, (∀ y0 y1 y2 y3 y4 y5 y6, LeO (spec_l08Left.l0 k y0 y1 y2 y3 y4 y5 y6) (spec_l08Left.l0 (k + 1) y0 y1 y2 y3 y4 y5 y6))
 | 0=>fun _ _ _ _ _ _ _ r h=>by simp [spec_l08Left.l0] at h
 | k + 1=>by
  have ih0:=spec_l08Left.mono_l k
  ·intro y0 y1 y2 y3 y4 y5 y6
   unfold spec_l08Left.l0
   repeat' first
   | (with_reducible exact ih0 _ _ _ _ _ _ _)
   | (with_reducible exact spec_l01Has.mono _ _ _)
   | (with_reducible exact LeO.refl _)
   | (with_reducible exact LeO.none _)
   | (with_reducible refine LeO.ite ?_ ?_)
   | (with_reducible refine LeO.bind ?_ (fun _=>?_))
   | exact ih0 _ _ _ _ _ _ _
   | exact spec_l01Has.mono _ _ _
   | exact LeO.none _
   | refine LeO.ite ?_ ?_
   | refine LeO.bind ?_ (fun _=>?_)
theorem spec_l08Left.mono : ∀ a0 a1 a2 a3 a4 k, LeO (spec_l08Left.f k a0 a1 a2 a3 a4) (spec_l08Left.f (k + 1) a0 a1 a2 a3 a4) := by
 intro a0 a1 a2 a3 a4 k
 have ih0:=spec_l08Left.mono_l k
 unfold spec_l08Left.f
 repeat' first
   | (with_reducible exact ih0 _ _ _ _ _ _ _)
   | (with_reducible exact spec_l01Has.mono _ _ _)
   | (with_reducible exact LeO.refl _)
   | (with_reducible exact LeO.none _)
   | (with_reducible refine LeO.ite ?_ ?_)
   | (with_reducible refine LeO.bind ?_ (fun _=>?_))
   | exact ih0 _ _ _ _ _ _ _
   | exact spec_l01Has.mono _ _ _
   | exact LeO.none _
   | refine LeO.ite ?_ ?_
   | refine LeO.bind ?_ (fun _=>?_)
set_option maxHeartbeats 8000000 in
set_option maxRecDepth 100000 in
theorem spec_l08Left.calls (k : Nat) (A0_0 : Option Addr) (c0_0 : Nat) (l0_0 : List (List Int)) (a1_0 : Int) (a1_1 : Int) (A1_2 : Option Addr) (c1_2 : Nat) (l1_2 : List Int) (a2 : Int) (r : List Int) (w : World) (hr0_0 : Kd.C (Kd.slice 2 (Kd.int .i64)) w A0_0 l0_0.length l0_0) (hc0_0 : l0_0.length ≤ c0_0) (hr1_2 : Kd.C (Kd.int .i64) w A1_2 l1_2.length l1_2) (hc1_2 : l1_2.length ≤ c1_2) (h : spec_l08Left.f k l0_0 a1_0 a1_1 l1_2 a2 = some r) :
  Calls Try.prog 120 #[.agg #[.slice A0_0 l0_0.length c0_0],.agg #[.int .i64 a1_0,.int .i64 a1_1,.slice A1_2 l1_2.length c1_2],.int .i64 a2] w fun e w'=>∃ v0_ : Value,e = .returned (v0_) ∧ Kd.R (Kd.int .i64) 2 w' w.heap.size (fun _=>True) v0_ r ∧ Below w.heap.size w w':=by
 have hu44:=Try.underlying44
 have hu27:=Try.underlying27
 have HR0_0:=aK hr0_0
 have HC0_0:=aK hc0_0
 clear hr0_0 hc0_0
 have HR1_2:=aK hr1_2
 have HC1_2:=aK hc1_2
 clear hr1_2 hc1_2
 have HB:=aK (Below.refl w.heap.size w)
 have H : (spec_l08Left.l0 k a2 (([] : List Int)) 0 l0_0 a1_0 a1_1 l1_2) = some r:=h
 clear h
 obtain ⟨y201,hy201⟩ : ∃ y_ : List Int,y_ = (([] : List Int)):=⟨_,rfl⟩
 replace H : (spec_l08Left.l0 k a2 y201 0 l0_0 a1_0 a1_1 l1_2) = some r:=by first|(rw [hy201];with_reducible exact H)|(have H2_:=(Option.bind_some _ _).symm.trans H;rw [hy201];with_reducible exact H2_)|(have H2_:=(Option.bind_some _ _).symm.trans H;with_reducible exact H2_)|with_reducible exact H|(rw [hy201];exact H)|exact H
 have Ny201:=aK hy201
 clear hy201
 have H':=aK H
 clear H
 go_enter Try.func120,Try.ntmps120
 go_wp2_with (first|((with_reducible refine gate_dst (N:=3) rfl ?_);refine box_event ?hg (N:=3) ?hd (cs:=#[.slice A0_0 l0_0.length c0_0]) (t:=44) ?hr ?_;(case hd=>rfl);(case hg=>rfl);(case hr=>first|(go_simp;done)|(go_simp;rfl));intro gb199 hg w4 hbox hb;have n0_:=aK (below_step (bW HB.out) hb);have n1_:=aK (hbox);have n2_:=aK ((by rw [hg];exact (below_size (bW HB.out)) : w.heap.size ≤ gb199));have n3_:=aK ((by rw [hg];exact (below_size (bW HB.out)) : w.heap.size ≤ gb199));clear HB;have HB:=n0_;have BK199:=n1_;have GW199:=n2_;have GE199:=n3_;clear n0_ n1_ n2_ n3_;clear hb hbox hg)|((with_reducible refine gate_dst (N:=4) rfl ?_);refine box_event ?hg (N:=4) ?hd (cs:=#[.int .i64 a1_0,.int .i64 a1_1,.slice A1_2 l1_2.length c1_2]) (t:=27) ?hr ?_;(case hd=>rfl);(case hg=>rfl);(case hr=>first|(go_simp;done)|(go_simp;rfl));intro gb200 hg w5 hbox hb;have n0_:=aK (bB (bX BK199.out) hb);have n1_:=aK (below_step (bW HB.out) hb);have n2_:=aK (hbox);have n3_:=aK ((by rw [hg];exact (below_size (bW HB.out)) : w.heap.size ≤ gb200));have n4_:=aK ((by rw [hg];exact (below_size (bW HB.out)) : w.heap.size ≤ gb200));have n5_:=aK ((by rw [hg];exact Nat.ne_of_lt (blk_lt (bX BK199.out)) : gb199 ≠ gb200));have n6_:=aK ((by rw [hg];exact Nat.ne_of_gt (blk_lt (bX BK199.out)) : gb200 ≠ gb199));clear BK199;clear HB;have BK199:=n0_;have HB:=n1_;have BK200:=n2_;have GW200:=n3_;have GE200:=n4_;have NB199_200:=n5_;have NB200_199:=n6_;clear n0_ n1_ n2_ n3_ n4_ n5_ n6_;clear hb hbox hg)|((with_reducible refine gate_dst (N:=9) rfl ?_);refine Kd.R_lit (Kd.int .i64) _ 2 ?hg (N:=9) ?hd (xs:=([] : List Int)) (inner:=[]) (ok:=fun _=>True) (okp:=fun _=>True) ?hr ?hp (fun _ hk=>hk) trivial (Below.refl _ _) (Nat.le_refl _) (by simp) ?_;(case hd=>rfl);(case hg=>rfl);(case hr=>first|(go_simp;done)|(go_simp;rfl));(case hp=>exact (Reps.none _ _));intro v202 w6 ho7 hb hg_ hnew_;clear hg_ hnew_;(first|rw [← Ny201.out] at ho7|(simp only [Int.reduceToNat] at ho7;rw [← Ny201.out] at ho7));have n0_:=aK (Kd.R_lower ho7 (below_size (bW HB.out)));have n1_:=aK (bB (bX BK199.out) hb);have n2_:=aK (bB (bX BK200.out) hb);have n3_:=aK (below_step (bW HB.out) hb);clear BK199;clear BK200;clear HB;have HO203:=n0_;have BK199:=n1_;have BK200:=n2_;have HB:=n3_;clear n0_ n1_ n2_ n3_;clear hb ho7))
 repeat (go_quiet (first|((with_reducible refine gate_dst (N:=3) rfl ?_);refine box_event ?hg (N:=3) ?hd (cs:=#[.slice A0_0 l0_0.length c0_0]) (t:=44) ?hr ?_;(case hd=>rfl);(case hg=>rfl);(case hr=>first|(go_simp;done)|(go_simp;rfl));intro gb199 hg w4 hbox hb;have n0_:=aK (below_step (bW HB.out) hb);have n1_:=aK (hbox);have n2_:=aK ((by rw [hg];exact (below_size (bW HB.out)) : w.heap.size ≤ gb199));have n3_:=aK ((by rw [hg];exact (below_size (bW HB.out)) : w.heap.size ≤ gb199));clear HB;have HB:=n0_;have BK199:=n1_;have GW199:=n2_;have GE199:=n3_;clear n0_ n1_ n2_ n3_;clear hb hbox hg)|((with_reducible refine gate_dst (N:=4) rfl ?_);refine box_event ?hg (N:=4) ?hd (cs:=#[.int .i64 a1_0,.int .i64 a1_1,.slice A1_2 l1_2.length c1_2]) (t:=27) ?hr ?_;(case hd=>rfl);(case hg=>rfl);(case hr=>first|(go_simp;done)|(go_simp;rfl));intro gb200 hg w5 hbox hb;have n0_:=aK (bB (bX BK199.out) hb);have n1_:=aK (below_step (bW HB.out) hb);have n2_:=aK (hbox);have n3_:=aK ((by rw [hg];exact (below_size (bW HB.out)) : w.heap.size ≤ gb200));have n4_:=aK ((by rw [hg];exact (below_size (bW HB.out)) : w.heap.size ≤ gb200));have n5_:=aK ((by rw [hg];exact Nat.ne_of_lt (blk_lt (bX BK199.out)) : gb199 ≠ gb200));have n6_:=aK ((by rw [hg];exact Nat.ne_of_gt (blk_lt (bX BK199.out)) : gb200 ≠ gb199));clear BK199;clear HB;have BK199:=n0_;have HB:=n1_;have BK200:=n2_;have GW200:=n3_;have GE200:=n4_;have NB199_200:=n5_;have NB200_199:=n6_;clear n0_ n1_ n2_ n3_ n4_ n5_ n6_;clear hb hbox hg)|((with_reducible refine gate_dst (N:=9) rfl ?_);refine Kd.R_lit (Kd.int .i64) _ 2 ?hg (N:=9) ?hd (xs:=([] : List Int)) (inner:=[]) (ok:=fun _=>True) (okp:=fun _=>True) ?hr ?hp (fun _ hk=>hk) trivial (Below.refl _ _) (Nat.le_refl _) (by simp) ?_;(case hd=>rfl);(case hg=>rfl);(case hr=>first|(go_simp;done)|(go_simp;rfl));(case hp=>exact (Reps.none _ _));intro v202 w6 ho7 hb hg_ hnew_;clear hg_ hnew_;(first|rw [← Ny201.out] at ho7|(simp only [Int.reduceToNat] at ho7;rw [← Ny201.out] at ho7));have n0_:=aK (Kd.R_lower ho7 (below_size (bW HB.out)));have n1_:=aK (bB (bX BK199.out) hb);have n2_:=aK (bB (bX BK200.out) hb);have n3_:=aK (below_step (bW HB.out) hb);clear BK199;clear BK200;clear HB;have HO203:=n0_;have BK199:=n1_;have BK200:=n2_;have HB:=n3_;clear n0_ n1_ n2_ n3_;clear hb ho7));try go_wp2_with (first|((with_reducible refine gate_dst (N:=3) rfl ?_);refine box_event ?hg (N:=3) ?hd (cs:=#[.slice A0_0 l0_0.length c0_0]) (t:=44) ?hr ?_;(case hd=>rfl);(case hg=>rfl);(case hr=>first|(go_simp;done)|(go_simp;rfl));intro gb199 hg w4 hbox hb;have n0_:=aK (below_step (bW HB.out) hb);have n1_:=aK (hbox);have n2_:=aK ((by rw [hg];exact (below_size (bW HB.out)) : w.heap.size ≤ gb199));have n3_:=aK ((by rw [hg];exact (below_size (bW HB.out)) : w.heap.size ≤ gb199));clear HB;have HB:=n0_;have BK199:=n1_;have GW199:=n2_;have GE199:=n3_;clear n0_ n1_ n2_ n3_;clear hb hbox hg)|((with_reducible refine gate_dst (N:=4) rfl ?_);refine box_event ?hg (N:=4) ?hd (cs:=#[.int .i64 a1_0,.int .i64 a1_1,.slice A1_2 l1_2.length c1_2]) (t:=27) ?hr ?_;(case hd=>rfl);(case hg=>rfl);(case hr=>first|(go_simp;done)|(go_simp;rfl));intro gb200 hg w5 hbox hb;have n0_:=aK (bB (bX BK199.out) hb);have n1_:=aK (below_step (bW HB.out) hb);have n2_:=aK (hbox);have n3_:=aK ((by rw [hg];exact (below_size (bW HB.out)) : w.heap.size ≤ gb200));have n4_:=aK ((by rw [hg];exact (below_size (bW HB.out)) : w.heap.size ≤ gb200));have n5_:=aK ((by rw [hg];exact Nat.ne_of_lt (blk_lt (bX BK199.out)) : gb199 ≠ gb200));have n6_:=aK ((by rw [hg];exact Nat.ne_of_gt (blk_lt (bX BK199.out)) : gb200 ≠ gb199));clear BK199;clear HB;have BK199:=n0_;have HB:=n1_;have BK200:=n2_;have GW200:=n3_;have GE200:=n4_;have NB199_200:=n5_;have NB200_199:=n6_;clear n0_ n1_ n2_ n3_ n4_ n5_ n6_;clear hb hbox hg)|((with_reducible refine gate_dst (N:=9) rfl ?_);refine Kd.R_lit (Kd.int .i64) _ 2 ?hg (N:=9) ?hd (xs:=([] : List Int)) (inner:=[]) (ok:=fun _=>True) (okp:=fun _=>True) ?hr ?hp (fun _ hk=>hk) trivial (Below.refl _ _) (Nat.le_refl _) (by simp) ?_;(case hd=>rfl);(case hg=>rfl);(case hr=>first|(go_simp;done)|(go_simp;rfl));(case hp=>exact (Reps.none _ _));intro v202 w6 ho7 hb hg_ hnew_;clear hg_ hnew_;(first|rw [← Ny201.out] at ho7|(simp only [Int.reduceToNat] at ho7;rw [← Ny201.out] at ho7));have n0_:=aK (Kd.R_lower ho7 (below_size (bW HB.out)));have n1_:=aK (bB (bX BK199.out) hb);have n2_:=aK (bB (bX BK200.out) hb);have n3_:=aK (below_step (bW HB.out) hb);clear BK199;clear BK200;clear HB;have HO203:=n0_;have BK199:=n1_;have BK200:=n2_;have HB:=n3_;clear n0_ n1_ n2_ n3_;clear hb ho7)))
 go_loopg [7,8] k (fun kq v7 v8 w'=>∃ (x7_1 : List Int) (x8_1 : Int),v8 = .int .i64 x8_1 ∧ Aside0 (spec_l08Left.l0 kq a2 x7_1 x8_1 l0_0 a1_0 a1_1 l1_2 = some r) ∧ Aside0 (kq ≤ k) ∧ Aside0 (Kd.R (Kd.int .i64) 2 w' w.heap.size (fun _=>True) v7 x7_1) ∧ Aside0 (w'.heap[gb199]? = some (.cells #[(.slice A0_0 l0_0.length c0_0)] 44 (0,0))) ∧ Aside0 (w'.heap[gb200]? = some (.cells #[.int .i64 a1_0,.int .i64 a1_1,(.slice A1_2 l1_2.length c1_2)] 27 (0,0))) ∧ Aside0 (Below w.heap.size w w'))
 case atStart=>exact ⟨(y201),(0),(by first|rfl|(simp;done)|(simp [*];done)),H',⟨Nat.le_refl _⟩,⟨by (with_reducible repeat first|apply Kd.R_alloc|apply Kd.R_drewN|apply Kd.R_drew);exact HO203.out⟩,⟨by (with_reducible repeat first|apply bN|apply bD|apply bA);exact BK199.out⟩,⟨by (with_reducible repeat first|apply bN|apply bD|apply bA);exact BK200.out⟩,⟨bW HB.out⟩⟩
 case round =>
  clear H'
  try clear c1
  try clear p2
  obtain ⟨x7_1,x8_1,rfl,HA,HK1,HO_7,BK199,BK200,HB⟩:=hrel
  cases gk with
  | zero=>exact absurd HA.out (by simp [spec_l08Left.l0])
  | succ k1 =>
   have H:=HA.out
   clear HA
   simp only [spec_l08Left.l0] at H
   by_cases c8 : 0 ≤ a2
   ·rw [if_pos c8] at H
    have c8b0 : decide (0 ≤ a2) = true:=decide_eq_true c8
    clear c8
    by_cases c9 : a2 < (l0_0.length : Int)
    ·rw [if_pos c9] at H
     have c9b0 : decide (a2 < (l0_0.length : Int)) = true:=decide_eq_true c9
     clear c9
     by_cases c10 : x8_1 < ((rd_L1 l0_0 a2).length : Int)
     ·rw [if_pos c10] at H
      have c10b0 : decide (x8_1 < ((rd_L1 l0_0 a2).length : Int)) = true:=decide_eq_true c10
      clear c10
      by_cases c11 : 0 ≤ x8_1
      ·rw [if_pos c11] at H
       have c11b0 : decide (0 ≤ x8_1) = true:=decide_eq_true c11
       clear c11
       replace H:=Option.bind_eq_some_iff.mp H
       obtain ⟨t207,A120,H⟩:=H
       replace H : (if t207 = true then (spec_l08Left.l0 k1 a2 x7_1 (wrap64 (x8_1 + 1)) l0_0 a1_0 a1_1 l1_2) else (if x7_1.length < 17592186044416 then (spec_l08Left.l0 k1 a2 (x7_1 ++ [rd (rd_L1 l0_0 a2) x8_1]) (wrap64 (x8_1 + 1)) l0_0 a1_0 a1_1 l1_2) else (none))) = some r:=H
       have A12:=aK A120
       clear A120
       by_cases c13 : t207 = true
       ·subst c13
        have H1 : (spec_l08Left.l0 k1 a2 x7_1 (wrap64 (x8_1 + 1)) l0_0 a1_0 a1_1 l1_2) = some r:=by rw [if_pos rfl] at H;exact H
        clear H
        have H:=H1
        clear H1
        have H':=aK H
        clear H
        have hnb14:=NB199_200.out
        have hnc14:=NB200_199.out
        have hcz15_0 : wr.cell? ⟨gb199,0,none⟩ = some (.slice A0_0 l0_0.length c0_0):=(bC BK199.out 0).trans rfl
        have hfz15_0:=blk_frozen BK199.out 0
        have p204 : 0 ≤ (a2 : Int):=of_decide_eq_true (by first|(with_reducible assumption)|assumption)
        have q204 : a2 < (l0_0.length : Int):=of_decide_eq_true (by first|(with_reducible assumption)|assumption)
        obtain ⟨ad204,A204_0,c204_0,e204,hx204_0,hl204_0,hi204_0⟩:=at_L1 HR0_0.out a2 p204 q204
        cases e204
        replace hx204_0:=(HB.out.cell (World.block_lt_of_cell? w _ hx204_0)).trans hx204_0
        have HR204_0:=aK hi204_0
        have HC204_0:=aK hl204_0
        clear hi204_0 hl204_0
        replace p204:=eq_true p204
        replace q204:=eq_true q204
        have hcz16_0 : wr.cell? ⟨gb200,0,none⟩ = some (.int .i64 a1_0):=(bC BK200.out 0).trans rfl
        have hcz16_1 : wr.cell? ⟨gb200,1,none⟩ = some (.int .i64 a1_1):=(bC BK200.out 1).trans rfl
        have hcz16_2 : wr.cell? ⟨gb200,2,none⟩ = some (.slice A1_2 l1_2.length c1_2):=(bC BK200.out 2).trans rfl
        have hfz16_0:=blk_frozen BK200.out 0
        have hfz16_1:=blk_frozen BK200.out 1
        have hfz16_2:=blk_frozen BK200.out 2
        have p205 : 0 ≤ (a2 : Int):=of_decide_eq_true (by first|(with_reducible assumption)|assumption)
        have q205 : a2 < (l0_0.length : Int):=of_decide_eq_true (by first|(with_reducible assumption)|assumption)
        obtain ⟨ad205,A205_0,c205_0,e205,hx205_0,hl205_0,hi205_0⟩:=at_L1 HR0_0.out a2 p205 q205
        obtain rfl : ad204 = ad205:=(by injection e205)
        replace hx205_0:=(HB.out.cell (World.block_lt_of_cell? w _ hx205_0)).trans hx205_0
        have HR205_0:=aK hi205_0
        have HC205_0:=aK hl205_0
        clear hi205_0 hl205_0
        replace p205:=eq_true p205
        replace q205:=eq_true q205
        have ea_:=Option.some.inj (hx204_0.symm.trans hx205_0)
        injection ea_ with ea_ en_ ec_
        subst ea_
        subst ec_
        clear en_
        have p206 : 0 ≤ (x8_1 : Int):=of_decide_eq_true (by first|(with_reducible assumption)|assumption)
        have q206 : x8_1 < ((rd_L1 l0_0 a2).length : Int):=of_decide_eq_true (by first|(with_reducible assumption)|assumption)
        obtain ⟨ad206,e206,hx206_0⟩:=Kd.at_int HR205_0.out x8_1 p206 q206
        cases e206
        replace hx206_0:=(HB.out.cell (World.block_lt_of_cell? w _ hx206_0)).trans hx206_0
        replace p206:=eq_true p206
        replace q206:=eq_true q206
        go_wp2_with (first|(go_at_call 82;(with_reducible refine (spec_l01Has.calls k1 _ _ l1_2 (rd (rd_L1 l0_0 a2) x8_1) true _ ?side1 ?side2 A12.out).mono ?_);(case side1=>repeat (first|exact (Kd.C_below HR1_2.out HB.out)|(with_reducible refine Kd.C_alloc ?_ _)|(with_reducible refine Kd.C_drewN ?_ _)|(with_reducible refine Kd.C_drew ?_)));(case side2=>exact HC1_2.out);rintro e w' ⟨rfl,⟨nd,rfl⟩⟩;(try first|exact ⟨rfl,_,World.drewN_drewN _ _ _⟩|exact ⟨rfl,_,Eq.trans (World.drewN_drewN _ _ _) (congrArg (World.drewN _) (Nat.add_assoc _ _ _))⟩)))
        repeat (go_quiet (first|(go_at_call 82;(with_reducible refine (spec_l01Has.calls k1 _ _ l1_2 (rd (rd_L1 l0_0 a2) x8_1) true _ ?side1 ?side2 A12.out).mono ?_);(case side1=>repeat (first|exact (Kd.C_below HR1_2.out HB.out)|(with_reducible refine Kd.C_alloc ?_ _)|(with_reducible refine Kd.C_drewN ?_ _)|(with_reducible refine Kd.C_drew ?_)));(case side2=>exact HC1_2.out);rintro e w' ⟨rfl,⟨nd,rfl⟩⟩;(try first|exact ⟨rfl,_,World.drewN_drewN _ _ _⟩|exact ⟨rfl,_,Eq.trans (World.drewN_drewN _ _ _) (congrArg (World.drewN _) (Nat.add_assoc _ _ _))⟩)));try go_wp2_with (first|(go_at_call 82;(with_reducible refine (spec_l01Has.calls k1 _ _ l1_2 (rd (rd_L1 l0_0 a2) x8_1) true _ ?side1 ?side2 A12.out).mono ?_);(case side1=>repeat (first|exact (Kd.C_below HR1_2.out HB.out)|(with_reducible refine Kd.C_alloc ?_ _)|(with_reducible refine Kd.C_drewN ?_ _)|(with_reducible refine Kd.C_drew ?_)));(case side2=>exact HC1_2.out);rintro e w' ⟨rfl,⟨nd,rfl⟩⟩;(try first|exact ⟨rfl,_,World.drewN_drewN _ _ _⟩|exact ⟨rfl,_,Eq.trans (World.drewN_drewN _ _ _) (congrArg (World.drewN _) (Nat.add_assoc _ _ _))⟩))))
        go_roundg k1
        case measure=>have:=HK1.out;omega
        case rel=>exact ⟨(x7_1),(wrap64 (x8_1 + 1)),(by first|rfl|(simp;done)|(simp [*];done)),H',⟨by have:=HK1.out;omega⟩,⟨by (with_reducible repeat first|apply Kd.R_alloc|apply Kd.R_drewN|apply Kd.R_drew);exact HO_7.out⟩,⟨by (with_reducible repeat first|apply bN|apply bD|apply bA);exact BK199.out⟩,⟨by (with_reducible repeat first|apply bN|apply bD|apply bA);exact BK200.out⟩,⟨bW HB.out⟩⟩
       ·replace c13:=Bool.eq_false_iff.mpr c13
        subst c13
        have H1 : (if x7_1.length < 17592186044416 then (spec_l08Left.l0 k1 a2 (x7_1 ++ [rd (rd_L1 l0_0 a2) x8_1]) (wrap64 (x8_1 + 1)) l0_0 a1_0 a1_1 l1_2) else (none)) = some r:=by rw [if_neg (show ¬ (false = true) by decide)] at H;exact H
        clear H
        have H:=H1
        clear H1
        by_cases c17 : x7_1.length < 17592186044416
        ·rw [if_pos c17] at H
         have LMc17:=aK c17
         clear c17
         obtain ⟨y210,hy210⟩ : ∃ y_ : List Int,y_ = (x7_1 ++ [rd (rd_L1 l0_0 a2) x8_1]):=⟨_,rfl⟩
         replace H : (spec_l08Left.l0 k1 a2 y210 (wrap64 (x8_1 + 1)) l0_0 a1_0 a1_1 l1_2) = some r:=by first|(rw [hy210];with_reducible exact H)|(have H2_:=(Option.bind_some _ _).symm.trans H;rw [hy210];with_reducible exact H2_)|(have H2_:=(Option.bind_some _ _).symm.trans H;with_reducible exact H2_)|with_reducible exact H|(rw [hy210];exact H)|exact H
         have Ny210:=aK hy210
         clear hy210
         have H':=aK H
         clear H
         have hnb18:=NB199_200.out
         have hnc18:=NB200_199.out
         have hcz19_0 : wr.cell? ⟨gb199,0,none⟩ = some (.slice A0_0 l0_0.length c0_0):=(bC BK199.out 0).trans rfl
         have hfz19_0:=blk_frozen BK199.out 0
         have p204 : 0 ≤ (a2 : Int):=of_decide_eq_true (by first|(with_reducible assumption)|assumption)
         have q204 : a2 < (l0_0.length : Int):=of_decide_eq_true (by first|(with_reducible assumption)|assumption)
         obtain ⟨ad204,A204_0,c204_0,e204,hx204_0,hl204_0,hi204_0⟩:=at_L1 HR0_0.out a2 p204 q204
         cases e204
         replace hx204_0:=(HB.out.cell (World.block_lt_of_cell? w _ hx204_0)).trans hx204_0
         have HR204_0:=aK hi204_0
         have HC204_0:=aK hl204_0
         clear hi204_0 hl204_0
         replace p204:=eq_true p204
         replace q204:=eq_true q204
         have hcz20_0 : wr.cell? ⟨gb200,0,none⟩ = some (.int .i64 a1_0):=(bC BK200.out 0).trans rfl
         have hcz20_1 : wr.cell? ⟨gb200,1,none⟩ = some (.int .i64 a1_1):=(bC BK200.out 1).trans rfl
         have hcz20_2 : wr.cell? ⟨gb200,2,none⟩ = some (.slice A1_2 l1_2.length c1_2):=(bC BK200.out 2).trans rfl
         have hfz20_0:=blk_frozen BK200.out 0
         have hfz20_1:=blk_frozen BK200.out 1
         have hfz20_2:=blk_frozen BK200.out 2
         have p205 : 0 ≤ (a2 : Int):=of_decide_eq_true (by first|(with_reducible assumption)|assumption)
         have q205 : a2 < (l0_0.length : Int):=of_decide_eq_true (by first|(with_reducible assumption)|assumption)
         obtain ⟨ad205,A205_0,c205_0,e205,hx205_0,hl205_0,hi205_0⟩:=at_L1 HR0_0.out a2 p205 q205
         obtain rfl : ad204 = ad205:=(by injection e205)
         replace hx205_0:=(HB.out.cell (World.block_lt_of_cell? w _ hx205_0)).trans hx205_0
         have HR205_0:=aK hi205_0
         have HC205_0:=aK hl205_0
         clear hi205_0 hl205_0
         replace p205:=eq_true p205
         replace q205:=eq_true q205
         have ea_:=Option.some.inj (hx204_0.symm.trans hx205_0)
         injection ea_ with ea_ en_ ec_
         subst ea_
         subst ec_
         clear en_
         have p206 : 0 ≤ (x8_1 : Int):=of_decide_eq_true (by first|(with_reducible assumption)|assumption)
         have q206 : x8_1 < ((rd_L1 l0_0 a2).length : Int):=of_decide_eq_true (by first|(with_reducible assumption)|assumption)
         obtain ⟨ad206,e206,hx206_0⟩:=Kd.at_int HR205_0.out x8_1 p206 q206
         cases e206
         replace hx206_0:=(HB.out.cell (World.block_lt_of_cell? w _ hx206_0)).trans hx206_0
         replace p206:=eq_true p206
         replace q206:=eq_true q206
         go_wp2_with (first|(go_at_call 82;(with_reducible refine (spec_l01Has.calls k1 _ _ l1_2 (rd (rd_L1 l0_0 a2) x8_1) false _ ?side1 ?side2 A12.out).mono ?_);(case side1=>repeat (first|exact (Kd.C_below HR1_2.out HB.out)|(with_reducible refine Kd.C_alloc ?_ _)|(with_reducible refine Kd.C_drewN ?_ _)|(with_reducible refine Kd.C_drew ?_)));(case side2=>exact HC1_2.out);rintro e w' ⟨rfl,⟨nd,rfl⟩⟩;(try first|exact ⟨rfl,_,World.drewN_drewN _ _ _⟩|exact ⟨rfl,_,Eq.trans (World.drewN_drewN _ _ _) (congrArg (World.drewN _) (Nat.add_assoc _ _ _))⟩);have p208 : 0 ≤ (a2 : Int):=of_decide_eq_true (by first|(with_reducible assumption)|assumption);have q208 : a2 < (l0_0.length : Int):=of_decide_eq_true (by first|(with_reducible assumption)|assumption);obtain ⟨ad208,A208_0,c208_0,e208,hx208_0,hl208_0,hi208_0⟩:=at_L1 HR0_0.out a2 p208 q208;obtain rfl : ad204 = ad208:=(by injection e208);replace hx208_0:=(HB.out.cell (World.block_lt_of_cell? w _ hx208_0)).trans hx208_0;have HR208_0:=aK hi208_0;have HC208_0:=aK hl208_0;clear hi208_0 hl208_0;replace p208:=eq_true p208;replace q208:=eq_true q208;have ea_:=Option.some.inj (hx204_0.symm.trans hx208_0);injection ea_ with ea_ en_ ec_;subst ea_;subst ec_;clear en_;have p209 : 0 ≤ (x8_1 : Int):=of_decide_eq_true (by first|(with_reducible assumption)|assumption);have q209 : x8_1 < ((rd_L1 l0_0 a2).length : Int):=of_decide_eq_true (by first|(with_reducible assumption)|assumption);obtain ⟨ad209,e209,hx209_0⟩:=Kd.at_int HR208_0.out x8_1 p209 q209;cases e209;replace hx209_0:=(HB.out.cell (World.block_lt_of_cell? w _ hx209_0)).trans hx209_0;replace p209:=eq_true p209;replace q209:=eq_true q209)|((with_reducible refine gate_builtin (b:=.append) (xs:=#[.tmp 32,.tmp 41]) rfl ?_);at_builtin;refine Kd.R_append (Kd.int .i64) (w0:=w) w.heap.size rfl (.tmp 32) (.tmp 41) 22 2 (.int .i64 0) 8 rfl Try.underlying22 info2 rfl (by decide) (by omega) u7 x7_1 (rd (rd_L1 l0_0 a2) x8_1) [.int .i64 (rd (rd_L1 l0_0 a2) x8_1)] (fun _=>True) (fun _=>False) rfl rfl ?aP (fun _ hk=>hk.elim) ?aF ?aO ?aB ?aS ?aL ?_;(case aP=>exact rfl);(case aB=>exact (bW HB.out));(case aF=>exact (fun _ _=>trivial));(case aO=>exact (rX HO_7.out));(case aS=>exact (below_size (bW HB.out)));(case aL=>have:=LMc17.out;omega);intro v211 w21 ho hb hg hat;rw [← Ny210.out] at ho;have n0_:=aK (blk_grown (g:=gb199) (o:=.cells #[.slice (some ad204) l0_0.length c0_0] 44 (0,0)) (bX BK199.out) hg (Kd.R_ne HO_7.out BK199.out (by decide)));have n1_:=aK (blk_grown (g:=gb200) (o:=.cells #[.int .i64 a1_0,.int .i64 a1_1,.slice A1_2 l1_2.length c1_2] 27 (0,0)) (bX BK200.out) hg (Kd.R_ne HO_7.out BK200.out (by decide)));have n2_:=aK (hb);have n3_:=aK (ho);clear BK199;clear BK200;clear HB;clear HO_7;have BK199:=n0_;have BK200:=n1_;have HB:=n2_;have HO212:=n3_;clear n0_ n1_ n2_ n3_;clear ho hb hg hat))
         repeat (go_quiet (first|(go_at_call 82;(with_reducible refine (spec_l01Has.calls k1 _ _ l1_2 (rd (rd_L1 l0_0 a2) x8_1) false _ ?side1 ?side2 A12.out).mono ?_);(case side1=>repeat (first|exact (Kd.C_below HR1_2.out HB.out)|(with_reducible refine Kd.C_alloc ?_ _)|(with_reducible refine Kd.C_drewN ?_ _)|(with_reducible refine Kd.C_drew ?_)));(case side2=>exact HC1_2.out);rintro e w' ⟨rfl,⟨nd,rfl⟩⟩;(try first|exact ⟨rfl,_,World.drewN_drewN _ _ _⟩|exact ⟨rfl,_,Eq.trans (World.drewN_drewN _ _ _) (congrArg (World.drewN _) (Nat.add_assoc _ _ _))⟩);have p208 : 0 ≤ (a2 : Int):=of_decide_eq_true (by first|(with_reducible assumption)|assumption);have q208 : a2 < (l0_0.length : Int):=of_decide_eq_true (by first|(with_reducible assumption)|assumption);obtain ⟨ad208,A208_0,c208_0,e208,hx208_0,hl208_0,hi208_0⟩:=at_L1 HR0_0.out a2 p208 q208;obtain rfl : ad204 = ad208:=(by injection e208);replace hx208_0:=(HB.out.cell (World.block_lt_of_cell? w _ hx208_0)).trans hx208_0;have HR208_0:=aK hi208_0;have HC208_0:=aK hl208_0;clear hi208_0 hl208_0;replace p208:=eq_true p208;replace q208:=eq_true q208;have ea_:=Option.some.inj (hx204_0.symm.trans hx208_0);injection ea_ with ea_ en_ ec_;subst ea_;subst ec_;clear en_;have p209 : 0 ≤ (x8_1 : Int):=of_decide_eq_true (by first|(with_reducible assumption)|assumption);have q209 : x8_1 < ((rd_L1 l0_0 a2).length : Int):=of_decide_eq_true (by first|(with_reducible assumption)|assumption);obtain ⟨ad209,e209,hx209_0⟩:=Kd.at_int HR208_0.out x8_1 p209 q209;cases e209;replace hx209_0:=(HB.out.cell (World.block_lt_of_cell? w _ hx209_0)).trans hx209_0;replace p209:=eq_true p209;replace q209:=eq_true q209)|((with_reducible refine gate_builtin (b:=.append) (xs:=#[.tmp 32,.tmp 41]) rfl ?_);at_builtin;refine Kd.R_append (Kd.int .i64) (w0:=w) w.heap.size rfl (.tmp 32) (.tmp 41) 22 2 (.int .i64 0) 8 rfl Try.underlying22 info2 rfl (by decide) (by omega) u7 x7_1 (rd (rd_L1 l0_0 a2) x8_1) [.int .i64 (rd (rd_L1 l0_0 a2) x8_1)] (fun _=>True) (fun _=>False) rfl rfl ?aP (fun _ hk=>hk.elim) ?aF ?aO ?aB ?aS ?aL ?_;(case aP=>exact rfl);(case aB=>exact (bW HB.out));(case aF=>exact (fun _ _=>trivial));(case aO=>exact (rX HO_7.out));(case aS=>exact (below_size (bW HB.out)));(case aL=>have:=LMc17.out;omega);intro v211 w21 ho hb hg hat;rw [← Ny210.out] at ho;have n0_:=aK (blk_grown (g:=gb199) (o:=.cells #[.slice (some ad204) l0_0.length c0_0] 44 (0,0)) (bX BK199.out) hg (Kd.R_ne HO_7.out BK199.out (by decide)));have n1_:=aK (blk_grown (g:=gb200) (o:=.cells #[.int .i64 a1_0,.int .i64 a1_1,.slice A1_2 l1_2.length c1_2] 27 (0,0)) (bX BK200.out) hg (Kd.R_ne HO_7.out BK200.out (by decide)));have n2_:=aK (hb);have n3_:=aK (ho);clear BK199;clear BK200;clear HB;clear HO_7;have BK199:=n0_;have BK200:=n1_;have HB:=n2_;have HO212:=n3_;clear n0_ n1_ n2_ n3_;clear ho hb hg hat));try go_wp2_with (first|(go_at_call 82;(with_reducible refine (spec_l01Has.calls k1 _ _ l1_2 (rd (rd_L1 l0_0 a2) x8_1) false _ ?side1 ?side2 A12.out).mono ?_);(case side1=>repeat (first|exact (Kd.C_below HR1_2.out HB.out)|(with_reducible refine Kd.C_alloc ?_ _)|(with_reducible refine Kd.C_drewN ?_ _)|(with_reducible refine Kd.C_drew ?_)));(case side2=>exact HC1_2.out);rintro e w' ⟨rfl,⟨nd,rfl⟩⟩;(try first|exact ⟨rfl,_,World.drewN_drewN _ _ _⟩|exact ⟨rfl,_,Eq.trans (World.drewN_drewN _ _ _) (congrArg (World.drewN _) (Nat.add_assoc _ _ _))⟩);have p208 : 0 ≤ (a2 : Int):=of_decide_eq_true (by first|(with_reducible assumption)|assumption);have q208 : a2 < (l0_0.length : Int):=of_decide_eq_true (by first|(with_reducible assumption)|assumption);obtain ⟨ad208,A208_0,c208_0,e208,hx208_0,hl208_0,hi208_0⟩:=at_L1 HR0_0.out a2 p208 q208;obtain rfl : ad204 = ad208:=(by injection e208);replace hx208_0:=(HB.out.cell (World.block_lt_of_cell? w _ hx208_0)).trans hx208_0;have HR208_0:=aK hi208_0;have HC208_0:=aK hl208_0;clear hi208_0 hl208_0;replace p208:=eq_true p208;replace q208:=eq_true q208;have ea_:=Option.some.inj (hx204_0.symm.trans hx208_0);injection ea_ with ea_ en_ ec_;subst ea_;subst ec_;clear en_;have p209 : 0 ≤ (x8_1 : Int):=of_decide_eq_true (by first|(with_reducible assumption)|assumption);have q209 : x8_1 < ((rd_L1 l0_0 a2).length : Int):=of_decide_eq_true (by first|(with_reducible assumption)|assumption);obtain ⟨ad209,e209,hx209_0⟩:=Kd.at_int HR208_0.out x8_1 p209 q209;cases e209;replace hx209_0:=(HB.out.cell (World.block_lt_of_cell? w _ hx209_0)).trans hx209_0;replace p209:=eq_true p209;replace q209:=eq_true q209)|((with_reducible refine gate_builtin (b:=.append) (xs:=#[.tmp 32,.tmp 41]) rfl ?_);at_builtin;refine Kd.R_append (Kd.int .i64) (w0:=w) w.heap.size rfl (.tmp 32) (.tmp 41) 22 2 (.int .i64 0) 8 rfl Try.underlying22 info2 rfl (by decide) (by omega) u7 x7_1 (rd (rd_L1 l0_0 a2) x8_1) [.int .i64 (rd (rd_L1 l0_0 a2) x8_1)] (fun _=>True) (fun _=>False) rfl rfl ?aP (fun _ hk=>hk.elim) ?aF ?aO ?aB ?aS ?aL ?_;(case aP=>exact rfl);(case aB=>exact (bW HB.out));(case aF=>exact (fun _ _=>trivial));(case aO=>exact (rX HO_7.out));(case aS=>exact (below_size (bW HB.out)));(case aL=>have:=LMc17.out;omega);intro v211 w21 ho hb hg hat;rw [← Ny210.out] at ho;have n0_:=aK (blk_grown (g:=gb199) (o:=.cells #[.slice (some ad204) l0_0.length c0_0] 44 (0,0)) (bX BK199.out) hg (Kd.R_ne HO_7.out BK199.out (by decide)));have n1_:=aK (blk_grown (g:=gb200) (o:=.cells #[.int .i64 a1_0,.int .i64 a1_1,.slice A1_2 l1_2.length c1_2] 27 (0,0)) (bX BK200.out) hg (Kd.R_ne HO_7.out BK200.out (by decide)));have n2_:=aK (hb);have n3_:=aK (ho);clear BK199;clear BK200;clear HB;clear HO_7;have BK199:=n0_;have BK200:=n1_;have HB:=n2_;have HO212:=n3_;clear n0_ n1_ n2_ n3_;clear ho hb hg hat)))
         go_roundg k1
         case measure=>have:=HK1.out;omega
         case rel=>exact ⟨(y210),(wrap64 (x8_1 + 1)),(by first|rfl|(simp;done)|(simp [*];done)),H',⟨by have:=HK1.out;omega⟩,⟨by (with_reducible repeat first|apply Kd.R_alloc|apply Kd.R_drewN|apply Kd.R_drew);exact HO212.out⟩,⟨by (with_reducible repeat first|apply bN|apply bD|apply bA);exact BK199.out⟩,⟨by (with_reducible repeat first|apply bN|apply bD|apply bA);exact BK200.out⟩,⟨bW HB.out⟩⟩
        ·rw [if_neg c17] at H
         exact absurd H (by simp)
      ·rw [if_neg c11] at H
       exact absurd H (by simp)
     ·rw [if_neg c10] at H
      have c10b0 : decide (x8_1 < ((rd_L1 l0_0 a2).length : Int)) = false:=decide_eq_false c10
      clear c10
      obtain rfl:=Option.some.inj H
      have hnb22:=NB199_200.out
      have hnc22:=NB200_199.out
      have hcz23_0 : wr.cell? ⟨gb199,0,none⟩ = some (.slice A0_0 l0_0.length c0_0):=(bC BK199.out 0).trans rfl
      have hfz23_0:=blk_frozen BK199.out 0
      have p204 : 0 ≤ (a2 : Int):=of_decide_eq_true (by first|(with_reducible assumption)|assumption)
      have q204 : a2 < (l0_0.length : Int):=of_decide_eq_true (by first|(with_reducible assumption)|assumption)
      obtain ⟨ad204,A204_0,c204_0,e204,hx204_0,hl204_0,hi204_0⟩:=at_L1 HR0_0.out a2 p204 q204
      cases e204
      replace hx204_0:=(HB.out.cell (World.block_lt_of_cell? w _ hx204_0)).trans hx204_0
      have HR204_0:=aK hi204_0
      have HC204_0:=aK hl204_0
      clear hi204_0 hl204_0
      replace p204:=eq_true p204
      replace q204:=eq_true q204
      go_wp2
      repeat (go_quiet (fail);try go_wp2)
      go_ret
      exact ⟨_,by first|rfl|(simp [errW_none,errW_some] <;> rfl)|(simp [*,errW_none,errW_some] <;> rfl),by (with_reducible repeat first|apply Kd.R_alloc|apply Kd.R_drewN|apply Kd.R_drew);exact HO_7.out,bW HB.out⟩
    ·rw [if_neg c9] at H
     exact absurd H (by simp)
   ·rw [if_neg c8] at H
    exact absurd H (by simp)

end Go.Proofs.Ytakepkjcmgcepaa.QFnExactIsClaim
