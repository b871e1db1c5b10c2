/- The functions that the law FnExactIsClaim reaches, as plain functions, and the walks that show that the machine's calls answer so. Written by a program of this session (wip/myprint.py) on the kit's print. -/
import Derived.Test.YtakepkjcmgcepaaQFnExactIsClaimx0
import Derived.Test.YtakepkjcmgcepaaQFnExactIsClaimx7
namespace Go.Proofs.Ytakepkjcmgcepaa.QFnExactIsClaim
open Go.RowKit Go.Proofs.YtakepkjcmgcepaaW.PrintWords Go.Proofs.YtakepkjcmgcepaaW.PrintLast Go.Proofs.YtakepkjcmgcepaaW.PrintMore
attribute [local go_sem] max2_int min2_int max_two min_two max_three min_three max_four min_four   -- for this text's walks alone
set_option linter.unusedVariables false
set_option linter.unusedSimpArgs false

/-! ### slices_Index_int64_int64: function 149 -/
def slices_Index_int64_int64.l0 : Nat → List Int → Int → Int → Int → Option (Int)
 | 0,_,_,_,_=>none
 | k + 1,x0,x1,x7,x8=>if x8 < x7 then (if 0 ≤ x8 then (if x8 < (x0.length : Int) then (if x1 = (rd x0 x8) then (some x8) else (slices_Index_int64_int64.l0 k x0 x1 x7 (wrap64 (x8 + 1)))) else (none)) else (none)) else (some (-1))
def slices_Index_int64_int64.f (k : Nat) (l0 : List Int) (a1 : Int) : Option (Int) := slices_Index_int64_int64.l0 k l0 a1 (l0.length : Int) 0
theorem slices_Index_int64_int64.mono_l : ∀ k, (∀ y0 y1 y2 y3, LeO (slices_Index_int64_int64.l0 k y0 y1 y2 y3) (slices_Index_int64_int64.l0 (k + 1) y0 y1 y2 y3))
 | 0=>fun _ _ _ _ r h=>by simp [slices_Index_int64_int64.l0] at h
 | k + 1=>by
  have ih0:=slices_Index_int64_int64.mono_l k
  ·intro y0 y1 y2 y3
   unfold slices_Index_int64_int64.l0
   repeat' first
   | (with_reducible exact ih0 _ _ _ _)
   | (with_reducible exact LeO.refl _)
   | (with_reducible exact LeO.none _)
   | (with_reducible refine LeO.ite ?_ ?_)
   | (with_reducible refine LeO.bind ?_ (fun _=>?_))
   | exact ih0 _ _ _ _
   | exact LeO.none _
   | refine LeO.ite ?_ ?_
   | refine LeO.bind ?_ (fun _=>?_)
theorem slices_Index_int64_int64.mono : ∀ a0 a1 k, LeO (slices_Index_int64_int64.f k a0 a1) (slices_Index_int64_int64.f (k + 1) a0 a1) := by
 intro a0 a1 k
 have ih0:=slices_Index_int64_int64.mono_l k
 unfold slices_Index_int64_int64.f
 repeat' first
   | (with_reducible exact ih0 _ _ _ _)
   | (with_reducible exact LeO.refl _)
   | (with_reducible exact LeO.none _)
   | (with_reducible refine LeO.ite ?_ ?_)
   | (with_reducible refine LeO.bind ?_ (fun _=>?_))
   | exact ih0 _ _ _ _
   | exact LeO.none _
   | refine LeO.ite ?_ ?_
   | refine LeO.bind ?_ (fun _=>?_)
set_option maxHeartbeats 8000000 in
set_option maxRecDepth 100000 in
theorem slices_Index_int64_int64.calls (k : Nat) (A0 : Option Addr) (c0 : Nat) (l0 : List Int) (a1 : Int) (r : Int) (w : World) (hr0 : Kd.C (Kd.int .i64) w A0 l0.length l0) (hc0 : l0.length ≤ c0) (h : slices_Index_int64_int64.f k l0 a1 = some r) :
  Calls Try.prog 149 #[.slice A0 l0.length c0,.int .i64 a1] w fun e w'=>e = .returned (.int .i64 r) ∧ Drawn0 w w':=by
 have HR0:=aK hr0
 have HC0:=aK hc0
 clear hr0 hc0
 have H : (slices_Index_int64_int64.l0 k l0 a1 (l0.length : Int) 0) = some r:=h
 clear h
 have H':=aK H
 clear H
 go_enter Try.func149,Try.ntmps149
 go_wp2
 go_loopg [8] k (fun kq v8 w'=>∃ (x8_1 : Int),v8 = .int .i64 x8_1 ∧ Aside0 (slices_Index_int64_int64.l0 kq l0 a1 (l0.length : Int) x8_1 = some r) ∧ Aside0 (kq ≤ k) ∧ Drawn0 w w')
 case atStart=>exact ⟨(0),(by first|rfl|(simp;done)|(simp [*];done)),H',⟨Nat.le_refl _⟩,by repeat (first|exact Drawn0.refl _|apply Drawn0.step)⟩
 case round =>
  clear H'
  try clear c1
  try clear p2
  obtain ⟨x8_1,rfl,HA,HK1,⟨m1,rfl⟩⟩:=hrel
  cases gk with
  | zero=>exact absurd HA.out (by simp [slices_Index_int64_int64.l0])
  | succ k1 =>
   have H:=HA.out
   clear HA
   simp only [slices_Index_int64_int64.l0] at H
   by_cases c3 : x8_1 < (l0.length : Int)
   ·rw [if_pos c3] at H
    have c3b0 : decide (x8_1 < (l0.length : Int)) = true:=decide_eq_true c3
    clear c3
    by_cases c4 : 0 ≤ x8_1
    ·rw [if_pos c4] at H
     have c4b0 : decide (0 ≤ x8_1) = true:=decide_eq_true c4
     clear c4
     by_cases c5 : x8_1 < (l0.length : Int)
     ·rw [if_pos c5] at H
      have c5b0 : decide (x8_1 < (l0.length : Int)) = true:=decide_eq_true c5
      clear c5
      by_cases c6 : a1 = (rd l0 x8_1)
      ·rw [if_pos c6] at H
       have c6b0 : (a1 == (rd l0 x8_1)) = true:=beq_iff_eq.mpr c6
       have c6b1 : (a1 != (rd l0 x8_1)) = false:=bne_eq_false_iff_eq.mpr c6
       clear c6
       obtain rfl:=Option.some.inj H
       have p299 : 0 ≤ (x8_1 : Int):=of_decide_eq_true (by first|(with_reducible assumption)|assumption)
       have q299 : x8_1 < (l0.length : Int):=of_decide_eq_true (by first|(with_reducible assumption)|assumption)
       obtain ⟨ad299,e299,hx299_0⟩:=Kd.at_int HR0.out x8_1 p299 q299
       cases e299
       replace p299:=eq_true p299
       replace q299:=eq_true q299
       go_wp2
       go_ret
       exact ⟨by first|rfl|(simp;done)|(simp [*];done),by repeat (first|exact Drawn0.refl _|apply Drawn0.step)⟩
      ·rw [if_neg c6] at H
       have c6b0 : (a1 == (rd l0 x8_1)) = false:=beq_eq_false_iff_ne.mpr c6
       have c6b1 : (a1 != (rd l0 x8_1)) = true:=bne_iff_ne.mpr c6
       have H':=aK H
       clear H
       have p299 : 0 ≤ (x8_1 : Int):=of_decide_eq_true (by first|(with_reducible assumption)|assumption)
       have q299 : x8_1 < (l0.length : Int):=of_decide_eq_true (by first|(with_reducible assumption)|assumption)
       obtain ⟨ad299,e299,hx299_0⟩:=Kd.at_int HR0.out x8_1 p299 q299
       cases e299
       replace p299:=eq_true p299
       replace q299:=eq_true q299
       go_wp2
       go_roundg k1
       case measure=>have:=HK1.out;omega
       case rel=>exact ⟨(wrap64 (x8_1 + 1)),(by first|rfl|(simp;done)|(simp [*];done)),H',⟨by have:=HK1.out;omega⟩,by repeat (first|exact Drawn0.refl _|apply Drawn0.step)⟩
     ·rw [if_neg c5] at H
      exact absurd H (by simp)
    ·rw [if_neg c4] at H
     exact absurd H (by simp)
   ·rw [if_neg c3] at H
    have c3b0 : decide (x8_1 < (l0.length : Int)) = false:=decide_eq_false c3
    clear c3
    obtain rfl:=Option.some.inj H
    go_wp2
    go_ret
    exact ⟨by first|rfl|(simp;done)|(simp [*];done),by repeat (first|exact Drawn0.refl _|apply Drawn0.step)⟩

/-! ### slices_Contains_int64_int64: function 122 -/
def slices_Contains_int64_int64.f (k : Nat) (l0 : List Int) (a1 : Int) : Option (Bool) := (slices_Index_int64_int64.f k l0 a1).bind fun t300 => (some (decide (t300 ≥ 0)))
theorem slices_Contains_int64_int64.mono : ∀ a0 a1 k, LeO (slices_Contains_int64_int64.f k a0 a1) (slices_Contains_int64_int64.f (k + 1) a0 a1) := by
 intro a0 a1 k
 unfold slices_Contains_int64_int64.f
 repeat' first
   | (with_reducible exact slices_Index_int64_int64.mono _ _ _)
   | (with_reducible exact LeO.refl _)
   | (with_reducible exact LeO.none _)
   | (with_reducible refine LeO.ite ?_ ?_)
   | (with_reducible refine LeO.bind ?_ (fun _=>?_))
   | exact slices_Index_int64_int64.mono _ _ _
   | exact LeO.none _
   | refine LeO.ite ?_ ?_
   | refine LeO.bind ?_ (fun _=>?_)
set_option maxHeartbeats 8000000 in
set_option maxRecDepth 100000 in
theorem slices_Contains_int64_int64.calls (k : Nat) (A0 : Option Addr) (c0 : Nat) (l0 : List Int) (a1 : Int) (r : Bool) (w : World) (hr0 : Kd.C (Kd.int .i64) w A0 l0.length l0) (hc0 : l0.length ≤ c0) (h : slices_Contains_int64_int64.f k l0 a1 = some r) :
  Calls Try.prog 122 #[.slice A0 l0.length c0,.int .i64 a1] w fun e w'=>e = .returned (.bool r) ∧ Drawn0 w w':=by
 have HR0:=aK hr0
 have HC0:=aK hc0
 clear hr0 hc0
 have H : ((slices_Index_int64_int64.f k l0 a1).bind fun t300=>(some (decide (t300 ≥ 0)))) = some r:=h
 clear h
 replace H:=Option.bind_eq_some_iff.mp H
 obtain ⟨t300,A30,H⟩:=H
 replace H : (some (decide (t300 ≥ 0))) = some r:=H
 have A3:=aK A30
 clear A30
 obtain rfl:=Option.some.inj H
 go_enter Try.func122,Try.ntmps122
 go_wp2_with (first|((with_reducible refine gate_callee (f:=149) rfl ?_);refine goesL_ (some 7) rfl rfl Try.func149 (by kernel_rfl) rfl #[.slice A0 l0.length c0,.int .i64 a1] rfl (by (try simp only [mA,mC,mN]);first|done|rfl) ?_;(with_reducible refine (slices_Index_int64_int64.calls k _ _ l0 a1 t300 _ ?side1 ?side2 A3.out).mono ?_);(case side1=>repeat (first|exact HR0.out|(with_reducible refine Kd.C_alloc ?_ _)|(with_reducible refine Kd.C_drewN ?_ _)|(with_reducible refine Kd.C_drew ?_)));(case side2=>exact HC0.out);rintro e w' ⟨rfl,⟨nd,rfl⟩⟩;refine ⟨_,rfl,?_⟩))
 go_ret
 exact ⟨by first|rfl|(simp;done)|(simp [*];done),by repeat (first|exact Drawn0.refl _|apply Drawn0.step)⟩

/-! ### impl_isCards: function 161 -/
def impl_isCards.l0 : Nat → List Int → List Int → Int → Int → Option (Bool)
 | 0,_,_,_,_=>none
 | k + 1,x0,x5,x6,x7=>if x7 < x6 then (if 0 ≤ x7 then (if x7 < (x5.length : Int) then ((impl_isCard.f (rd x5 x7)).bind fun t302=>(if t302 = true then (if x7 > 0 then (if 0 ≤ (wrap64 (x7 - 1)) then (if (wrap64 (x7 - 1)) < (x0.length : Int) then (if (rd x5 x7) ≤ (rd x0 (wrap64 (x7 - 1))) then (some false) else (impl_isCards.l0 k x0 x5 x6 (wrap64 (x7 + 1)))) else (none)) else (none)) else (impl_isCards.l0 k x0 x5 x6 (wrap64 (x7 + 1)))) else (some false))) else (none)) else (none)) else (some true)
def impl_isCards.f (k : Nat) (l0 : List Int) : Option (Bool) := impl_isCards.l0 k l0 l0 (l0.length : Int) 0
theorem impl_isCards.mono_l : ∀ k, (∀ y0 y1 y2 y3, LeO (impl_isCards.l0 k y0 y1 y2 y3) (impl_isCards.l0 (k + 1) y0 y1 y2 y3))
 | 0=>fun _ _ _ _ r h=>by simp [impl_isCards.l0] at h
 | k + 1=>by
  have ih0:=impl_isCards.mono_l k
  ·intro y0 y1 y2 y3
   unfold impl_isCards.l0
   repeat' first
   | (with_reducible exact ih0 _ _ _ _)
   | (with_reducible exact LeO.refl _)
   | (with_reducible exact LeO.none _)
   | (with_reducible refine LeO.ite ?_ ?_)
   | (with_reducible refine LeO.bind ?_ (fun _=>?_))
   | exact ih0 _ _ _ _
   | exact LeO.none _
   | refine LeO.ite ?_ ?_
   | refine LeO.bind ?_ (fun _=>?_)
theorem impl_isCards.mono : ∀ a0 k, LeO (impl_isCards.f k a0) (impl_isCards.f (k + 1) a0) := by
 intro a0 k
 have ih0:=impl_isCards.mono_l k
 unfold impl_isCards.f
 repeat' first
   | (with_reducible exact ih0 _ _ _ _)
   | (with_reducible exact LeO.refl _)
   | (with_reducible exact LeO.none _)
   | (with_reducible refine LeO.ite ?_ ?_)
   | (with_reducible refine LeO.bind ?_ (fun _=>?_))
   | exact ih0 _ _ _ _
   | exact LeO.none _
   | refine LeO.ite ?_ ?_
   | refine LeO.bind ?_ (fun _=>?_)
set_option maxHeartbeats 8000000 in
set_option maxRecDepth 100000 in
theorem impl_isCards.calls (k : Nat) (A0 : Option Addr) (c0 : Nat) (l0 : List Int) (r : Bool) (w : World) (hr0 : Kd.C (Kd.int .i64) w A0 l0.length l0) (hc0 : l0.length ≤ c0) (h : impl_isCards.f k l0 = some r) :
  Calls Try.prog 161 #[.slice A0 l0.length c0] w fun e w'=>e = .returned (.bool r) ∧ Drawn0 w w':=by
 have HR0:=aK hr0
 have HC0:=aK hc0
 clear hr0 hc0
 have H : (impl_isCards.l0 k l0 l0 (l0.length : Int) 0) = some r:=h
 clear h
 have H':=aK H
 clear H
 go_enter Try.func161,Try.ntmps161
 go_wp2
 go_loopg [7] k (fun kq v7 w'=>∃ (x7_1 : Int),v7 = .int .i64 x7_1 ∧ Aside0 (impl_isCards.l0 kq l0 l0 (l0.length : Int) x7_1 = some r) ∧ Aside0 (kq ≤ k) ∧ Drawn0 w w')
 case atStart=>exact ⟨(0),(by first|rfl|(simp;done)|(simp [*];done)),H',⟨Nat.le_refl _⟩,by repeat (first|exact Drawn0.refl _|apply Drawn0.step)⟩
 case round =>
  clear H'
  try clear c1
  obtain ⟨x7_1,rfl,HA,HK1,⟨m1,rfl⟩⟩:=hrel
  cases gk with
  | zero=>exact absurd HA.out (by simp [impl_isCards.l0])
  | succ k1 =>
   have H:=HA.out
   clear HA
   simp only [impl_isCards.l0] at H
   by_cases c2 : x7_1 < (l0.length : Int)
   ·rw [if_pos c2] at H
    have c2b0 : decide (x7_1 < (l0.length : Int)) = true:=decide_eq_true c2
    clear c2
    by_cases c3 : 0 ≤ x7_1
    ·rw [if_pos c3] at H
     have c3b0 : decide (0 ≤ x7_1) = true:=decide_eq_true c3
     clear c3
     by_cases c4 : x7_1 < (l0.length : Int)
     ·rw [if_pos c4] at H
      have c4b0 : decide (x7_1 < (l0.length : Int)) = true:=decide_eq_true c4
      clear c4
      replace H:=Option.bind_eq_some_iff.mp H
      obtain ⟨t302,A50,H⟩:=H
      replace H : (if t302 = true then (if x7_1 > 0 then (if 0 ≤ (wrap64 (x7_1 - 1)) then (if (wrap64 (x7_1 - 1)) < (l0.length : Int) then (if (rd l0 x7_1) ≤ (rd l0 (wrap64 (x7_1 - 1))) then (some false) else (impl_isCards.l0 k1 l0 l0 (l0.length : Int) (wrap64 (x7_1 + 1)))) else (none)) else (none)) else (impl_isCards.l0 k1 l0 l0 (l0.length : Int) (wrap64 (x7_1 + 1)))) else (some false)) = some r:=H
      have A5:=aK A50
      clear A50
      by_cases c6 : t302 = true
      ·subst c6
       have H1 : (if x7_1 > 0 then (if 0 ≤ (wrap64 (x7_1 - 1)) then (if (wrap64 (x7_1 - 1)) < (l0.length : Int) then (if (rd l0 x7_1) ≤ (rd l0 (wrap64 (x7_1 - 1))) then (some false) else (impl_isCards.l0 k1 l0 l0 (l0.length : Int) (wrap64 (x7_1 + 1)))) else (none)) else (none)) else (impl_isCards.l0 k1 l0 l0 (l0.length : Int) (wrap64 (x7_1 + 1)))) = some r:=by rw [if_pos rfl] at H;exact H
       clear H
       have H:=H1
       clear H1
       by_cases c7 : x7_1 > 0
       ·rw [if_pos c7] at H
        have c7b0 : decide (0 < x7_1) = true:=decide_eq_true c7
        clear c7
        obtain ⟨ji8,hji8⟩ : ∃ j_ : Int,(wrap64 (x7_1 - 1)) = j_:=⟨_,rfl⟩
        replace H : (if 0 ≤ (ji8) then (if (ji8) < (l0.length : Int) then (if (rd l0 x7_1) ≤ (rd l0 (ji8)) then (some false) else (impl_isCards.l0 k1 l0 l0 (l0.length : Int) (wrap64 (x7_1 + 1)))) else (none)) else (none)) = some r:=by first|(rw [hji8] at H;exact H)|(simp only [hji8] at H ⊢;exact H)
        (try rw [hji8] at A5)
        have hji8w : (IntKind.i64.wrap (x7_1 - 1)) = ji8:=(i64_w _).trans hji8
        by_cases c9 : 0 ≤ (ji8)
        ·rw [if_pos c9] at H
         have c9b0 : decide (0 ≤ (ji8)) = true:=decide_eq_true c9
         clear c9
         by_cases c10 : (ji8) < (l0.length : Int)
         ·rw [if_pos c10] at H
          have c10b0 : decide ((ji8) < (l0.length : Int)) = true:=decide_eq_true c10
          clear c10
          by_cases c11 : (rd l0 x7_1) ≤ (rd l0 (ji8))
          ·rw [if_pos c11] at H
           have c11b0 : decide ((rd l0 x7_1) ≤ (rd l0 (ji8))) = true:=decide_eq_true c11
           clear c11
           obtain rfl:=Option.some.inj H
           have p301 : 0 ≤ (x7_1 : Int):=of_decide_eq_true (by first|(with_reducible assumption)|assumption)
           have q301 : x7_1 < (l0.length : Int):=of_decide_eq_true (by first|(with_reducible assumption)|assumption)
           obtain ⟨ad301,e301,hx301_0⟩:=Kd.at_int HR0.out x7_1 p301 q301
           cases e301
           replace p301:=eq_true p301
           replace q301:=eq_true q301
           go_wp2_with (first|((with_reducible refine gate_callee (f:=86) rfl ?_);refine goesL_ (some 13) rfl rfl Try.func86 (by kernel_rfl) rfl #[.int .i64 (rd l0 x7_1)] rfl (by (try simp only [mA,mC,mN]);first|done|rfl) ?_;(with_reducible refine (impl_isCard.calls (rd l0 x7_1) true _ A5.out).mono ?_);rintro e w' ⟨rfl,⟨nd,rfl⟩⟩;refine ⟨_,rfl,?_⟩;have p303 : 0 ≤ ((ji8) : Int):=of_decide_eq_true (by first|(with_reducible assumption)|assumption);have q303 : (ji8) < (l0.length : Int):=of_decide_eq_true (by first|(with_reducible assumption)|assumption);obtain ⟨ad303,e303,hx303_0⟩:=Kd.at_int HR0.out (ji8) p303 q303;obtain rfl : ad301 = ad303:=(by injection e303);replace p303:=eq_true p303;replace q303:=eq_true q303))
           go_ret
           exact ⟨by first|rfl|(simp;done)|(simp only [← hji8] <;> (first|rfl|simp))|(simp [*];done),by repeat (first|exact Drawn0.refl _|apply Drawn0.step)⟩
          ·rw [if_neg c11] at H
           have c11b0 : decide ((rd l0 x7_1) ≤ (rd l0 (ji8))) = false:=decide_eq_false c11
           clear c11
           have H':=aK H
           clear H
           have p301 : 0 ≤ (x7_1 : Int):=of_decide_eq_true (by first|(with_reducible assumption)|assumption)
           have q301 : x7_1 < (l0.length : Int):=of_decide_eq_true (by first|(with_reducible assumption)|assumption)
           obtain ⟨ad301,e301,hx301_0⟩:=Kd.at_int HR0.out x7_1 p301 q301
           cases e301
           replace p301:=eq_true p301
           replace q301:=eq_true q301
           go_wp2_with (first|((with_reducible refine gate_callee (f:=86) rfl ?_);refine goesL_ (some 13) rfl rfl Try.func86 (by kernel_rfl) rfl #[.int .i64 (rd l0 x7_1)] rfl (by (try simp only [mA,mC,mN]);first|done|rfl) ?_;(with_reducible refine (impl_isCard.calls (rd l0 x7_1) true _ A5.out).mono ?_);rintro e w' ⟨rfl,⟨nd,rfl⟩⟩;refine ⟨_,rfl,?_⟩;have p303 : 0 ≤ ((ji8) : Int):=of_decide_eq_true (by first|(with_reducible assumption)|assumption);have q303 : (ji8) < (l0.length : Int):=of_decide_eq_true (by first|(with_reducible assumption)|assumption);obtain ⟨ad303,e303,hx303_0⟩:=Kd.at_int HR0.out (ji8) p303 q303;obtain rfl : ad301 = ad303:=(by injection e303);replace p303:=eq_true p303;replace q303:=eq_true q303))
           go_roundg k1
           case measure=>have:=HK1.out;omega
           case rel=>exact ⟨(wrap64 (x7_1 + 1)),(by first|rfl|(simp;done)|(simp [*];done)),H',⟨by have:=HK1.out;omega⟩,by repeat (first|exact Drawn0.refl _|apply Drawn0.step)⟩
         ·rw [if_neg c10] at H
          exact absurd H (by simp)
        ·rw [if_neg c9] at H
         exact absurd H (by simp)
       ·rw [if_neg c7] at H
        have c7b0 : decide (0 < x7_1) = false:=decide_eq_false c7
        clear c7
        have H':=aK H
        clear H
        have p301 : 0 ≤ (x7_1 : Int):=of_decide_eq_true (by first|(with_reducible assumption)|assumption)
        have q301 : x7_1 < (l0.length : Int):=of_decide_eq_true (by first|(with_reducible assumption)|assumption)
        obtain ⟨ad301,e301,hx301_0⟩:=Kd.at_int HR0.out x7_1 p301 q301
        cases e301
        replace p301:=eq_true p301
        replace q301:=eq_true q301
        go_wp2_with (first|((with_reducible refine gate_callee (f:=86) rfl ?_);refine goesL_ (some 13) rfl rfl Try.func86 (by kernel_rfl) rfl #[.int .i64 (rd l0 x7_1)] rfl (by (try simp only [mA,mC,mN]);first|done|rfl) ?_;(with_reducible refine (impl_isCard.calls (rd l0 x7_1) true _ A5.out).mono ?_);rintro e w' ⟨rfl,⟨nd,rfl⟩⟩;refine ⟨_,rfl,?_⟩))
        go_roundg k1
        case measure=>have:=HK1.out;omega
        case rel=>exact ⟨(wrap64 (x7_1 + 1)),(by first|rfl|(simp;done)|(simp [*];done)),H',⟨by have:=HK1.out;omega⟩,by repeat (first|exact Drawn0.refl _|apply Drawn0.step)⟩
      ·replace c6:=Bool.eq_false_iff.mpr c6
       subst c6
       have H1 : (some false) = some r:=by rw [if_neg (show ¬ (false = true) by decide)] at H;exact H
       clear H
       have H:=H1
       clear H1
       obtain rfl:=Option.some.inj H
       have p301 : 0 ≤ (x7_1 : Int):=of_decide_eq_true (by first|(with_reducible assumption)|assumption)
       have q301 : x7_1 < (l0.length : Int):=of_decide_eq_true (by first|(with_reducible assumption)|assumption)
       obtain ⟨ad301,e301,hx301_0⟩:=Kd.at_int HR0.out x7_1 p301 q301
       cases e301
       replace p301:=eq_true p301
       replace q301:=eq_true q301
       go_wp2_with (first|((with_reducible refine gate_callee (f:=86) rfl ?_);refine goesL_ (some 13) rfl rfl Try.func86 (by kernel_rfl) rfl #[.int .i64 (rd l0 x7_1)] rfl (by (try simp only [mA,mC,mN]);first|done|rfl) ?_;(with_reducible refine (impl_isCard.calls (rd l0 x7_1) false _ A5.out).mono ?_);rintro e w' ⟨rfl,⟨nd,rfl⟩⟩;refine ⟨_,rfl,?_⟩))
       go_ret
       exact ⟨by first|rfl|(simp;done)|(simp [*];done),by repeat (first|exact Drawn0.refl _|apply Drawn0.step)⟩
     ·rw [if_neg c4] at H
      exact absurd H (by simp)
    ·rw [if_neg c3] at H
     exact absurd H (by simp)
   ·rw [if_neg c2] at H
    have c2b0 : decide (x7_1 < (l0.length : Int)) = false:=decide_eq_false c2
    clear c2
    obtain rfl:=Option.some.inj H
    go_wp2
    go_ret
    exact ⟨by first|rfl|(simp;done)|(simp [*];done),by repeat (first|exact Drawn0.refl _|apply Drawn0.step)⟩

/-! ### impl_IsHand: function 155 -/
def impl_IsHand.f (k : Nat) (l0 : List Int) : Option (Bool) := if (l0.length : Int) ≤ 13 then ((impl_isCards.f k l0).bind fun t304 => (some t304)) else (some false)
theorem impl_IsHand.mono : ∀ a0 k, LeO (impl_IsHand.f k a0) (impl_IsHand.f (k + 1) a0) := by
 intro a0 k
 unfold impl_IsHand.f
 repeat' first
   | (with_reducible exact impl_isCards.mono _ _)
   | (with_reducible exact LeO.refl _)
   | (with_reducible exact LeO.none _)
   | (with_reducible refine LeO.ite ?_ ?_)
   | (with_reducible refine LeO.bind ?_ (fun _=>?_))
   | exact impl_isCards.mono _ _
   | exact LeO.none _
   | refine LeO.ite ?_ ?_
   | refine LeO.bind ?_ (fun _=>?_)
set_option maxHeartbeats 8000000 in
set_option maxRecDepth 100000 in
theorem impl_IsHand.calls (k : Nat) (A0 : Option Addr) (c0 : Nat) (l0 : List Int) (r : Bool) (w : World) (hr0 : Kd.C (Kd.int .i64) w A0 l0.length l0) (hc0 : l0.length ≤ c0) (h : impl_IsHand.f k l0 = some r) :
  Calls Try.prog 155 #[.slice A0 l0.length c0] w fun e w'=>e = .returned (.bool r) ∧ Drawn0 w w':=by
 have HR0:=aK hr0
 have HC0:=aK hc0
 clear hr0 hc0
 have H : (if (l0.length : Int) ≤ 13 then ((impl_isCards.f k l0).bind fun t304=>(some t304)) else (some false)) = some r:=h
 clear h
 by_cases c2 : (l0.length : Int) ≤ 13
 ·rw [if_pos c2] at H
  have c2b0 : decide ((l0.length : Int) ≤ 13) = true:=decide_eq_true c2
  have c2b1 : decide (l0.length ≤ 13) = true:=decide_eq_true (by omega)
  clear c2
  replace H:=Option.bind_eq_some_iff.mp H
  obtain ⟨t304,A30,H⟩:=H
  replace H : (some t304) = some r:=H
  have A3:=aK A30
  clear A30
  obtain rfl:=Option.some.inj H
  go_enter Try.func155,Try.ntmps155
  go_wp2_with (first|(go_at_call 161;(with_reducible refine (impl_isCards.calls k _ _ l0 t304 _ ?side1 ?side2 A3.out).mono ?_);(case side1=>repeat (first|exact HR0.out|(with_reducible refine Kd.C_alloc ?_ _)|(with_reducible refine Kd.C_drewN ?_ _)|(with_reducible refine Kd.C_drew ?_)));(case side2=>exact HC0.out);rintro e w' ⟨rfl,⟨nd,rfl⟩⟩))
  go_ret
  exact ⟨by first|rfl|(simp;done)|(simp [*];done),by repeat (first|exact Drawn0.refl _|apply Drawn0.step)⟩
 ·rw [if_neg c2] at H
  have c2b0 : decide ((l0.length : Int) ≤ 13) = false:=decide_eq_false c2
  have c2b1 : decide (l0.length ≤ 13) = false:=decide_eq_false (by omega)
  clear c2
  obtain rfl:=Option.some.inj H
  go_enter Try.func155,Try.ntmps155
  go_wp2
  go_ret
  exact ⟨by first|rfl|(simp;done)|(simp [*];done),by repeat (first|exact Drawn0.refl _|apply Drawn0.step)⟩

/-! ### impl_IsDeal: function 143 -/
theorem impl_IsDeal.card (y : Int) : impl_isCard.f y = some (cardB y) := by
 simp only [impl_isCard.f,impl_within.f,cardB];by_cases h : 0 ≤ y <;> simp [h]
theorem impl_IsDeal.cards_l0 (l : List Int) (hl : l.length ≤ 13) : ∀ (m i : Nat), i + m = l.length → Ev (fun k => impl_isCards.l0 k l l (l.length : Int) (i : Int)) (incFrom l m i) := by
 intro m
 induction m with
 | zero=>intro i hi;exact Ev.step (f:=fun _=>some true) (fun k=>by simp only [impl_isCards.l0];rw [if_neg (by omega)]) (Ev.now _)
 | succ m ih =>
  intro i hi
  have e5 : wrap64 ((i : Int) + 1) = ((i + 1 : Nat) : Int):=by unfold wrap64;omega
  have e6 : wrap64 ((i : Int) - 1) = (i : Int) - 1:=by unfold wrap64;omega
  refine Ev.step (fun k=>by simp only [impl_isCards.l0,e5,e6];rw [if_pos (by omega),if_pos (by omega),if_pos (by omega)]) ?_
  refine evP (impl_IsDeal.card _) ?_
  rw [incFrom]
  cases hc : cardB (rd l (i : Int)) with
  | false=>exact evF (by simp) (Ev.now _)
  | true =>
   refine evT rfl ?_
   by_cases h0 : i = 0
   ·refine evF (by omega) ?_
    rw [decide_eq_true h0,Bool.true_or,Bool.and_true,Bool.true_and]
    exact ih (i + 1) (by omega)
   ·refine evT (by omega) (evT (by omega) (evT (by omega) ?_))
    rw [decide_eq_false h0,Bool.false_or,Bool.true_and]
    by_cases hr : rd l (i : Int) ≤ rd l ((i : Int) - 1)
    ·rw [decide_eq_false (by omega),Bool.false_and]
     exact evT hr (Ev.now _)
    ·rw [decide_eq_true (by omega),Bool.true_and]
     exact evF hr (ih (i + 1) (by omega))
theorem impl_IsDeal.hand (l : List Int) : ∃ k, impl_IsHand.f k l = some (handB l) := by
 refine Ev.rounds ?_
 unfold handB
 by_cases hl : l.length ≤ 13
 ·rw [decide_eq_true hl,Bool.true_and]
  exact evT (by omega) (Ev.bind (impl_IsDeal.cards_l0 l hl l.length 0 (by omega)) (Ev.now _))
 ·rw [decide_eq_false hl,Bool.false_and]
  exact evF (by omega) (Ev.now _)
def impl_IsDeal.f (l0_0 : List (List Int)) : Option Bool := some (dealB l0_0)
set_option maxHeartbeats 4000000 in
set_option maxRecDepth 100000 in
theorem impl_IsDeal.calls (A0_0 : Option Addr) (c0_0 : Nat) (l0_0 : List (List Int)) (r : Bool) (w : World) (hr0_0 : Kd.C (Kd.slice 2 (Kd.int .i64)) w A0_0 l0_0.length l0_0) (hc0_0 : l0_0.length ≤ c0_0) (h : impl_IsDeal.f l0_0 = some r) :
  Calls Try.prog 143 #[.agg #[.slice A0_0 l0_0.length c0_0]] w fun e w'=>e = .returned (.bool r) ∧ Below w.heap.size w w':=by
 have HE : Aside0 (r = dealB l0_0):=⟨(Option.some.inj h).symm⟩
 have hz : ∀ w,(zeroValue 78).run Try.prog w = .ok (.agg zeros52) w:=(zero_of_info (n:=52) (by kernel_rfl)).1
 have HI : Aside0 ((Try.prog.info? 78).map (·.size) = some zeros52.size):=⟨by kernel_rfl⟩
 have HBU : Aside0 (Try.prog.built 78 [] = some zeros52):=⟨by kernel_rfl⟩
 have hsc : ∀ (W : World) (n : Nat),Sem.run Try.prog (storeCells ⟨W.heap.size,0,none⟩ zeros52.toList) ((W.drewN n).alloc (.cells zeros52 78)) = .ok () ((W.drewN n).alloc (.cells zeros52 78)):=fun W n=>run_storeCells_new (W.drewN n) 78 zeros52 zeros52 HI.out rfl zeros52_one
 have hsc0 : ∀ (W : World),Sem.run Try.prog (storeCells ⟨W.heap.size,0,none⟩ zeros52.toList) (W.alloc (.cells zeros52 78)) = .ok () (W.alloc (.cells zeros52 78)):=fun W=>run_storeCells_new W 78 zeros52 zeros52 HI.out rfl zeros52_one
 have hbig : l0_0.length ≤ 9223372036854775807:=hr0_0.2.1
 have HR:=Aside0.mk hr0_0
 clear hr0_0 h hc0_0
 by_cases hl : l0_0.length = 4
 ·have hl1 : ((l0_0.length : Int) == 4) = true:=by simp [hl]
  have hl2 : ((l0_0.length : Int) != 4) = false:=by simp [hl]
  obtain ⟨ad,Ah0,ch0,rfl,hcell0,-,-⟩:=row_at HR.out 0 (by omega)
  obtain ⟨n0,hn0⟩ : ∃ n0 : Nat,n0 = (l0_0.getD 0 []).length:=⟨_,rfl⟩
  rw [show ad.add 0 = ad by unfold Addr.add;split <;> simp_all,← hn0] at hcell0
  have HN0:=Aside0.mk hn0
  clear hn0
  have HL:=Aside0.mk hl
  have HN : Aside0 (l0_0.headD [] = l0_0.getD 0 []):=⟨by cases l0_0 <;> rfl⟩
  have HF : Aside0 (r = dealFrom n0 l0_0 []):=⟨by rw [HE.out,HN0.out];unfold dealB;rw [decide_eq_true HL.out,HN.out,Bool.true_and]⟩
  clear hl HE
  go_enter Try.func143,Try.ntmps143
  go_wp2_with (first|((with_reducible refine gate_dst (N:=1) rfl ?_);refine box_event ?hg (N:=1) ?hd (cs:=#[.slice (some ad) l0_0.length c0_0]) (t:=44) ?hr ?_;(case hd=>rfl);(case hg=>rfl);(case hr=>first|(go_simp;done)|(go_simp;rfl));intro gb hg w2 hbox hb;have hcz0 : w2.cell? ⟨gb,0,none⟩ = some (.slice (some ad) l0_0.length c0_0):=(blk_cell hbox 0).trans rfl;have BK:=Aside0.mk hbox;have hcA : ∀ (o : Obj),(w2.alloc o).cell? ⟨gb,0,none⟩ = some (.slice (some ad) l0_0.length c0_0):=fun o=>(blk_cell (blk_alloc BK.out o) 0).trans rfl;have HB:=Aside0.mk hb;clear hg hbox hb)|((with_reducible refine gate_dst (N:=12) rfl ?_);refine wpList_build rfl 78 #[] rfl ?hb1 ?_;(case hb1=>(show (Try.prog.built 78 []).isSome = true);rw [HBU.out];rfl);(show wpList _ _ _ _ (Act.put _ _ (.agg ((Try.prog.built 78 []).getD #[]))) _);rw [HBU.out,Option.getD_some]))
  have HGB : Aside0 (gb < w2.heap.size):=⟨blk_lt BK.out⟩
  have HW2 : Aside0 (w.heap.size ≤ w2.heap.size):=⟨HB.out.size⟩
  go_loopg [16] l0_0.length (fun gk v16 wr=>∃ (kk : Nat) (s : List Int),v16 = .int .i64 kk ∧ kk ≤ l0_0.length ∧ l0_0.length - kk ≤ gk ∧ Aside0 (r = dealFrom n0 (l0_0.drop kk) s) ∧ Aside0 (Seen wr w2.heap.size 78 s) ∧ Aside0 (Below w.heap.size w wr) ∧ Aside0 (wr.heap[gb]? = some (.cells #[.slice (some ad) l0_0.length c0_0] 44 (0,0))))
  case atStart=>exact ⟨0,[],rfl,Nat.zero_le _,by omega,⟨by rw [HF.out];rfl⟩,⟨Seen.zero (heap_alloc_last w2 _)⟩,⟨below_alloc HB.out _⟩,⟨blk_alloc BK.out _⟩⟩
  case round =>
   obtain ⟨kk,s,rfl,hkk,hgk,HS1,HSeen,HBr,BKr⟩:=hrel
   obtain ⟨wo,rfl⟩ : ∃ wo : World,wo = wr:=⟨_,rfl⟩
   obtain ⟨go,rfl⟩ : ∃ go : Nat,go = gk:=⟨_,rfl⟩
   by_cases hlt : kk < l0_0.length
   ·have hltz : (kk : Int) < (l0_0.length : Int):=by omega
    have h0z : (0 : Int) < (l0_0.length : Int):=by omega
    obtain ⟨ad',Ah,ch,ead,hcell,hlc,hCh⟩:=row_at HR.out kk hlt
    cases ead
    have hc1:=(HBr.out.cell (World.block_lt_of_cell? w _ hcell)).trans hcell
    have hc0:=(HBr.out.cell (World.block_lt_of_cell? w _ hcell0)).trans hcell0
    have hcb : wo.cell? ⟨gb,0,none⟩ = some (.slice (some ad) l0_0.length c0_0):=(blk_cell BKr.out 0).trans rfl
    have hc1n : ∀ n : Nat,(wo.drewN n).cell? (ad.add kk) = some (.slice Ah (l0_0.getD kk []).length ch):=fun _=>hc1
    have hc0n : ∀ n : Nat,(wo.drewN n).cell? ad = some (.slice Ah0 n0 ch0):=fun _=>hc0
    have hcbn : ∀ n : Nat,(wo.drewN n).cell? ⟨gb,0,none⟩ = some (.slice (some ad) l0_0.length c0_0):=fun _=>hcb
    clear hcell
    have HD:=Aside0.mk (drop_getD hlt)
    have HCh:=Aside0.mk (Kd.C_below hCh HBr.out)
    have HCw:=Aside0.mk hCh
    have HLc:=Aside0.mk hlc
    clear hCh hlc
    obtain ⟨kh,hkh⟩:=impl_IsDeal.hand (l0_0.getD kk [])
    have HK:=Aside0.mk hkh
    clear hkh
    cases hb : handB (l0_0.getD kk []) with
    | false =>
     have HF2 : Aside0 (r = false):=⟨by rw [HS1.out,HD.out,dealFrom,hb];simp⟩
     rw [hb] at HK
     clear hb
     generalize (l0_0.getD kk []) = hd at hc1 hc1n HCh HCw HLc HK
     go_wp2_with (go_at_call 155;refine (impl_IsHand.calls kh Ah ch hd false _ HCh.out HLc.out HK.out).mono ?_;rintro e w7 ⟨rfl,⟨nd7,rfl⟩⟩)
     go_ret
     exact ⟨by rw [HF2.out];rfl,pw_below_drewN HBr.out _⟩
    | true =>
     have HCD:=Aside0.mk (fun j=>handB_card hb (j:=j))
     have HL13:=Aside0.mk (handB_len hb)
     by_cases hn : (l0_0.getD kk []).length = n0
     ·have hn1 : (((l0_0.getD kk []).length : Int) == (n0 : Int)) = true:=by rw [hn];exact beq_self_eq_true _
      have hn2 : (((l0_0.getD kk []).length : Int) != (n0 : Int)) = false:=by rw [hn];exact bne_self_eq_false _
      have HS2 : Aside0 (r = (scan (l0_0.getD kk []) s && dealFrom n0 (l0_0.drop (kk + 1)) ((l0_0.getD kk []).reverse ++ s))):=⟨by rw [HS1.out,HD.out,dealFrom,hb,decide_eq_true hn];simp⟩
      rw [hb] at HK
      clear hb hn HS1
      generalize (l0_0.getD kk []) = hd at hc1 hc1n HCh HCw HLc HK hn1 hn2 HS2 HCD HL13
      go_wp2_with (go_at_call 155;refine (impl_IsHand.calls kh Ah ch hd true _ HCh.out HLc.out HK.out).mono ?_;rintro e w7 ⟨rfl,⟨nd7,rfl⟩⟩)
      have hbig2 : hd.length ≤ 9223372036854775807:=HCh.out.2.1
      go_loopg [35] hd.length (fun gj v35 wi=>∃ (jj : Nat) (s' : List Int),v35 = .int .i64 jj ∧ jj ≤ hd.length ∧ hd.length - jj ≤ gj ∧ Aside0 (r = (scan (hd.drop jj) s' && dealFrom n0 (l0_0.drop (kk + 1)) ((hd.drop jj).reverse ++ s'))) ∧ Aside0 (Seen wi w2.heap.size 78 s') ∧ Aside0 (Below w.heap.size w wi) ∧ Aside0 (wi.heap[gb]? = some (.cells #[.slice (some ad) l0_0.length c0_0] 44 (0,0))) ∧ Aside0 (∀ j : Nat,j < hd.length → ∃ ad2,Ah = some ad2 ∧ wi.cell? (ad2.add j) = some (.int .i64 (rd hd j))))
      case atStart=>exact ⟨0,s,rfl,Nat.zero_le _,by omega,⟨by rw [HS2.out];rfl⟩,⟨HSeen.out.drewN _⟩,⟨pw_below_drewN HBr.out _⟩,⟨blk_drewN BKr.out _⟩,⟨fun j hj=>by obtain ⟨ad2,e2,h2⟩:=Kd.at_int HCh.out (j : Int) (by omega) (by omega);rw [Int.toNat_natCast] at h2;exact ⟨ad2,e2,h2⟩⟩⟩
      case round =>
       obtain ⟨jj,s',rfl,hjj,hgj,HSi,HSn,HBi,BKi,HCi⟩:=hrel
       by_cases hlj : jj < hd.length
       ·have hljz : (jj : Int) < (hd.length : Int):=by omega
        obtain ⟨ad2,rfl,hcj⟩:=HCi.out jj hlj
        have HDj:=Aside0.mk (drop_rdI hlj)
        obtain ⟨hy0,hy1⟩:=HCD.out jj hlj
        have hy1z : rd hd jj < 52:=by omega
        have hyc : wr.cell? ⟨w2.heap.size,(rd hd jj).toNat,none⟩ = some (.bool (s'.contains (rd hd jj))):=HSn.out.cell hy0 hy1
        have hyf : wr.frozen? ⟨w2.heap.size,(rd hd jj).toNat,none⟩ = false:=HSn.out.free _
        have HPut : Aside0 (Seen (wr.setCell ⟨w2.heap.size,(rd hd jj).toNat,none⟩ (.bool true)) w2.heap.size 78 (rd hd jj :: s')):=⟨HSn.out.put hy0 hy1⟩
        have HFar : Aside0 (∀ (n : Nat) (j : Nat),j < hd.length → ∃ ad3,some ad2 = some ad3 ∧ (wr.setCell ⟨w2.heap.size,n,none⟩ (.bool true)).cell? (ad3.add j) = some (.int .i64 (rd hd j))):=⟨fun n j hj=>by
         obtain ⟨ad3,e3,h3⟩:=HCi.out j hj
         obtain ⟨ad4,e4,h4⟩:=Kd.at_int HCw.out (j : Int) (by omega) (by omega)
         rw [Int.toNat_natCast] at h4
         have e5 : ad4 = ad3:=Option.some.inj (e4.symm.trans e3)
         subst e5
         have hold:=World.block_lt_of_cell? w _ h4
         exact ⟨ad4,e3,by rw [World.cell?_setCell_far _ _ _ _ (by have:=HW2.out;simp only;omega)];exact h3⟩⟩
        cases hd2 : s'.contains (rd hd jj) with
        | true =>
         have HF2 : Aside0 (r = false):=⟨by rw [HSi.out,HDj.out,scan,hd2];simp⟩
         rw [hd2] at hyc
         clear hd2 HPut HFar
         generalize rd hd jj = y at hcj hy0 hy1 hy1z hyc hyf
         go_wp2
         go_ret
         exact ⟨by rw [HF2.out];rfl,HBi.out⟩
        | false =>
         have HSi2 : Aside0 (r = (scan (hd.drop (jj + 1)) (rd hd jj :: s') && dealFrom n0 (l0_0.drop (kk + 1)) ((hd.drop (jj + 1)).reverse ++ (rd hd jj :: s')))):=⟨by
          rw [HSi.out,HDj.out,scan,hd2,show cardB (rd hd jj) = true from (cardB_iff _).2 ⟨hy0,hy1⟩];simp⟩
         rw [hd2] at hyc
         clear hd2
         generalize rd hd jj = y at hcj hy0 hy1 hy1z hyc hyf HPut HSi2
         go_wp2
         go_roundg (gk - 1)
         case measure=>omega
         case rel=>exact ⟨jj + 1,y :: s',by first|rfl|(rw [wrap64_in _ (by omega)];push_cast;rfl)|(simp;done),by omega,by omega,HSi2,HPut,⟨below_set HBi.out HW2.out⟩,⟨blk_far BKi.out (by have:=HGB.out;simp;omega) _⟩,⟨HFar.out _⟩⟩
       ·have hljz : ¬ (jj : Int) < (hd.length : Int):=by omega
        have HS3 : Aside0 (r = dealFrom n0 (l0_0.drop (kk + 1)) s'):=⟨by rw [HSi.out,List.drop_eq_nil_of_le (by omega)];simp [scan]⟩
        go_wp2
        go_roundg (go - 1)
        case measure=>omega
        case rel=>exact ⟨kk + 1,s',by first|rfl|(rw [wrap64_in _ (by omega)];push_cast;rfl)|(simp;done),by omega,by omega,HS3,HSn,HBi,BKi⟩
     ·have hn1 : (((l0_0.getD kk []).length : Int) == (n0 : Int)) = false:=beq_eq_false_iff_ne.2 (fun e=>hn (Int.ofNat_inj.1 e))
      have hn2 : (((l0_0.getD kk []).length : Int) != (n0 : Int)) = true:=bne_iff_ne.2 (fun e=>hn (Int.ofNat_inj.1 e))
      have HF2 : Aside0 (r = false):=⟨by rw [HS1.out,HD.out,dealFrom,hb,decide_eq_false hn];simp⟩
      rw [hb] at HK
      clear hb hn HS1
      generalize (l0_0.getD kk []) = hd at hc1 hc1n HCh HCw HLc HK hn1 hn2 HCD HL13
      go_wp2_with (go_at_call 155;refine (impl_IsHand.calls kh Ah ch hd true _ HCh.out HLc.out HK.out).mono ?_;rintro e w7 ⟨rfl,⟨nd7,rfl⟩⟩)
      go_ret
      exact ⟨by rw [HF2.out];rfl,pw_below_drewN HBr.out _⟩
   ·have hltz : ¬ (kk : Int) < (l0_0.length : Int):=by omega
    have HF2 : Aside0 (r = true):=⟨by rw [HS1.out,List.drop_eq_nil_of_le (by omega)];rfl⟩
    go_wp2
    go_ret
    exact ⟨by rw [HF2.out];rfl,HBr.out⟩
 ·have hl1 : ((l0_0.length : Int) == 4) = false:=by simp;omega
  have hl2 : ((l0_0.length : Int) != 4) = true:=by simp;omega
  have HF : Aside0 (r = false):=⟨by rw [HE.out];unfold dealB;rw [decide_eq_false hl,Bool.false_and]⟩
  clear HE hl
  go_enter Try.func143,Try.ntmps143
  go_wp2_with (first|((with_reducible refine gate_dst (N:=1) rfl ?_);refine box_event ?hg (N:=1) ?hd (cs:=#[.slice A0_0 l0_0.length c0_0]) (t:=44) ?hr ?_;(case hd=>rfl);(case hg=>rfl);(case hr=>first|(go_simp;done)|(go_simp;rfl));intro gb hg w2 hbox hb;have hcz0 : w2.cell? ⟨gb,0,none⟩ = some (.slice A0_0 l0_0.length c0_0):=(blk_cell hbox 0).trans rfl;have HB:=Aside0.mk hb;clear hg hbox hb))
  go_ret
  exact ⟨by rw [HF.out];rfl,HB.out⟩

/-! ### slices_Clone_int64_int64_144: function 144 -/
def slices_Clone_int64_int64_144.f (l0 : List (List Int)) : Option (List (List Int)) := if l0.length < 1099511627776 then some l0 else none
set_option maxHeartbeats 2000000 in
set_option maxRecDepth 100000 in
theorem slices_Clone_int64_int64_144.calls (P0_ : Nat → Prop) (A0 : Option Addr) (c0 : Nat) (l0 : List (List Int)) (r : List (List Int)) (w : World) (hs0 : Kd.V (Kd.slice 2 (Kd.int .i64)) 22 w w.heap.size (fun k_ => P0_ k_) (.slice A0 l0.length c0) l0) (h : slices_Clone_int64_int64_144.f l0 = some r) :
  Calls Try.prog 144 #[.slice A0 l0.length c0] w fun e w'=>∃ v0_ : Value,e = .returned (v0_) ∧ Kd.N (Kd.slice 2 (Kd.int .i64)) 22 w' w.heap.size (fun k_=>(P0_ k_ ∨ w.heap.size ≤ k_)) v0_ r ∧ Below w.heap.size w w':=by
 have q : ∀ (w : World) (a : Option Addr) (n c : Nat),(binOp .eql 39 (.slice a n c) (.slice none 0 0)).run Try.prog w = .ok (.bool a.isNone) w:=fun w a n c=>_root_.Go.run_eql_slice_nil w _ _ a n c Try.underlying39
 unfold slices_Clone_int64_int64_144.f at h
 by_cases hl : l0.length < 1099511627776
 ·rw [if_pos hl] at h
  obtain rfl:=Option.some.inj h
  clear h
  have HV:=Aside0.mk hs0
  clear hs0
  cases A0 with
  | none =>
   have e0 : l0 = []:=by
    have h2:=(Kd.V_reads' HV.out).2.2.2.2
    cases l0 with
    | nil=>rfl
    | cons x xs=>obtain ⟨ad,e,_⟩:=h2 (by simp);cases e
   subst e0
   go_enter Try.func144,Try.ntmps144
   go_wp2
   go_ret
   exact ⟨_,rfl,Kd.N_nil _ _ _ _ _,Below.refl _ _⟩
  | some ad =>
   have HL:=Aside0.mk hl
   clear hl
   go_enter Try.func144,Try.ntmps144
   go_wp2_with (first|((with_reducible refine gate_dst (N:=5) rfl ?_);refine Kd.N_lit (Kd.slice 2 (Kd.int .i64)) w.heap.size 22 ?hg (N':=5) ?hd (xs:=([] : List (List Int))) (inner:=[]) (ok:=fun k_=>(P0_ k_ ∨ w.heap.size ≤ k_)) (okp:=fun _=>False) ?hr ?hp (fun _ hk=>hk.elim) (.inr (Nat.le_refl _)) (Below.refl _ _) (Nat.le_refl _) (by simp) ?_;(case hd=>rfl);(case hg=>rfl);(case hr=>first|(go_simp;done)|(go_simp;rfl));(case hp=>exact (Reps.none _ _));intro v1 w1 ho hb hgr hnew;have HO:=Aside0.mk ho;have HB:=Aside0.mk hb;clear ho hb hgr hnew)|(at_builtin;refine Kd.N_append_rows (Kd.slice 2 (Kd.int .i64)) (w0:=w) w.heap.size rfl _ _ 39 22 (.slice none 0 0) 24 rfl Try.underlying39 info22 rfl (by decide) (by decide) _ [] l0 (some ad) l0.length c0 (fun k_=>(P0_ k_ ∨ w.heap.size ≤ k_)) (fun k_=>P0_ k_ ∧ k_ < w.heap.size) rfl rfl HO.out (Kd.F_below (Kd.F_bound (Kd.V_F HV.out)) HB.out) (fun k hk=>⟨.inl hk.1,fun e=>absurd hk.2 (Nat.not_lt.2 (Kd.N_base HO.out k e.symm))⟩) (fun k hk=>.inr (Nat.le_trans HB.out.size hk)) HB.out HB.out.size (by have:=HL.out;simp;omega) ?_;intro v2 w2 ho2 hb2 hg2 hn2;have HO2:=Aside0.mk ho2;have HB2:=Aside0.mk hb2;clear ho2 hb2 hg2 hn2))
   go_ret
   exact ⟨_,rfl,HO2.out,HB2.out⟩
 ·rw [if_neg hl] at h
  cases h

/-! ### slices_Clone_int64_int64_115: function 115 -/
def slices_Clone_int64_int64_115.f (l0 : List Int) : Option (List Int) := if l0.length < 17592186044416 then some l0 else none
set_option maxHeartbeats 2000000 in
set_option maxRecDepth 100000 in
theorem slices_Clone_int64_int64_115.calls (A0 : Option Addr) (c0 : Nat) (l0 : List Int) (r : List Int) (w : World) (hr0 : Kd.C (Kd.int .i64) w A0 l0.length l0) (hc0 : l0.length ≤ c0) (h : slices_Clone_int64_int64_115.f l0 = some r) :
  Calls Try.prog 115 #[.slice A0 l0.length c0] w fun e w'=>∃ v0_ : Value,e = .returned (v0_) ∧ Kd.R (Kd.int .i64) 2 w' w.heap.size (fun _=>True) v0_ r ∧ Below w.heap.size w w':=by
 have q : ∀ (w : World) (a : Option Addr) (n c : Nat),(binOp .eql 22 (.slice a n c) (.slice none 0 0)).run Try.prog w = .ok (.bool a.isNone) w:=fun w a n c=>_root_.Go.run_eql_slice_nil w _ _ a n c Try.underlying22
 unfold slices_Clone_int64_int64_115.f at h
 by_cases hl : l0.length < 17592186044416
 ·rw [if_pos hl] at h
  obtain rfl:=Option.some.inj h
  clear h
  have HR:=Aside0.mk hr0
  clear hr0
  cases A0 with
  | none =>
   have e0 : l0 = []:=by
    cases l0 with
    | nil=>rfl
    | cons x xs=>obtain ⟨ad,e,_⟩:=HR.out.2.2 (by simp);cases e
   subst e0
   go_enter Try.func115,Try.ntmps115
   go_wp2
   go_ret
   exact ⟨_,rfl,Kd.R_nil _ _ _ _ _,Below.refl _ _⟩
  | some ad =>
   have HL:=Aside0.mk hl
   clear hl
   go_enter Try.func115,Try.ntmps115
   go_wp2_with (first|((with_reducible refine gate_dst (N:=5) rfl ?_);refine Kd.R_lit (Kd.int .i64) w.heap.size 2 ?hg (N:=5) ?hd (xs:=([] : List Int)) (inner:=[]) (ok:=fun _=>True) (okp:=fun _=>True) ?hr ?hp (fun _ hk=>hk) trivial (Below.refl _ _) (Nat.le_refl _) (by simp) ?_;(case hd=>rfl);(case hg=>rfl);(case hr=>first|(go_simp;done)|(go_simp;rfl));(case hp=>exact (Reps.none _ _));intro v1 w1 ho hb hgr hnew;have HO:=Aside0.mk ho;have HB:=Aside0.mk hb;clear ho hb hgr hnew)|(at_builtin;refine Kd.R_append_row (Value.int .i64) (0 : Int) (w0:=w) w.heap.size rfl _ _ 22 2 (.int .i64 0) 8 rfl Try.underlying22 info2 rfl (by decide) _ [] l0 (some ad) l0.length c0 (fun _=>True) rfl rfl (fun _ _=>trivial) HO.out (Kd.C_below HR.out HB.out) HB.out HB.out.size (by have:=HL.out;simp;omega) ?_;intro v2 w2 ho2 hb2 hg2 hn2;have HO2:=Aside0.mk ho2;have HB2:=Aside0.mk hb2;clear ho2 hb2 hg2 hn2))
   go_ret
   exact ⟨_,rfl,HO2.out,HB2.out⟩
 ·rw [if_neg hl] at h
  cases h

/-! ### impl_without: function 145 -/
/-- The closure: is it that card? -/
theorem impl_without.clo (gb : Nat) (card c : Int) (W : World) (hc : W.cell? ⟨gb, 0, none⟩ = some (.int .i64 card)) : Calls Try.prog 157 #[.int .i64 c, .pointer (some ⟨gb, 0, none⟩)] W fun e w' => e = .returned (.bool (c == card)) ∧ ∃ q, w' = W.drewN q := by
 go_enter Try.func157,Try.ntmps157
 go_wp2
 go_ret
 exact ⟨rfl,0,rfl⟩
theorem impl_without.ix_nil (g : Nat) (lb : Array Value) (w : World) : Calls Try.prog 162 #[.slice none 0 0, .func (.func g) #[] lb] w fun e w' => e = .returned (.int .i64 (-1)) ∧ ∃ q, w' = w.drewN q := by
 go_enter Try.func162,Try.ntmps162
 go_wp2
 go_loopg [5,8] 0 (fun _ _ s8 wr=>s8 = .int .i64 0 ∧ wr = w)
 case atStart=>exact ⟨rfl,rfl⟩
 case round =>
  obtain ⟨rfl,rfl⟩:=hrel
  go_wp2
  go_ret
  exact ⟨rfl,0,rfl⟩
theorem impl_without.del_nil (g : Nat) (lb : Array Value) (w : World) : Calls Try.prog 156 #[.slice none 0 0, .func (.func g) #[] lb] w fun e w' => e = .returned (.slice none 0 0) ∧ ∃ q, w' = w.drewN q := by
 go_enter Try.func156,Try.ntmps156
 go_wp2_with (go_at_call 162;refine (impl_without.ix_nil g lb _).mono ?_;rintro e w' ⟨rfl,q,rfl⟩)
 go_ret
 exact ⟨rfl,_,rfl⟩
theorem impl_without.one : OneCell (Value.int .i64) := by
 intro x;rfl
/-- DeleteFunc over a row of the call's own. -/
theorem impl_without.del (g : Nat) (lb : Array Value) (p : Int → Bool) (eg : ∀ args w, (callFunc g args).run Try.prog w = .ok (.enter g args) w) {base : Nat} {ok : Nat → Prop} {v : Value} {l : List Int} {w : World} (ho0 : Kd.R (Kd.int .i64) 2 w base ok v l) (hlen : l.length ≤ 9223372036854775807)
  (hp : ∀ (W : World) (x : Int),(∀ k,k < w.heap.size → some k ≠ v.ownBlock → W.heap[k]? = w.heap[k]?) → FnGives Try.prog g lb #[.int .i64 x] (.bool (p x)) W) :
  Calls Try.prog 156 #[v,.func (.func g) #[] lb] w fun e w'=>∃ v' : Value,e = .returned v' ∧ Kd.R (Kd.int .i64) 2 w' base ok v' (l.filter fun x=>!p x) ∧ w.grownBy w' v.ownBlock:=by
 have ho:=Kd.own_of_R ho0
 rcases ho.2 with ⟨rfl,h0⟩|⟨gr,cap,cur,rfl,hbase,hheap,hn,hcap,hsz,htake⟩
 ·have e0 : l = []:=List.eq_nil_of_length_eq_zero h0
  subst e0
  refine (impl_without.del_nil g lb w).mono ?_
  rintro e w' ⟨rfl,q,rfl⟩
  exact ⟨_,rfl,Kd.R_drewN (Kd.R_nil _ _ _ _ _) q,grown_of_below (pw_below_drewN (Below.refl _ _) q) none⟩
 ·have hg : gr < w.heap.size:=(Array.getElem?_eq_some_iff.1 hheap).1
  have hH:=holds_of_blockI (ss:=l) hheap (by simpa [encs] using htake)
  have hok:=ho0.1
  have hne : ∀ k,k ≠ gr → some k ≠ (Value.slice (some ⟨gr,0,none⟩) l.length cap).ownBlock:=fun k hk e=>hk (by simpa [Value.ownBlock] using e)
  have hpo : PredOver Try.prog g lb (Value.int .i64) p gr 0 l.toArray.size w:=fun n os dk x _=>hp _ x (fun k hk hnk=>(grownBy_sortedI (w:=w) (g:=gr) (n:=n) (os:=os) dk).block k hk (fun e=>hnk (by cases e;rfl)))
  have hpa : PredAt Try.prog g lb (Value.int .i64) p w:=fun W x hb=>hp W x (fun k hk _=>hb.block k hk)
  refine (AnyE.slices_DeleteFunc Try.delLays (Value.int .i64) impl_without.one p g lb eg 0 (fun w=>Try.zeroValue2 w) gr 0 cap l.toArray w hpa hpo hH (by simpa using hlen) (by simpa using hn)).mono ?_
  rintro e w' ⟨rfl,q,rfl⟩
  have hfl : (l.filter fun x=>!p x).length ≤ l.length:=List.length_filter_le _ _
  have hgr:=grownBy_sortedI (w:=w) (g:=gr) (n:=q) (os:=#[]) ((l.filter fun x=>!p x) ++ List.replicate (l.length - (l.filter fun x=>!p x).length) 0).toArray
  have hs:=ownsRow_sortedI (n:=q) (os:=#[]) (ss:=l) (ts:=(l.filter fun x=>!p x) ++ List.replicate (l.length - (l.filter fun x=>!p x).length) 0) (by simp;omega) hbase hheap hn hcap hsz
  rw [Go.Sort.grow_empty] at hgr hs
  have ht:=own_take hs hfl
  rw [Nat.mul_one,List.map_append,List.take_append_of_le_length (by simp),List.take_of_length_le (by simp)] at ht
  refine ⟨_,rfl,Kd.R_of_own ht (fun k hk=>hok k (by simpa [Value.ownBlock] using hk)),?_⟩
  simpa [Value.ownBlock] using hgr
theorem impl_without.pred {w w1 W : World} {a1 : Int} {v : Value} (hb : Below (w.alloc (.cells #[.int .i64 a1] 2)).heap.size (w.alloc (.cells #[.int .i64 a1] 2)) w1) (hv : ∀ k, v.ownBlock = some k → (w.alloc (.cells #[.int .i64 a1] 2)).heap.size ≤ k)
  (hW : ∀ k,k < w1.heap.size → some k ≠ v.ownBlock → W.heap[k]? = w1.heap[k]?) : W.cell? ⟨w.heap.size,0,none⟩ = some (.int .i64 a1):=by
 have h1:=blk_new w (.cells #[.int .i64 a1] 2)
 have h2:=blk_below h1 hb
 have h3:=(hW w.heap.size (blk_lt h2) (fun e=>by have:=hv _ e.symm;have:=blk_lt h1;omega)).trans h2
 exact (blk_cell h3 0).trans rfl
def impl_without.f (l0 : List Int) (a1 : Int) : Option (List Int) := if l0.length < 17592186044416 then some (l0.filter fun x => !(x == a1)) else none
set_option maxHeartbeats 2000000 in
set_option maxRecDepth 100000 in
theorem impl_without.calls (A0 : Option Addr) (c0 : Nat) (l0 : List Int) (a1 : Int) (r : List Int) (w : World) (hr0 : Kd.C (Kd.int .i64) w A0 l0.length l0) (hc0 : l0.length ≤ c0) (h : impl_without.f l0 a1 = some r) :
  Calls Try.prog 145 #[.slice A0 l0.length c0,.int .i64 a1] w fun e w'=>∃ v0_ : Value,e = .returned (v0_) ∧ Kd.R (Kd.int .i64) 2 w' w.heap.size (fun _=>True) v0_ r ∧ Below w.heap.size w w':=by
 have eg:=enters_of Try.func157 (by kernel_rfl) rfl
 unfold impl_without.f at h
 by_cases hl : l0.length < 17592186044416
 ·rw [if_pos hl] at h
  obtain rfl:=Option.some.inj h
  clear h
  have HR:=Aside0.mk hr0
  have HC:=Aside0.mk hc0
  have HL:=Aside0.mk hl
  have EG:=Aside0.mk eg
  clear hr0 hc0 hl eg
  go_enter Try.func145,Try.ntmps145
  go_wp2_with (first|(go_at_call 115;refine (slices_Clone_int64_int64_115.calls A0 c0 l0 l0 _ (Kd.C_alloc HR.out _) HC.out (by unfold slices_Clone_int64_int64_115.f;rw [if_pos HL.out])).mono ?_;rintro e w1 ⟨v,rfl,ho,hb⟩;have HO:=Aside0.mk ho;have HB:=Aside0.mk hb;clear ho hb)|(go_at_call 156;refine (impl_without.del 157 #[.pointer (some ⟨w.heap.size,0,none⟩)] (fun x=>x == a1) EG.out HO.out (by have:=HL.out;omega) (fun W x hW=>by unfold FnGives;exact impl_without.clo w.heap.size a1 x W (impl_without.pred HB.out (fun k hk=>Kd.R_base HO.out k hk) hW))).mono ?_;rintro e w2 ⟨v2,rfl,ho2,hg2⟩;have HO2:=Aside0.mk (Kd.R_lower ho2 (by simp) : Kd.R (Kd.int .i64) 2 w2 w.heap.size _ _ _);have HB2:=Aside0.mk (below_step (below_alloc (Below.refl _ _) _) (HB.out.grown hg2 HB.out.size (fun k hk=>Kd.R_base HO.out k hk)) : Below w.heap.size w w2);clear ho2 hg2))
  go_ret
  exact ⟨_,rfl,HO2.out,HB2.out⟩
 ·rw [if_neg hl] at h
  cases h

end Go.Proofs.Ytakepkjcmgcepaa.QFnExactIsClaim
