/- The functions that the law FnExactTurnOf reaches, as plain functions, and the walks that show that the machine's calls answer so. Written by a program of this session (wip/myprint.py) on the kit's print. -/
import Derived.Test.YtakepkjcmgcepaaQFnExactTurnOfx0
import Derived.Test.YtakepkjcmgcepaaQFnExactTurnOfx6
namespace Go.Proofs.Ytakepkjcmgcepaa.QFnExactTurnOf
open Go.RowKit Go.Proofs.YtakepkjcmgcepaaW.PrintWords Go.Proofs.YtakepkjcmgcepaaW.PrintLast Go.Proofs.YtakepkjcmgcepaaW.PrintMore
attribute [local go_sem] max2_int min2_int max_two min_two max_three min_three max_four min_four   -- for this text's walks alone
set_option linter.unusedVariables false
set_option linter.unusedSimpArgs false

/-! ### impl_IsPlainPlay: function 25 -/
/-- Are these cards, all different from each other and from those seen? -/
def impl_IsPlainPlay.scan : List Int → List Int → Bool
 | [],_=>true
 | c :: cs,seen=>decide (0 ≤ c) && (decide (c ≤ 51) && (!(seen.contains c) && impl_IsPlainPlay.scan cs (c :: seen)))
def impl_IsPlainPlay.ok (a b : Int) (l : List Int) : Bool := (decide (0 ≤ a) && decide (a ≤ 4)) && ((decide (0 ≤ b) && decide (b ≤ 3)) && (decide (l.length ≤ 52) && impl_IsPlainPlay.scan l []))
def impl_IsPlainPlay.f (a0_0 : Int) (a0_1 : Int) (l0_2 : List Int) : Option (Bool) := some (impl_IsPlainPlay.ok a0_0 a0_1 l0_2)
theorem impl_IsPlainPlay.scan_bad {l : List Int} {s : List Int} {kk : Nat} (h : kk < l.length) (hb : (decide (0 ≤ rd l kk) && decide (rd l kk ≤ 51)) = false) : impl_IsPlainPlay.scan (l.drop kk) s = false := by
 rw [show l.drop kk = rd l (kk : Int) :: l.drop (kk + 1) by rw [show rd l (kk : Int) = l[kk] by simp [rd,List.getD_eq_getElem?_getD,h]];exact List.drop_eq_getElem_cons h]
 simp only [impl_IsPlainPlay.scan]
 rw [← Bool.and_assoc,hb,Bool.false_and]
theorem impl_IsPlainPlay.scan_dup {l : List Int} {s : List Int} {kk : Nat} (h : kk < l.length) (hb : s.contains (rd l kk) = true) : impl_IsPlainPlay.scan (l.drop kk) s = false := by
 rw [show l.drop kk = rd l (kk : Int) :: l.drop (kk + 1) by rw [show rd l (kk : Int) = l[kk] by simp [rd,List.getD_eq_getElem?_getD,h]];exact List.drop_eq_getElem_cons h]
 simp only [impl_IsPlainPlay.scan]
 rw [hb];simp
theorem impl_IsPlainPlay.scan_step {l : List Int} {s : List Int} {kk : Nat} (h : kk < l.length) (h0 : 0 ≤ rd l kk) (h1 : rd l kk ≤ 51) (hb : s.contains (rd l kk) = false) : impl_IsPlainPlay.scan (l.drop kk) s = impl_IsPlainPlay.scan (l.drop (kk + 1)) (rd l kk :: s) := by
 rw [show l.drop kk = rd l (kk : Int) :: l.drop (kk + 1) by rw [show rd l (kk : Int) = l[kk] by simp [rd,List.getD_eq_getElem?_getD,h]];exact List.drop_eq_getElem_cons h]
 simp only [impl_IsPlainPlay.scan]
 rw [hb,decide_eq_true h0,decide_eq_true h1];simp
set_option maxHeartbeats 4000000 in
set_option maxRecDepth 100000 in
theorem impl_IsPlainPlay.calls (a0_0 : Int) (a0_1 : Int) (A0_2 : Option Addr) (c0_2 : Nat) (l0_2 : List Int) (r : Bool) (w : World) (hr0_2 : Kd.C (Kd.int .i64) w A0_2 l0_2.length l0_2) (hc0_2 : l0_2.length ≤ c0_2) (h : impl_IsPlainPlay.f a0_0 a0_1 l0_2 = some r) :
  Calls Try.prog 25 #[.agg #[.int .i64 a0_0,.int .i64 a0_1,.slice A0_2 l0_2.length c0_2]] w fun e w'=>e = .returned (.bool r) ∧ Below w.heap.size w w':=by
 have HS : Aside0 (impl_isStrain.f a0_0 = some (decide (0 ≤ a0_0) && decide (a0_0 ≤ 4))):=⟨by simp only [impl_isStrain.f,impl_within.f];by_cases h : 0 ≤ a0_0 <;> simp [h]⟩
 have HT : Aside0 (impl_isSeat.f a0_1 = some (decide (0 ≤ a0_1) && decide (a0_1 ≤ 3))):=⟨by simp only [impl_isSeat.f,impl_within.f];by_cases h : 0 ≤ a0_1 <;> simp [h]⟩
 have HE : Aside0 (r = impl_IsPlainPlay.ok a0_0 a0_1 l0_2):=⟨(Option.some.inj h).symm⟩
 have HV : Aside0 (∀ y : Int,impl_isCard.f y = some (decide (0 ≤ y) && decide (y ≤ 51))):=⟨fun y=>by simp only [impl_isCard.f,impl_within.f];by_cases h : 0 ≤ y <;> simp [h]⟩
 have hz : ∀ w,(zeroValue 78).run Try.prog w = .ok (.agg zeros52) w:=(zero_of_info (n:=52) (by kernel_rfl)).1
 have HI : Aside0 ((Try.prog.info? 78).map (·.size) = some zeros52.size):=⟨by kernel_rfl⟩
 have HBU : Aside0 (Try.prog.built 78 [] = some zeros52):=⟨by kernel_rfl⟩
 have hsc : ∀ (W : World) (n : Nat),Sem.run Try.prog (storeCells ⟨W.heap.size,0,none⟩ zeros52.toList) ((W.drewN n).alloc (.cells zeros52 78)) = .ok () ((W.drewN n).alloc (.cells zeros52 78)):=fun W n=>run_storeCells_new (W.drewN n) 78 zeros52 zeros52 HI.out rfl zeros52_one
 have hbig : l0_2.length ≤ 9223372036854775807:=hr0_2.2.1
 have HR:=Aside0.mk hr0_2
 clear hr0_2 h hc0_2
 unfold impl_IsPlainPlay.ok at HE
 generalize (decide (0 ≤ a0_0) && decide (a0_0 ≤ 4)) = b1 at HS HE
 generalize (decide (0 ≤ a0_1) && decide (a0_1 ≤ 3)) = b2 at HT HE
 cases b1 with
 | false =>
  have HF : Aside0 (r = false):=⟨by rw [HE.out];rfl⟩
  clear HE
  go_enter Try.func25,Try.ntmps25
  go_wp2_with (first|((with_reducible refine gate_dst (N:=1) rfl ?_);refine box_event ?hg (N:=1) ?hd (cs:=#[.int .i64 a0_0,.int .i64 a0_1,.slice A0_2 l0_2.length c0_2]) (t:=27) ?hr ?_;(case hd=>rfl);(case hg=>rfl);(case hr=>first|(go_simp;done)|(go_simp;rfl));intro gb hg w2 hbox hb;have hcz0 : w2.cell? ⟨gb,0,none⟩ = some (.int .i64 a0_0):=(blk_cell hbox 0).trans rfl;have hcz1 : w2.cell? ⟨gb,1,none⟩ = some (.int .i64 a0_1):=(blk_cell hbox 1).trans rfl;have hcz2 : w2.cell? ⟨gb,2,none⟩ = some (.slice A0_2 l0_2.length c0_2):=(blk_cell hbox 2).trans rfl;have BK:=Aside0.mk hbox;have HB:=Aside0.mk hb;clear hg hbox hb)|(go_at_call 84;refine (impl_isStrain.calls a0_0 false _ HS.out).mono ?_;rintro e w3 ⟨rfl,⟨nd3,rfl⟩⟩))
  go_ret
  exact ⟨by rw [HF.out];rfl,pw_below_drewN HB.out _⟩
 | true =>
  cases b2 with
  | false =>
   have HF : Aside0 (r = false):=⟨by rw [HE.out];rfl⟩
   clear HE
   go_enter Try.func25,Try.ntmps25
   go_wp2_with (first|((with_reducible refine gate_dst (N:=1) rfl ?_);refine box_event ?hg (N:=1) ?hd (cs:=#[.int .i64 a0_0,.int .i64 a0_1,.slice A0_2 l0_2.length c0_2]) (t:=27) ?hr ?_;(case hd=>rfl);(case hg=>rfl);(case hr=>first|(go_simp;done)|(go_simp;rfl));intro gb hg w2 hbox hb;have hcz0 : w2.cell? ⟨gb,0,none⟩ = some (.int .i64 a0_0):=(blk_cell hbox 0).trans rfl;have hcz1 : w2.cell? ⟨gb,1,none⟩ = some (.int .i64 a0_1):=(blk_cell hbox 1).trans rfl;have hcz2 : w2.cell? ⟨gb,2,none⟩ = some (.slice A0_2 l0_2.length c0_2):=(blk_cell hbox 2).trans rfl;have BK:=Aside0.mk hbox;have HB:=Aside0.mk hb;clear hg hbox hb)|(go_at_call 84;refine (impl_isStrain.calls a0_0 true _ HS.out).mono ?_;rintro e w3 ⟨rfl,⟨nd3,rfl⟩⟩)|(go_at_call 85;refine (impl_isSeat.calls a0_1 false _ HT.out).mono ?_;rintro e w4 ⟨rfl,⟨nd4,rfl⟩⟩))
   go_ret
   exact ⟨by rw [HF.out];rfl,pw_below_drewN HB.out _⟩
  | true =>
   by_cases hl : l0_2.length ≤ 52
   ·have hlz : decide (52 < (l0_2.length : Int)) = false:=decide_eq_false (by omega)
    have HF : Aside0 (r = impl_IsPlainPlay.scan l0_2 []):=⟨by rw [HE.out,decide_eq_true hl];rfl⟩
    clear HE
    have HL:=Aside0.mk hl
    clear hl
    go_enter Try.func25,Try.ntmps25
    go_wp2_with (first|((with_reducible refine gate_dst (N:=1) rfl ?_);refine box_event ?hg (N:=1) ?hd (cs:=#[.int .i64 a0_0,.int .i64 a0_1,.slice A0_2 l0_2.length c0_2]) (t:=27) ?hr ?_;(case hd=>rfl);(case hg=>rfl);(case hr=>first|(go_simp;done)|(go_simp;rfl));intro gb hg w2 hbox hb;have hcz0 : w2.cell? ⟨gb,0,none⟩ = some (.int .i64 a0_0):=(blk_cell hbox 0).trans rfl;have hcz1 : w2.cell? ⟨gb,1,none⟩ = some (.int .i64 a0_1):=(blk_cell hbox 1).trans rfl;have hcz2 : w2.cell? ⟨gb,2,none⟩ = some (.slice A0_2 l0_2.length c0_2):=(blk_cell hbox 2).trans rfl;have BK:=Aside0.mk hbox;have hcA : ∀ (n : Nat) (o : Obj),((w2.drewN n).alloc o).cell? ⟨gb,2,none⟩ = some (.slice A0_2 l0_2.length c0_2):=fun n o=>(blk_cell (blk_alloc (blk_drewN BK.out n) o) 2).trans rfl;have HB:=Aside0.mk hb;clear hg hbox hb)|(go_at_call 84;refine (impl_isStrain.calls a0_0 true _ HS.out).mono ?_;rintro e w3 ⟨rfl,⟨nd3,rfl⟩⟩)|(go_at_call 85;refine (impl_isSeat.calls a0_1 true _ HT.out).mono ?_;rintro e w4 ⟨rfl,⟨nd4,rfl⟩⟩)|((with_reducible refine gate_dst (N:=22) rfl ?_);refine wpList_build rfl 78 #[] rfl ?hb1 ?_;(case hb1=>(show (Try.prog.built 78 []).isSome = true);rw [HBU.out];rfl);(show wpList _ _ _ _ (Act.put _ _ (.agg ((Try.prog.built 78 []).getD #[]))) _);rw [HBU.out,Option.getD_some]))
    have HB4:=Aside0.mk (pw_below_drewN HB.out (nd3 + nd4))
    have HGB : Aside0 (gb < w2.heap.size):=⟨blk_lt BK.out⟩
    have HW2 : Aside0 (w.heap.size ≤ w2.heap.size):=⟨HB.out.size⟩
    have BKA:=Aside0.mk (blk_alloc (blk_drewN BK.out (nd3 + nd4)) (.cells zeros52 78))
    go_loopg [26] l0_2.length (fun gk v26 wr=>∃ (kk : Nat) (s : List Int),v26 = .int .i64 kk ∧ kk ≤ l0_2.length ∧ l0_2.length - kk ≤ gk ∧ Aside0 (impl_IsPlainPlay.scan l0_2 [] = impl_IsPlainPlay.scan (l0_2.drop kk) s) ∧ Aside0 (Seen wr w2.heap.size 78 s) ∧ Aside0 (Below w.heap.size w wr))
    case atStart=>exact ⟨0,[],rfl,Nat.zero_le _,by omega,⟨by simp⟩,⟨Seen.zero (heap_alloc_last (w2.drewN (nd3 + nd4)) _)⟩,⟨below_alloc HB4.out _⟩⟩
    case round =>
     obtain ⟨kk,s,rfl,hkk,hgk,HS1,HSeen,HBr⟩:=hrel
     by_cases hlt : kk < l0_2.length
     ·have hltz : (kk : Int) < (l0_2.length : Int):=by omega
      obtain ⟨ad,rfl,hcell⟩:=Kd.at_int HR.out (kk : Int) (by omega) hltz
      rw [Int.toNat_natCast] at hcell
      have hcell':=(HBr.out.cell (World.block_lt_of_cell? w _ hcell)).trans hcell
      clear hcell
      have HV1:=Aside0.mk (HV.out (rd l0_2 kk))
      cases hb : (decide (0 ≤ rd l0_2 kk) && decide (rd l0_2 kk ≤ 51)) with
      | false =>
       rw [hb] at HV1
       have HF2 : Aside0 (r = false):=⟨by rw [HF.out,HS1.out];exact impl_IsPlainPlay.scan_bad hlt hb⟩
       clear hb
       generalize rd l0_2 kk = y at hcell' HV1
       go_wp2_with (go_at_call 86;refine (impl_isCard.calls y false _ HV1.out).mono ?_;rintro e w7 ⟨rfl,⟨nd7,rfl⟩⟩)
       go_ret
       exact ⟨by rw [HF2.out];rfl,pw_below_drewN HBr.out _⟩
      | true =>
       rw [hb] at HV1
       rw [Bool.and_eq_true,decide_eq_true_eq,decide_eq_true_eq] at hb
       obtain ⟨hy0,hy1⟩:=hb
       have hy1z : rd l0_2 kk < 52:=by omega
       have hyc : ∀ n : Nat,(wr.drewN n).cell? ⟨w2.heap.size,(rd l0_2 kk).toNat,none⟩ = some (.bool (s.contains (rd l0_2 kk))):=fun n=>(HSeen.out.drewN n).cell hy0 hy1
       have hyf : ∀ n : Nat,(wr.drewN n).frozen? ⟨w2.heap.size,(rd l0_2 kk).toNat,none⟩ = false:=fun n=>(HSeen.out.drewN n).free _
       have HPut : Aside0 (∀ n : Nat,Seen ((wr.drewN n).setCell ⟨w2.heap.size,(rd l0_2 kk).toNat,none⟩ (.bool true)) w2.heap.size 78 (rd l0_2 kk :: s)):=⟨fun n=>(HSeen.out.drewN n).put hy0 hy1⟩
       cases hd : s.contains (rd l0_2 kk) with
       | true =>
        have HF2 : Aside0 (r = false):=⟨by rw [HF.out,HS1.out];exact impl_IsPlainPlay.scan_dup hlt hd⟩
        rw [hd] at hyc
        clear hd HPut
        generalize rd l0_2 kk = y at hcell' HV1 hy0 hy1 hy1z hyc hyf
        go_wp2_with (go_at_call 86;refine (impl_isCard.calls y true _ HV1.out).mono ?_;rintro e w7 ⟨rfl,⟨nd7,rfl⟩⟩)
        go_ret
        exact ⟨by rw [HF2.out];rfl,pw_below_drewN HBr.out _⟩
       | false =>
        have HS2 : Aside0 (impl_IsPlainPlay.scan l0_2 [] = impl_IsPlainPlay.scan (l0_2.drop (kk + 1)) (rd l0_2 kk :: s)):=⟨by rw [HS1.out];exact impl_IsPlainPlay.scan_step hlt hy0 hy1 hd⟩
        rw [hd] at hyc
        clear hd
        generalize rd l0_2 kk = y at hcell' HV1 hy0 hy1 hy1z hyc hyf HPut HS2
        go_wp2_with (go_at_call 86;refine (impl_isCard.calls y true _ HV1.out).mono ?_;rintro e w7 ⟨rfl,⟨nd7,rfl⟩⟩)
        go_roundg (gk - 1)
        case measure=>omega
        case rel=>exact ⟨kk + 1,y :: s,by first|rfl|(rw [wrap64_in _ (by omega)];push_cast;rfl)|(simp;done),by omega,by omega,HS2,⟨HPut.out _⟩,⟨below_set (pw_below_drewN HBr.out _) HW2.out⟩⟩
     ·have hltz : ¬ (kk : Int) < (l0_2.length : Int):=by omega
      have HF2 : Aside0 (r = true):=⟨by rw [HF.out,HS1.out,List.drop_eq_nil_of_le (by omega)];rfl⟩
      go_wp2
      go_ret
      exact ⟨by rw [HF2.out];rfl,HBr.out⟩
   ·have hlz : decide (52 < (l0_2.length : Int)) = true:=decide_eq_true (by omega)
    have HF : Aside0 (r = false):=⟨by rw [HE.out,decide_eq_false hl];rfl⟩
    clear HE hl
    go_enter Try.func25,Try.ntmps25
    go_wp2_with (first|((with_reducible refine gate_dst (N:=1) rfl ?_);refine box_event ?hg (N:=1) ?hd (cs:=#[.int .i64 a0_0,.int .i64 a0_1,.slice A0_2 l0_2.length c0_2]) (t:=27) ?hr ?_;(case hd=>rfl);(case hg=>rfl);(case hr=>first|(go_simp;done)|(go_simp;rfl));intro gb hg w2 hbox hb;have hcz0 : w2.cell? ⟨gb,0,none⟩ = some (.int .i64 a0_0):=(blk_cell hbox 0).trans rfl;have hcz1 : w2.cell? ⟨gb,1,none⟩ = some (.int .i64 a0_1):=(blk_cell hbox 1).trans rfl;have hcz2 : w2.cell? ⟨gb,2,none⟩ = some (.slice A0_2 l0_2.length c0_2):=(blk_cell hbox 2).trans rfl;have BK:=Aside0.mk hbox;have HB:=Aside0.mk hb;clear hg hbox hb)|(go_at_call 84;refine (impl_isStrain.calls a0_0 true _ HS.out).mono ?_;rintro e w3 ⟨rfl,⟨nd3,rfl⟩⟩)|(go_at_call 85;refine (impl_isSeat.calls a0_1 true _ HT.out).mono ?_;rintro e w4 ⟨rfl,⟨nd4,rfl⟩⟩))
    go_ret
    exact ⟨by rw [HF.out];rfl,pw_below_drewN HB.out _⟩

/-! ### impl_suit: function 137 -/
def impl_suit.f (a0 : Int) : Option (Int) := some (wrap64 (Int.tdiv a0 13))
set_option maxHeartbeats 8000000 in
set_option maxRecDepth 100000 in
theorem impl_suit.calls (a0 : Int) (r : Int) (w : World) (h : impl_suit.f a0 = some r) :
  Calls Try.prog 137 #[.int .i64 a0] w fun e w'=>e = .returned (.int .i64 r) ∧ Drawn0 w w':=by
 have H : (some (wrap64 (Int.tdiv a0 13))) = some r:=h
 clear h
 obtain rfl:=Option.some.inj H
 go_enter Try.func137,Try.ntmps137
 go_wp2
 go_ret
 exact ⟨by first|rfl|(simp;done)|(simp [*];done),by repeat (first|exact Drawn0.refl _|apply Drawn0.step)⟩

/-! ### impl_wins: function 132 -/
def impl_wins.f (a0 : Int) (a1 : Int) (a2 : Int) : Option (Bool) := (impl_suit.f a2).bind fun t256 => ((impl_suit.f a1).bind fun t257 => (if t256 = t257 then (some (decide (a2 > a1))) else ((impl_suit.f a2).bind fun t258 => (some (t258 == a0)))))
set_option maxHeartbeats 8000000 in
set_option maxRecDepth 100000 in
theorem impl_wins.calls (a0 : Int) (a1 : Int) (a2 : Int) (r : Bool) (w : World) (h : impl_wins.f a0 a1 a2 = some r) :
  Calls Try.prog 132 #[.int .i64 a0,.int .i64 a1,.int .i64 a2] w fun e w'=>e = .returned (.bool r) ∧ Drawn0 w w':=by
 have H : ((impl_suit.f a2).bind fun t256=>((impl_suit.f a1).bind fun t257=>(if t256 = t257 then (some (decide (a2 > a1))) else ((impl_suit.f a2).bind fun t258=>(some (t258 == a0)))))) = some r:=h
 clear h
 replace H:=Option.bind_eq_some_iff.mp H
 obtain ⟨t256,A40,H⟩:=H
 replace H : ((impl_suit.f a1).bind fun t257=>(if t256 = t257 then (some (decide (a2 > a1))) else ((impl_suit.f a2).bind fun t258=>(some (t258 == a0))))) = some r:=H
 have A4:=aK A40
 clear A40
 replace H:=Option.bind_eq_some_iff.mp H
 obtain ⟨t257,A50,H⟩:=H
 replace H : (if t256 = t257 then (some (decide (a2 > a1))) else ((impl_suit.f a2).bind fun t258=>(some (t258 == a0)))) = some r:=H
 have A5:=aK A50
 clear A50
 by_cases c6 : t256 = t257
 ·rw [if_pos c6] at H
  have c6b0 : (t256 == t257) = true:=beq_iff_eq.mpr c6
  have c6b1 : (t256 != t257) = false:=bne_eq_false_iff_eq.mpr c6
  clear c6
  obtain rfl:=Option.some.inj H
  go_enter Try.func132,Try.ntmps132
  go_wp2_with (first|((with_reducible refine gate_callee (f:=137) rfl ?_);refine goesL_ (some 8) rfl rfl Try.func137 (by kernel_rfl) rfl #[.int .i64 a2] rfl (by (try simp only [mA,mC,mN]);first|done|rfl) ?_;(with_reducible refine (impl_suit.calls a2 t256 _ A4.out).mono ?_);rintro e w' ⟨rfl,⟨nd,rfl⟩⟩;refine ⟨_,rfl,?_⟩)|((with_reducible refine gate_callee (f:=137) rfl ?_);refine goesL_ (some 10) rfl rfl Try.func137 (by kernel_rfl) rfl #[.int .i64 a1] rfl (by (try simp only [mA,mC,mN]);first|done|rfl) ?_;(with_reducible refine (impl_suit.calls a1 t257 _ A5.out).mono ?_);rintro e w' ⟨rfl,⟨nd,rfl⟩⟩;refine ⟨_,rfl,?_⟩))
  go_ret
  exact ⟨by first|rfl|(simp;done)|(simp [*];done),by repeat (first|exact Drawn0.refl _|apply Drawn0.step)⟩
 ·rw [if_neg c6] at H
  have c6b0 : (t256 == t257) = false:=beq_eq_false_iff_ne.mpr c6
  have c6b1 : (t256 != t257) = true:=bne_iff_ne.mpr c6
  replace H:=Option.bind_eq_some_iff.mp H
  obtain ⟨t258,A70,H⟩:=H
  replace H : (some (t258 == a0)) = some r:=H
  have A7:=aK A70
  clear A70
  obtain rfl:=Option.some.inj H
  go_enter Try.func132,Try.ntmps132
  go_wp2_with (first|((with_reducible refine gate_callee (f:=137) rfl ?_);refine goesL_ (some 8) rfl rfl Try.func137 (by kernel_rfl) rfl #[.int .i64 a2] rfl (by (try simp only [mA,mC,mN]);first|done|rfl) ?_;(with_reducible refine (impl_suit.calls a2 t256 _ A4.out).mono ?_);rintro e w' ⟨rfl,⟨nd,rfl⟩⟩;refine ⟨_,rfl,?_⟩)|((with_reducible refine gate_callee (f:=137) rfl ?_);refine goesL_ (some 10) rfl rfl Try.func137 (by kernel_rfl) rfl #[.int .i64 a1] rfl (by (try simp only [mA,mC,mN]);first|done|rfl) ?_;(with_reducible refine (impl_suit.calls a1 t257 _ A5.out).mono ?_);rintro e w' ⟨rfl,⟨nd,rfl⟩⟩;refine ⟨_,rfl,?_⟩)|((with_reducible refine gate_callee (f:=137) rfl ?_);refine goesL_ (some 16) rfl rfl Try.func137 (by kernel_rfl) rfl #[.int .i64 a2] rfl (by (try simp only [mA,mC,mN]);first|done|rfl) ?_;(with_reducible refine (impl_suit.calls a2 t258 _ A7.out).mono ?_);rintro e w' ⟨rfl,⟨nd,rfl⟩⟩;refine ⟨_,rfl,?_⟩))
  go_ret
  exact ⟨by first|rfl|(simp;done)|(simp [*];done),by repeat (first|exact Drawn0.refl _|apply Drawn0.step)⟩

/-! ### impl_best: function 91 -/
def impl_best.l0 : Nat → Int → List Int → Int → List Int → Int → Int → Option (Int)
 | 0,_,_,_,_,_,_=>none
 | k + 1,x0,x1,x5,x8,x9,x10=>if x10 < x9 then (if 0 ≤ x10 then (if x10 < (x8.length : Int) then (if 0 ≤ x5 then (if x5 < (x1.length : Int) then ((impl_wins.f x0 (rd x1 x5) (rd x8 x10)).bind fun t261=>(if t261 = true then (impl_best.l0 k x0 x1 x10 x8 x9 (wrap64 (x10 + 1))) else (impl_best.l0 k x0 x1 x5 x8 x9 (wrap64 (x10 + 1))))) else (none)) else (none)) else (none)) else (none)) else (some x5)
def impl_best.f (k : Nat) (a0 : Int) (l1 : List Int) : Option (Int) := impl_best.l0 k a0 l1 0 l1 (l1.length : Int) 0
theorem impl_best.mono_l : ∀ k, (∀ y0 y1 y2 y3 y4 y5, LeO (impl_best.l0 k y0 y1 y2 y3 y4 y5) (impl_best.l0 (k + 1) y0 y1 y2 y3 y4 y5))
 | 0=>fun _ _ _ _ _ _ r h=>by simp [impl_best.l0] at h
 | k + 1=>by
  have ih0:=impl_best.mono_l k
  ·intro y0 y1 y2 y3 y4 y5
   unfold impl_best.l0
   repeat' first
   | (with_reducible exact ih0 _ _ _ _ _ _)
   | (with_reducible exact LeO.refl _)
   | (with_reducible exact LeO.none _)
   | (with_reducible refine LeO.ite ?_ ?_)
   | (with_reducible refine LeO.bind ?_ (fun _=>?_))
   | exact ih0 _ _ _ _ _ _
   | exact LeO.none _
   | refine LeO.ite ?_ ?_
   | refine LeO.bind ?_ (fun _=>?_)
theorem impl_best.mono : ∀ a0 a1 k, LeO (impl_best.f k a0 a1) (impl_best.f (k + 1) a0 a1) := by
 intro a0 a1 k
 have ih0:=impl_best.mono_l k
 unfold impl_best.f
 repeat' first
   | (with_reducible exact ih0 _ _ _ _ _ _)
   | (with_reducible exact LeO.refl _)
   | (with_reducible exact LeO.none _)
   | (with_reducible refine LeO.ite ?_ ?_)
   | (with_reducible refine LeO.bind ?_ (fun _=>?_))
   | exact ih0 _ _ _ _ _ _
   | exact LeO.none _
   | refine LeO.ite ?_ ?_
   | refine LeO.bind ?_ (fun _=>?_)
set_option maxHeartbeats 8000000 in
set_option maxRecDepth 100000 in
theorem impl_best.calls (k : Nat) (a0 : Int) (A1 : Option Addr) (c1 : Nat) (l1 : List Int) (r : Int) (w : World) (hr1 : Kd.C (Kd.int .i64) w A1 l1.length l1) (hc1 : l1.length ≤ c1) (h : impl_best.f k a0 l1 = some r) :
  Calls Try.prog 91 #[.int .i64 a0,.slice A1 l1.length c1] w fun e w'=>e = .returned (.int .i64 r) ∧ Drawn0 w w':=by
 have HR1:=aK hr1
 have HC1:=aK hc1
 clear hr1 hc1
 have H : (impl_best.l0 k a0 l1 0 l1 (l1.length : Int) 0) = some r:=h
 clear h
 have H':=aK H
 clear H
 go_enter Try.func91,Try.ntmps91
 go_wp2
 go_loopg [5,10] k (fun kq v5 v10 w'=>∃ (x5_1 : Int) (x10_1 : Int),v5 = .int .i64 x5_1 ∧ v10 = .int .i64 x10_1 ∧ Aside0 (impl_best.l0 kq a0 l1 x5_1 l1 (l1.length : Int) x10_1 = some r) ∧ Aside0 (kq ≤ k) ∧ Drawn0 w w')
 case atStart=>exact ⟨(0),(0),(by first|rfl|(simp;done)|(simp [*];done)),(by first|rfl|(simp;done)|(simp [*];done)),H',⟨Nat.le_refl _⟩,by repeat (first|exact Drawn0.refl _|apply Drawn0.step)⟩
 case round =>
  clear H'
  try clear c1
  try clear p2
  obtain ⟨x5_1,x10_1,rfl,rfl,HA,HK1,⟨m1,rfl⟩⟩:=hrel
  cases gk with
  | zero=>exact absurd HA.out (by simp [impl_best.l0])
  | succ k1 =>
   have H:=HA.out
   clear HA
   simp only [impl_best.l0] at H
   by_cases c3 : x10_1 < (l1.length : Int)
   ·rw [if_pos c3] at H
    have c3b0 : decide (x10_1 < (l1.length : Int)) = true:=decide_eq_true c3
    clear c3
    by_cases c4 : 0 ≤ x10_1
    ·rw [if_pos c4] at H
     have c4b0 : decide (0 ≤ x10_1) = true:=decide_eq_true c4
     clear c4
     by_cases c5 : x10_1 < (l1.length : Int)
     ·rw [if_pos c5] at H
      have c5b0 : decide (x10_1 < (l1.length : Int)) = true:=decide_eq_true c5
      clear c5
      by_cases c6 : 0 ≤ x5_1
      ·rw [if_pos c6] at H
       have c6b0 : decide (0 ≤ x5_1) = true:=decide_eq_true c6
       clear c6
       by_cases c7 : x5_1 < (l1.length : Int)
       ·rw [if_pos c7] at H
        have c7b0 : decide (x5_1 < (l1.length : Int)) = true:=decide_eq_true c7
        clear c7
        replace H:=Option.bind_eq_some_iff.mp H
        obtain ⟨t261,A80,H⟩:=H
        replace H : (if t261 = true then (impl_best.l0 k1 a0 l1 x10_1 l1 (l1.length : Int) (wrap64 (x10_1 + 1))) else (impl_best.l0 k1 a0 l1 x5_1 l1 (l1.length : Int) (wrap64 (x10_1 + 1)))) = some r:=H
        have A8:=aK A80
        clear A80
        by_cases c9 : t261 = true
        ·subst c9
         have H1 : (impl_best.l0 k1 a0 l1 x10_1 l1 (l1.length : Int) (wrap64 (x10_1 + 1))) = some r:=by rw [if_pos rfl] at H;exact H
         clear H
         have H:=H1
         clear H1
         have H':=aK H
         clear H
         have p259 : 0 ≤ (x10_1 : Int):=of_decide_eq_true (by first|(with_reducible assumption)|assumption)
         have q259 : x10_1 < (l1.length : Int):=of_decide_eq_true (by first|(with_reducible assumption)|assumption)
         obtain ⟨ad259,e259,hx259_0⟩:=Kd.at_int HR1.out x10_1 p259 q259
         cases e259
         replace p259:=eq_true p259
         replace q259:=eq_true q259
         have p260 : 0 ≤ (x5_1 : Int):=of_decide_eq_true (by first|(with_reducible assumption)|assumption)
         have q260 : x5_1 < (l1.length : Int):=of_decide_eq_true (by first|(with_reducible assumption)|assumption)
         obtain ⟨ad260,e260,hx260_0⟩:=Kd.at_int HR1.out x5_1 p260 q260
         obtain rfl : ad259 = ad260:=(by injection e260)
         replace p260:=eq_true p260
         replace q260:=eq_true q260
         go_wp2_with (first|((with_reducible refine gate_callee (f:=132) rfl ?_);refine goesL_ (some 21) rfl rfl Try.func132 (by kernel_rfl) rfl #[.int .i64 a0,.int .i64 (rd l1 x5_1),.int .i64 (rd l1 x10_1)] rfl (by (try simp only [mA,mC,mN]);first|done|rfl) ?_;(with_reducible refine (impl_wins.calls a0 (rd l1 x5_1) (rd l1 x10_1) true _ A8.out).mono ?_);rintro e w' ⟨rfl,⟨nd,rfl⟩⟩;refine ⟨_,rfl,?_⟩))
         go_roundg k1
         case measure=>have:=HK1.out;omega
         case rel=>exact ⟨(x10_1),(wrap64 (x10_1 + 1)),(by first|rfl|(simp;done)|(simp [*];done)),(by first|rfl|(simp;done)|(simp [*];done)),H',⟨by have:=HK1.out;omega⟩,by repeat (first|exact Drawn0.refl _|apply Drawn0.step)⟩
        ·replace c9:=Bool.eq_false_iff.mpr c9
         subst c9
         have H1 : (impl_best.l0 k1 a0 l1 x5_1 l1 (l1.length : Int) (wrap64 (x10_1 + 1))) = some r:=by rw [if_neg (show ¬ (false = true) by decide)] at H;exact H
         clear H
         have H:=H1
         clear H1
         have H':=aK H
         clear H
         have p259 : 0 ≤ (x10_1 : Int):=of_decide_eq_true (by first|(with_reducible assumption)|assumption)
         have q259 : x10_1 < (l1.length : Int):=of_decide_eq_true (by first|(with_reducible assumption)|assumption)
         obtain ⟨ad259,e259,hx259_0⟩:=Kd.at_int HR1.out x10_1 p259 q259
         cases e259
         replace p259:=eq_true p259
         replace q259:=eq_true q259
         have p260 : 0 ≤ (x5_1 : Int):=of_decide_eq_true (by first|(with_reducible assumption)|assumption)
         have q260 : x5_1 < (l1.length : Int):=of_decide_eq_true (by first|(with_reducible assumption)|assumption)
         obtain ⟨ad260,e260,hx260_0⟩:=Kd.at_int HR1.out x5_1 p260 q260
         obtain rfl : ad259 = ad260:=(by injection e260)
         replace p260:=eq_true p260
         replace q260:=eq_true q260
         go_wp2_with (first|((with_reducible refine gate_callee (f:=132) rfl ?_);refine goesL_ (some 21) rfl rfl Try.func132 (by kernel_rfl) rfl #[.int .i64 a0,.int .i64 (rd l1 x5_1),.int .i64 (rd l1 x10_1)] rfl (by (try simp only [mA,mC,mN]);first|done|rfl) ?_;(with_reducible refine (impl_wins.calls a0 (rd l1 x5_1) (rd l1 x10_1) false _ A8.out).mono ?_);rintro e w' ⟨rfl,⟨nd,rfl⟩⟩;refine ⟨_,rfl,?_⟩))
         go_roundg k1
         case measure=>have:=HK1.out;omega
         case rel=>exact ⟨(x5_1),(wrap64 (x10_1 + 1)),(by first|rfl|(simp;done)|(simp [*];done)),(by first|rfl|(simp;done)|(simp [*];done)),H',⟨by have:=HK1.out;omega⟩,by repeat (first|exact Drawn0.refl _|apply Drawn0.step)⟩
       ·rw [if_neg c7] at H
        exact absurd H (by simp)
      ·rw [if_neg c6] at H
       exact absurd H (by simp)
     ·rw [if_neg c5] at H
      exact absurd H (by simp)
    ·rw [if_neg c4] at H
     exact absurd H (by simp)
   ·rw [if_neg c3] at H
    have c3b0 : decide (x10_1 < (l1.length : Int)) = false:=decide_eq_false c3
    clear c3
    obtain rfl:=Option.some.inj H
    go_wp2
    go_ret
    exact ⟨by first|rfl|(simp;done)|(simp [*];done),by repeat (first|exact Drawn0.refl _|apply Drawn0.step)⟩

/-! ### impl_leaders: function 93 -/
def impl_leaders.l0 : Nat → List Int → Int → Int → Int → List Int → Option (List Int)
 | 0,_,_,_,_,_=>none
 | k + 1,x3,x4,x263000,x263001,x263002=>if (wrap64 (x4 + 4)) ≤ (x263002.length : Int) then (if 0 ≤ (wrap64 ((x3.length : Int) - 1)) then (if (wrap64 ((x3.length : Int) - 1)) < (x3.length : Int) then (if 0 ≤ x4 then (if x4 ≤ (wrap64 (x4 + 4)) then ((impl_best.f k x263000 ((x263002.take ((wrap64 (x4 + 4)) : Int).toNat).drop (x4 : Int).toNat)).bind fun t268=>(if x3.length < 17592186044416 then (impl_leaders.l0 k (x3 ++ [Int.tmod (wrap64 ((rd x3 (wrap64 ((x3.length : Int) - 1))) + t268)) 4]) (wrap64 (x4 + 4)) x263000 x263001 x263002) else (none))) else (none)) else (none)) else (none)) else (none)) else (some x3)
def impl_leaders.f (k : Nat) (a0_0 : Int) (a0_1 : Int) (l0_2 : List Int) : Option (List Int) := impl_leaders.l0 k (([a0_1] : List Int)) 0 a0_0 a0_1 l0_2
theorem impl_leaders.mono_l : ∀ k, (∀ y0 y1 y2 y3 y4, LeO (impl_leaders.l0 k y0 y1 y2 y3 y4) (impl_leaders.l0 (k + 1) y0 y1 y2 y3 y4))
 | 0=>fun _ _ _ _ _ r h=>by simp [impl_leaders.l0] at h
 | k + 1=>by
  have ih0:=impl_leaders.mono_l k
  ·intro y0 y1 y2 y3 y4
   unfold impl_leaders.l0
   repeat' first
   | (with_reducible exact ih0 _ _ _ _ _)
   | (with_reducible exact impl_best.mono _ _ _)
   | (with_reducible exact LeO.refl _)
   | (with_reducible exact LeO.none _)
   | (with_reducible refine LeO.ite ?_ ?_)
   | (with_reducible refine LeO.bind ?_ (fun _=>?_))
   | exact ih0 _ _ _ _ _
   | exact impl_best.mono _ _ _
   | exact LeO.none _
   | refine LeO.ite ?_ ?_
   | refine LeO.bind ?_ (fun _=>?_)
theorem impl_leaders.mono : ∀ a0 a1 a2 k, LeO (impl_leaders.f k a0 a1 a2) (impl_leaders.f (k + 1) a0 a1 a2) := by
 intro a0 a1 a2 k
 have ih0:=impl_leaders.mono_l k
 unfold impl_leaders.f
 repeat' first
   | (with_reducible exact ih0 _ _ _ _ _)
   | (with_reducible exact impl_best.mono _ _ _)
   | (with_reducible exact LeO.refl _)
   | (with_reducible exact LeO.none _)
   | (with_reducible refine LeO.ite ?_ ?_)
   | (with_reducible refine LeO.bind ?_ (fun _=>?_))
   | exact ih0 _ _ _ _ _
   | exact impl_best.mono _ _ _
   | exact LeO.none _
   | refine LeO.ite ?_ ?_
   | refine LeO.bind ?_ (fun _=>?_)
def impl_leaders.T5 : Bool × List (List Nat × List Nat) := (true, [([], []), ([], []), ([], []), ([2], [2]), ([3], [3]), ([1, 4], [1, 4]), ([5], [5]), ([], []), ([7], [7]), ([], []), ([9], [9]), ([], []), ([], []), ([12], [12]), ([10, 11, 13], [10, 11, 13]), ([8, 14], [8, 14]), ([6, 15], [6, 15]), ([16], [16]), ([17], [17]), ([0, 18, 15], [0, 18]), ([19, 19, 0, 1, 2, 3, 4, 5, 6, 7, 8, 9, 10, 11, 12, 13, 14, 15, 16, 17, 18, 19], [0, 1, 2, 19])])
def impl_leaders.B5 : List Nat := [0, 0, 0, 4, 12, 30, 62, 0, 128, 0, 512, 0, 0, 4096, 15872, 32640, 65534, 131070, 262142, 524287, 1048575]
theorem impl_leaders.tab5 : rtab .any (opsOf Try.f93 5) = impl_leaders.T5 := by kernel_rfl
theorem impl_leaders.bits5 : waitsOk impl_leaders.T5.2 impl_leaders.B5 = true := by kernel_rfl
set_option maxHeartbeats 8000000 in
set_option maxRecDepth 100000 in
theorem impl_leaders.calls (k : Nat) (a0_0 : Int) (a0_1 : Int) (A0_2 : Option Addr) (c0_2 : Nat) (l0_2 : List Int) (r : List Int) (w : World) (hr0_2 : Kd.C (Kd.int .i64) w A0_2 l0_2.length l0_2) (hc0_2 : l0_2.length ≤ c0_2) (h : impl_leaders.f k a0_0 a0_1 l0_2 = some r) :
  Calls Try.prog 93 #[.agg #[.int .i64 a0_0,.int .i64 a0_1,.slice A0_2 l0_2.length c0_2]] w fun e w'=>∃ v0_ : Value,e = .returned (v0_) ∧ Kd.R (Kd.int .i64) 2 w' w.heap.size (fun _=>True) v0_ r ∧ Below w.heap.size w w':=by
 have hu27:=Try.underlying27
 have HR0_2:=aK hr0_2
 have HC0_2:=aK hc0_2
 clear hr0_2 hc0_2
 have HB:=aK (Below.refl w.heap.size w)
 have H : (impl_leaders.l0 k (([a0_1] : List Int)) 0 a0_0 a0_1 l0_2) = some r:=h
 clear h
 obtain ⟨y263,hy263⟩ : ∃ y_ : List Int,y_ = (([a0_1] : List Int)):=⟨_,rfl⟩
 replace H : (impl_leaders.l0 k y263 0 a0_0 a0_1 l0_2) = some r:=by first|(rw [hy263];with_reducible exact H)|(have H2_:=(Option.bind_some _ _).symm.trans H;rw [hy263];with_reducible exact H2_)|(have H2_:=(Option.bind_some _ _).symm.trans H;with_reducible exact H2_)|with_reducible exact H|(rw [hy263];exact H)|exact H
 have Ny263:=aK hy263
 clear hy263
 have H':=aK H
 clear H
 go_enter Try.func93,Try.ntmps93
 go_wp2_with (first|((with_reducible refine gate_dst (N:=1) rfl ?_);refine box_event ?hg (N:=1) ?hd (cs:=#[.int .i64 a0_0,.int .i64 a0_1,.slice A0_2 l0_2.length c0_2]) (t:=27) ?hr ?_;(case hd=>rfl);(case hg=>rfl);(case hr=>first|(go_simp;done)|(go_simp;rfl));intro gb262 hg w2 hbox hb;have n0_:=aK (below_step (by repeat (first|(with_reducible first|exact HB.out|apply bL|apply bM|apply b1)|exact HB.out)) hb);have n1_:=aK (hbox);have n2_:=aK ((by rw [hg];exact (below_size (by repeat (first|(with_reducible first|exact HB.out|apply bL|apply bM|apply b1)|exact HB.out))) : w.heap.size ≤ gb262));have n3_:=aK ((by rw [hg];exact (below_size (by repeat (first|(with_reducible first|exact HB.out|apply bL|apply bM|apply b1)|exact HB.out))) : w.heap.size ≤ gb262));clear HB;have HB:=n0_;have BK262:=n1_;have GW262:=n2_;have GE262:=n3_;clear n0_ n1_ n2_ n3_;clear hb hbox hg;have hcz3_0 : w2.cell? ⟨gb262,0,none⟩ = some (.int .i64 a0_0):=(bC BK262.out 0).trans rfl;have hcz3_1 : w2.cell? ⟨gb262,1,none⟩ = some (.int .i64 a0_1):=(bC BK262.out 1).trans rfl;have hcz3_2 : w2.cell? ⟨gb262,2,none⟩ = some (.slice A0_2 l0_2.length c0_2):=(bC BK262.out 2).trans rfl;have hfz3_0:=blk_frozen BK262.out 0;have hfz3_1:=blk_frozen BK262.out 1;have hfz3_2:=blk_frozen BK262.out 2)|((with_reducible refine gate_dst (N:=7) rfl ?_);refine Kd.R_lit (Kd.int .i64) _ 2 ?hg (N:=7) ?hd (xs:=([a0_1] : List Int)) (inner:=[.int .i64 a0_1]) (ok:=fun _=>True) (okp:=fun _=>True) ?hr ?hp (fun _ hk=>hk) trivial (Below.refl _ _) (Nat.le_refl _) (by simp) ?_;(case hd=>rfl);(case hg=>rfl);(case hr=>first|(go_simp;done)|(go_simp;rfl));(case hp=>exact (Reps.one (show Kd.M (Kd.int .i64) _ _ _ a0_1 [.int .i64 a0_1] from rfl) (Reps.none _ _)));intro v264 w4 ho5 hb hg_ hnew_;clear hg_ hnew_;(first|rw [← Ny263.out] at ho5|(simp only [Int.reduceToNat] at ho5;rw [← Ny263.out] at ho5));have n0_:=aK (Kd.R_lower ho5 (below_size (by repeat (first|(with_reducible first|exact HB.out|apply bL|apply bM|apply b1|refine bS ?_ GE262.out)|exact HB.out))));have n1_:=aK (bB (by (with_reducible repeat first|apply bN|apply bD|apply bA);exact BK262.out) hb);have n2_:=aK (below_step (by repeat (first|(with_reducible first|exact HB.out|apply bL|apply bM|apply b1|refine bS ?_ GE262.out)|exact HB.out)) hb);clear BK262;clear HB;have HO265:=n0_;have BK262:=n1_;have HB:=n2_;clear n0_ n1_ n2_;clear hb ho5))
 go_loopg [3,4] k (fun kq v3 v4 w'=>∃ (x3_1 : List Int) (x4_1 : Int),v4 = .int .i64 x4_1 ∧ Aside0 (impl_leaders.l0 kq x3_1 x4_1 a0_0 a0_1 l0_2 = some r) ∧ Aside0 (kq ≤ k) ∧ Aside0 (Kd.R (Kd.int .i64) 2 w' w.heap.size (fun _=>True) v3 x3_1) ∧ Aside0 (w'.heap[gb262]? = some (.cells #[.int .i64 a0_0,.int .i64 a0_1,(.slice A0_2 l0_2.length c0_2)] 27 (0,0))) ∧ Aside0 (Below w.heap.size w w'))
 case atStart=>exact ⟨(y263),(0),(by first|rfl|(simp;done)|(simp [*];done)),H',⟨Nat.le_refl _⟩,⟨by (with_reducible repeat first|apply Kd.R_alloc|apply Kd.R_drewN|apply Kd.R_drew);exact HO265.out⟩,⟨by (with_reducible repeat first|apply bN|apply bD|apply bA);exact BK262.out⟩,⟨by repeat (first|(with_reducible first|exact HB.out|apply bL|apply bM|apply b1|refine bS ?_ GE262.out)|exact HB.out)⟩⟩
 case round =>
  clear H'
  try clear p2
  try clear hcz3_0
  try clear hcz3_1
  try clear hcz3_2
  try clear hfz3_0
  try clear hfz3_1
  try clear hfz3_2
  obtain ⟨x3_1,x4_1,rfl,HA,HK1,HO_3,BK262,HB⟩:=hrel
  cases gk with
  | zero=>exact absurd HA.out (by simp [impl_leaders.l0])
  | succ k1 =>
   have H:=HA.out
   clear HA
   simp only [impl_leaders.l0] at H
   by_cases c6 : (wrap64 (x4_1 + 4)) ≤ (l0_2.length : Int)
   ·rw [if_pos c6] at H
    have c6b0 : decide ((wrap64 (x4_1 + 4)) ≤ (l0_2.length : Int)) = true:=decide_eq_true c6
    clear c6
    obtain ⟨ji7,hji7⟩ : ∃ j_ : Int,(wrap64 ((x3_1.length : Int) - 1)) = j_:=⟨_,rfl⟩
    replace H : (if 0 ≤ (ji7) then (if (ji7) < (x3_1.length : Int) then (if 0 ≤ x4_1 then (if x4_1 ≤ (wrap64 (x4_1 + 4)) then ((impl_best.f k1 a0_0 ((l0_2.take ((wrap64 (x4_1 + 4)) : Int).toNat).drop (x4_1 : Int).toNat)).bind fun t268=>(if x3_1.length < 17592186044416 then (impl_leaders.l0 k1 (x3_1 ++ [Int.tmod (wrap64 ((rd x3_1 (ji7)) + t268)) 4]) (wrap64 (x4_1 + 4)) a0_0 a0_1 l0_2) else (none))) else (none)) else (none)) else (none)) else (none)) = some r:=by first|(rw [hji7] at H;exact H)|(simp only [hji7] at H ⊢;exact H)
    have hji7w : (IntKind.i64.wrap ((x3_1.length : Int) - 1)) = ji7:=(i64_w _).trans hji7
    by_cases c8 : 0 ≤ (ji7)
    ·rw [if_pos c8] at H
     have c8b0 : decide (0 ≤ (ji7)) = true:=decide_eq_true c8
     clear c8
     by_cases c9 : (ji7) < (x3_1.length : Int)
     ·rw [if_pos c9] at H
      have c9b0 : decide ((ji7) < (x3_1.length : Int)) = true:=decide_eq_true c9
      clear c9
      by_cases c10 : 0 ≤ x4_1
      ·rw [if_pos c10] at H
       have c10b0:=eq_true c10
       have c10b1 : decide (0 ≤ x4_1) = true:=decide_eq_true c10
       clear c10
       by_cases c11 : x4_1 ≤ (wrap64 (x4_1 + 4))
       ·rw [if_pos c11] at H
        have c11b0:=eq_true c11
        have c11b1 : decide (x4_1 ≤ (wrap64 (x4_1 + 4))) = true:=decide_eq_true c11
        have c12b0:=eq_true (of_decide_eq_true (by first|(with_reducible assumption)|assumption) : (wrap64 (x4_1 + 4)) ≤ (l0_2.length : Int))
        replace H:=Option.bind_eq_some_iff.mp H
        obtain ⟨t268,A130,H⟩:=H
        replace H : (if x3_1.length < 17592186044416 then (impl_leaders.l0 k1 (x3_1 ++ [Int.tmod (wrap64 ((rd x3_1 (ji7)) + t268)) 4]) (wrap64 (x4_1 + 4)) a0_0 a0_1 l0_2) else (none)) = some r:=H
        have A13:=aK A130
        clear A130
        by_cases c14 : x3_1.length < 17592186044416
        ·rw [if_pos c14] at H
         have LMc14:=aK c14
         clear c14
         obtain ⟨y269,hy269⟩ : ∃ y_ : List Int,y_ = (x3_1 ++ [Int.tmod (wrap64 ((rd x3_1 (ji7)) + t268)) 4]):=⟨_,rfl⟩
         replace H : (impl_leaders.l0 k1 y269 (wrap64 (x4_1 + 4)) a0_0 a0_1 l0_2) = some r:=by first|(rw [hy269];with_reducible exact H)|(have H2_:=(Option.bind_some _ _).symm.trans H;rw [hy269];with_reducible exact H2_)|(have H2_:=(Option.bind_some _ _).symm.trans H;with_reducible exact H2_)|with_reducible exact H|(rw [hy269];exact H)|exact H
         have Ny269:=aK hy269
         clear hy269
         have H':=aK H
         clear H
         have hcz15_0 : wr.cell? ⟨gb262,0,none⟩ = some (.int .i64 a0_0):=(bC BK262.out 0).trans rfl
         have hcz15_1 : wr.cell? ⟨gb262,1,none⟩ = some (.int .i64 a0_1):=(bC BK262.out 1).trans rfl
         have hcz15_2 : wr.cell? ⟨gb262,2,none⟩ = some (.slice A0_2 l0_2.length c0_2):=(bC BK262.out 2).trans rfl
         have hfz15_0:=blk_frozen BK262.out 0
         have hfz15_1:=blk_frozen BK262.out 1
         have hfz15_2:=blk_frozen BK262.out 2
         try go_wp2
         have n0_:=aK (Kd.R_drew HO_3.out)
         have n1_:=aK (bD BK262.out)
         have n2_:=aK (b1 HB.out)
         clear HO_3
         clear BK262
         clear HB
         have HO_3:=n0_
         have BK262:=n1_
         have HB:=n2_
         clear n0_ n1_ n2_
         obtain ⟨Ao17,co17,eo17⟩:=Kd.R_slice HO_3.out
         (first|subst eo17|(injection eo17 with f1_ f2_ f3_;have f4_:=f1_.symm;have f5_:=f3_.symm;clear f1_ f2_ f3_;subst f4_;subst f5_))
         have p266 : 0 ≤ ((ji7) : Int):=of_decide_eq_true (by first|(with_reducible assumption)|assumption)
         have q266 : (ji7) < (x3_1.length : Int):=of_decide_eq_true (by first|(with_reducible assumption)|assumption)
         obtain ⟨ad266,e266,hx266_0⟩:=Kd.at_int (Kd.R_reads' HO_3.out).2.2 (ji7) p266 q266
         cases e266
         replace p266:=eq_true p266
         replace q266:=eq_true q266
         obtain ⟨i018,hi018,_,hsz18,_⟩:=info_parts info2
         obtain ⟨A18,hcut18,hA18,hC18⟩:=print_mid_of (P:=Try.prog) (Value.int .i64) 0 22 2 .i64 .i64 Try.underlying22 hi018 hsz18 A0_2 c0_2 l0_2 x4_1 (wrap64 (x4_1 + 4)) (of_decide_eq_true (by first|(with_reducible assumption)|assumption)) (by first|omega|exact of_decide_eq_true (by first|(with_reducible assumption)|assumption)) (of_decide_eq_true (by first|(with_reducible assumption)|assumption)) HC0_2.out
         have HR267:=aK (Kd.C_of_reads (h1:=fun _=>rfl) (hA18 _ (Kd.reads_of_C HR0_2.out)))
         have HC267:=aK hC18
         clear hA18 hC18 hi018 hsz18
         refine start_ (n:=21) (S:=fun w'=>w'.cell? ⟨gb262,0,none⟩ = some (.int .i64 a0_0) ∧ w'.cell? ⟨gb262,1,none⟩ = some (.int .i64 a0_1) ∧ w'.cell? ⟨gb262,2,none⟩ = some (.slice A0_2 l0_2.length c0_2) ∧ w'.cell? (ad266.add ((ji7)).toNat) = some (.int .i64 (rd x3_1 (ji7)))) (ds:=[18,19]) #[false,false,false,false,false,false,false,false,false,false,false,false,false,false,false,false,false,false,false,false,false] (by kernel_rfl) rfl rfl ⟨(bC BK262.out 0).trans rfl,(bC BK262.out 1).trans rfl,(bC BK262.out 2).trans rfl,hx266_0⟩ (fun hHeld=>?_);refine with_tabW impl_leaders.tab5 impl_leaders.bits5 (fun HT_ HW_=>?_)
         generalize wr.drew = w16 at HO_3 BK262 HB HR267 hx266_0 hHeld ⊢
         refine pure_ (i:=0) (N:=some 16) (v:=?_) (a':=?_) #[true,false,false,false,false,false,false,false,false,false,false,false,false,false,false,false,false,false,false,false,false] rfl rfl (any_of HT_.out (by kernel_rfl)) (fun _ _ _ h=>h) (Or.inl ⟨by rfl,?_⟩) ?_ ?_
         rotate_left
         ·intro w'
          go_simp
          with_reducible rfl
         rotate_left
         ·simp only [Act.put,lA,l0',lS,i64_w,i32_w]
          rfl
         refine pure_ (i:=1) (N:=some 17) (v:=?_) (a':=?_) #[true,true,false,false,false,false,false,false,false,false,false,false,false,false,false,false,false,false,false,false,false] rfl rfl (any_of HT_.out (by kernel_rfl)) (fun _ _ _ h=>h) (Or.inl ⟨by rfl,?_⟩) ?_ ?_
         rotate_left
         ·intro w'
          go_simp
          with_reducible rfl
         rotate_left
         ·simp only [Act.put,lA,l0',lS,i64_w,i32_w]
          rfl
         refine pure_ (i:=2) (N:=some 18) (v:=?_) (a':=?_) #[true,true,true,false,false,false,false,false,false,false,false,false,false,false,false,false,false,false,false,false,false] rfl rfl (any_of HT_.out (by kernel_rfl)) (fun _ _ _ h=>h) (Or.inl ⟨by rfl,?_⟩) ?_ ?_
         rotate_left
         ·intro w'
          go_simp
          with_reducible rfl
         rotate_left
         ·simp only [Act.put,lA,l0',lS,i64_w,i32_w]
          rfl
         refine pure_ (i:=3) (N:=some 19) (v:=?_) (a':=?_) #[true,true,true,true,false,false,false,false,false,false,false,false,false,false,false,false,false,false,false,false,false] rfl rfl (any_of HT_.out (by kernel_rfl)) (fun _ _ _ h=>h) (Or.inl ⟨by rfl,?_⟩) ?_ ?_
         rotate_left
         ·intro w'
          go_simp
          with_reducible rfl
         rotate_left
         ·simp only [Act.put,lA,l0',lS,i64_w,i32_w]
          rfl
         refine pure_ (i:=4) (N:=some 20) (v:=?_) (a':=?_) #[true,true,true,true,true,false,false,false,false,false,false,false,false,false,false,false,false,false,false,false,false] rfl rfl (any_of HT_.out (by kernel_rfl)) (fun _ _ _ h=>h) (Or.inl ⟨by rfl,?_⟩) ?_ ?_
         rotate_left
         ·intro w'
          go_simp
          with_reducible rfl
         rotate_left
         ·simp only [Act.put,lA,l0',lS,i64_w,i32_w]
          rfl
         refine pure_ (i:=5) (N:=some 21) (v:=?_) (a':=?_) #[true,true,true,true,true,true,false,false,false,false,false,false,false,false,false,false,false,false,false,false,false] rfl rfl (any_of HT_.out (by kernel_rfl)) (fun _ _ _ h=>h) (Or.inl ⟨by rfl,?_⟩) ?_ ?_
         rotate_left
         ·intro w'
          go_simp
          with_reducible rfl
         rotate_left
         ·simp only [Act.put,lA,l0',lS,i64_w,i32_w]
          rfl
         refine pure_ (i:=7) (N:=some 23) (v:=?_) (a':=?_) #[true,true,true,true,true,true,false,true,false,false,false,false,false,false,false,false,false,false,false,false,false] rfl rfl (any_of HT_.out (by kernel_rfl)) (fun _ _ _ h=>h) (Or.inl ⟨by rfl,?_⟩) ?_ ?_
         rotate_left
         ·intro w'
          go_simp
          with_reducible rfl
         rotate_left
         ·simp only [Act.put,lA,l0',lS,i64_w,i32_w]
          rfl
         refine pure_ (i:=9) (N:=some 25) (v:=?_) (a':=?_) #[true,true,true,true,true,true,false,true,false,true,false,false,false,false,false,false,false,false,false,false,false] rfl rfl (any_of HT_.out (by kernel_rfl)) (fun _ _ _ h=>h) (Or.inl ⟨by rfl,?_⟩) ?_ ?_
         rotate_left
         ·intro w'
          go_simp
          with_reducible rfl
         rotate_left
         ·simp only [Act.put,lA,l0',lS,i64_w,i32_w]
          rfl
         refine pure_ (i:=11) (N:=some 27) (v:=?_) (a':=?_) #[true,true,true,true,true,true,false,true,false,true,false,true,false,false,false,false,false,false,false,false,false] rfl rfl (any_of HT_.out (by kernel_rfl)) (fun _ _ _ h=>h) (Or.inl ⟨by rfl,?_⟩) ?_ ?_
         rotate_left
         ·intro w'
          go_simp
          with_reducible rfl
         rotate_left
         ·simp only [Act.put,lA,l0',lS,i64_w,i32_w]
          rfl
         refine pure_ (i:=12) (N:=some 28) (v:=?_) (a':=?_) #[true,true,true,true,true,true,false,true,false,true,false,true,true,false,false,false,false,false,false,false,false] rfl rfl (any_of HT_.out (by kernel_rfl)) (fun _ _ _ h=>h) (Or.inl ⟨by rfl,?_⟩) ?_ ?_
         rotate_left
         ·intro w'
          go_simp
          with_reducible rfl
         rotate_left
         ·simp only [Act.put,lA,l0',lS,i64_w,i32_w]
          rfl
         refine pure_ (i:=13) (N:=some 29) (v:=?_) (a':=?_) #[true,true,true,true,true,true,false,true,false,true,false,true,true,true,false,false,false,false,false,false,false] rfl rfl (any_of HT_.out (by kernel_rfl)) (fun _ _ _ h=>h) (Or.inl ⟨by rfl,?_⟩) ?_ ?_
         rotate_left
         ·intro w'
          go_simp
          with_reducible rfl
         rotate_left
         ·simp only [Act.put,lA,l0',lS,i64_w,i32_w]
          rfl
         refine take_ (i:=6) (N:=some 22) (v:=?_) (a':=?_) #[true,true,true,true,true,true,true,true,false,true,false,true,true,true,false,false,false,false,false,false,false] rfl rfl (take_ofW HT_.out HW_.out (by kernel_rfl)) (fun _ _ _ h=>h) (Or.inl ⟨by rfl,?_⟩) hHeld ?_ ?_
         rotate_left
         ·rintro w' ⟨s0,s1,s2,s3⟩
          go_simp
          with_reducible rfl
         rotate_left
         ·simp only [Act.put,lA,l0',lS,i64_w,i32_w]
          rfl
         refine take_ (i:=8) (N:=some 24) (v:=?_) (a':=?_) #[true,true,true,true,true,true,true,true,true,true,false,true,true,true,false,false,false,false,false,false,false] rfl rfl (take_ofW HT_.out HW_.out (by kernel_rfl)) (fun _ _ _ h=>h) (Or.inl ⟨by rfl,?_⟩) hHeld ?_ ?_
         rotate_left
         ·rintro w' ⟨s0,s1,s2,s3⟩
          go_simp
          with_reducible rfl
         rotate_left
         ·simp only [Act.put,lA,l0',lS,i64_w,i32_w]
          rfl
         refine take_ (i:=10) (N:=some 26) (v:=?_) (a':=?_) #[true,true,true,true,true,true,true,true,true,true,true,true,true,true,false,false,false,false,false,false,false] rfl rfl (take_ofW HT_.out HW_.out (by kernel_rfl)) (fun _ _ _ h=>h) (Or.inl ⟨by rfl,?_⟩) hHeld ?_ ?_
         rotate_left
         ·rintro w' ⟨s0,s1,s2,s3⟩
          go_simp
          with_reducible rfl
         rotate_left
         ·simp only [Act.put,lA,l0',lS,i64_w,i32_w]
          rfl
         refine pure_ (i:=14) (N:=some 30) (v:=?_) (a':=?_) #[true,true,true,true,true,true,true,true,true,true,true,true,true,true,true,false,false,false,false,false,false] rfl rfl (any_of HT_.out (by kernel_rfl)) (fun _ _ _ h=>h) (Or.inl ⟨by rfl,?_⟩) ?_ ?_
         rotate_left
         ·intro w'
          go_simp
          with_reducible rfl
         rotate_left
         ·simp only [Act.put,lA,l0',lS,i64_w,i32_w]
          rfl
         refine one_ (i:=15) (N:=some 31) #[true,true,true,true,true,true,true,true,true,true,true,true,true,true,true,true,false,false,false,false,false] rfl rfl (one_of HT_.out (by kernel_rfl)) (by decide) (fun K hK=>?_)
         refine goes_ Try.func91 (by kernel_rfl) rfl #[.int .i64 a0_0,.slice A18 ((l0_2.take ((wrap64 (x4_1 + 4)) : Int).toNat).drop (x4_1 : Int).toNat).length (c0_2 - x4_1.toNat)] (by rfl) rfl rfl (by (try simp only [List.map_toArray,List.map_cons,List.map_nil]);first|done|(rw [show ((l0_2.take ((wrap64 (x4_1 + 4)) : Int).toNat).drop (x4_1 : Int).toNat).length = ((wrap64 (x4_1 + 4)).toNat - x4_1.toNat) from (by rw [List.length_drop,List.length_take];have h_ : ((wrap64 (x4_1 + 4)) : Int) ≤ (l0_2.length : Int):=of_decide_eq_true (by first|(with_reducible assumption)|assumption);omega)] <;> rfl)|rfl|(simp only [List.length_drop,List.length_take];rfl)) ?_
         with_reducible refine (impl_best.calls k1 a0_0 _ _ ((l0_2.take ((wrap64 (x4_1 + 4)) : Int).toNat).drop (x4_1 : Int).toNat) t268 _ ?side1 ?side2 A13.out).mono ?_
         (case side1=>repeat (first|exact (Kd.C_below HR267.out HB.out)|(with_reducible refine Kd.C_alloc ?_ _)|(with_reducible refine Kd.C_drewN ?_ _)|(with_reducible refine Kd.C_drew ?_)))
         (case side2=>exact HC267.out)
         rintro e w' ⟨rfl,⟨nd,rfl⟩⟩
         refine ⟨_,rfl,?_⟩
         refine hK.out _ _ ⟨(bC BK262.out 0).trans rfl,(bC BK262.out 1).trans rfl,(bC BK262.out 2).trans rfl,hHeld.2.2.2⟩ (fun hHeld=>?_)
         clear hK K
         refine norm_ (a':=?_) ?_ ?_
         rotate_left
         ·show Act.put _ (some 31) _ = _
          simp only [Act.put,lA,l0',lS,i64_w,i32_w]
          rfl
         refine pure_ (i:=16) (N:=some 32) (v:=?_) (a':=?_) #[true,true,true,true,true,true,true,true,true,true,true,true,true,true,true,true,true,false,false,false,false] rfl rfl (any_of HT_.out (by kernel_rfl)) (fun _ _ _ h=>h) (Or.inl ⟨by rfl,?_⟩) ?_ ?_
         rotate_left
         ·intro w'
          go_simp
          with_reducible rfl
         rotate_left
         ·simp only [Act.put,lA,l0',lS,i64_w,i32_w]
          rfl
         refine pure_ (i:=17) (N:=some 33) (v:=?_) (a':=?_) #[true,true,true,true,true,true,true,true,true,true,true,true,true,true,true,true,true,true,false,false,false] rfl rfl (any_of HT_.out (by kernel_rfl)) (fun _ _ _ h=>h) (Or.inl ⟨by rfl,?_⟩) ?_ ?_
         rotate_left
         ·intro w'
          go_simp
          with_reducible rfl
         rotate_left
         ·simp only [Act.put,lA,l0',lS,i64_w,i32_w]
          rfl
         refine last_ (i:=18) (N:=some 34) #[true,true,true,true,true,true,true,true,true,true,true,true,true,true,true,true,true,true,true,false,false] rfl rfl (one_of HT_.out (by kernel_rfl)) (by decide) (fun K hK=>?_)
         refine value_ (w1:=?_) (v:=?_) (by rfl) rfl ?_ ?_
         rotate_left 2
         ·go_simp
          constructor
          ·rfl
          ·rfl
         refine hK.out _ _ ?_
         clear hK K
         refine norm_ (a':=?_) ?_ ?_
         rotate_left
         ·show Act.put _ (some 34) _ = _
          simp only [Act.put,lA,l0',lS,i64_w,i32_w]
          rfl
         refine last_ (i:=19) (N:=some 35) #[true,true,true,true,true,true,true,true,true,true,true,true,true,true,true,true,true,true,true,true,false] rfl rfl (one_of HT_.out (by kernel_rfl)) (by decide) (fun K hK=>?_)
         refine Kd.R_append_step (Kd.int .i64) (w0:=w) w.heap.size (by rfl) (.tmp 16) (.tmp 34) 22 2 (.int .i64 0) 8 rfl Try.underlying22 info2 rfl (by decide) (by omega) (.slice (some ad266) x3_1.length co17) x3_1 (Int.tmod (wrap64 ((rd x3_1 (ji7)) + t268)) 4) [.int .i64 (Int.tmod (wrap64 ((rd x3_1 (ji7)) + t268)) 4)] (fun _=>True) (fun _=>False) rfl rfl ?aP (fun _ hk=>hk.elim) ?aF ?aO ?aB ?aS ?aL ?_
         (case aP=>exact rfl)
         (case aB=>exact (by repeat (first|(with_reducible first|exact HB.out|apply bL|apply bM|apply b1|refine bS ?_ GE262.out)|exact HB.out)))
         (case aF=>exact (fun _ _=>trivial))
         (case aO=>exact (by (with_reducible repeat first|apply Kd.R_alloc|apply Kd.R_drewN|apply Kd.R_drew);exact HO_3.out))
         (case aS=>exact (below_size (by repeat (first|(with_reducible first|exact HB.out|apply bL|apply bM|apply b1|refine bS ?_ GE262.out)|exact HB.out))))
         (case aL=>have:=LMc14.out;omega)
         intro v270 w19 ho hb hg hat
         rw [← Ny269.out] at ho
         have n0_:=aK (blk_grown (g:=gb262) (o:=.cells #[.int .i64 a0_0,.int .i64 a0_1,.slice A0_2 l0_2.length c0_2] 27 (0,0)) (by (with_reducible repeat first|apply bN|apply bD|apply bA);exact BK262.out) hg (Kd.R_ne HO_3.out BK262.out (by decide)))
         have n1_:=aK (hb)
         have n2_:=aK (ho)
         clear BK262
         clear HB
         clear HO_3
         have BK262:=n0_
         have HB:=n1_
         have HO271:=n2_
         clear n0_ n1_ n2_
         clear ho hb hg hat
         refine hK.out _ _ ?_
         clear hK K
         refine norm_ (a':=?_) ?_ ?_
         rotate_left
         ·show Act.put _ (some 35) _ = _
          simp only [Act.put,lA,l0',lS,i64_w,i32_w]
          rfl
         refine pure_ (i:=20) (N:=some 3) (v:=?_) (a':=?_) #[true,true,true,true,true,true,true,true,true,true,true,true,true,true,true,true,true,true,true,true,true] rfl rfl (any_of HT_.out (by kernel_rfl)) (fun _ _ _ h=>h) (Or.inl ⟨by rfl,?_⟩) ?_ ?_
         rotate_left
         ·intro w'
          go_simp
          with_reducible rfl
         rotate_left
         ·simp only [Act.put,lA,l0',lS,i64_w,i32_w]
          rfl
         refine done_ (done_of HT_.out (by kernel_rfl)) ?_
         try go_wp2
         go_roundg k1
         case measure=>have:=HK1.out;omega
         case rel=>exact ⟨(y269),(wrap64 (x4_1 + 4)),(by first|rfl|(simp;done)|(simp [*];done)),H',⟨by have:=HK1.out;omega⟩,⟨by (with_reducible repeat first|apply Kd.R_alloc|apply Kd.R_drewN|apply Kd.R_drew);exact HO271.out⟩,⟨by (with_reducible repeat first|apply bN|apply bD|apply bA);exact BK262.out⟩,⟨by repeat (first|(with_reducible first|exact HB.out|apply bL|apply bM|apply b1|refine bS ?_ GE262.out)|exact HB.out)⟩⟩
        ·rw [if_neg c14] at H
         exact absurd H (by simp)
       ·rw [if_neg c11] at H
        exact absurd H (by simp)
      ·rw [if_neg c10] at H
       exact absurd H (by simp)
     ·rw [if_neg c9] at H
      exact absurd H (by simp)
    ·rw [if_neg c8] at H
     exact absurd H (by simp)
   ·rw [if_neg c6] at H
    have c6b0 : decide ((wrap64 (x4_1 + 4)) ≤ (l0_2.length : Int)) = false:=decide_eq_false c6
    clear c6
    obtain rfl:=Option.some.inj H
    have hcz20_0 : wr.cell? ⟨gb262,0,none⟩ = some (.int .i64 a0_0):=(bC BK262.out 0).trans rfl
    have hcz20_1 : wr.cell? ⟨gb262,1,none⟩ = some (.int .i64 a0_1):=(bC BK262.out 1).trans rfl
    have hcz20_2 : wr.cell? ⟨gb262,2,none⟩ = some (.slice A0_2 l0_2.length c0_2):=(bC BK262.out 2).trans rfl
    have hfz20_0:=blk_frozen BK262.out 0
    have hfz20_1:=blk_frozen BK262.out 1
    have hfz20_2:=blk_frozen BK262.out 2
    go_wp2
    go_ret
    exact ⟨_,by first|rfl|(simp [errW_none,errW_some] <;> rfl)|(simp [*,errW_none,errW_some] <;> rfl),by (with_reducible repeat first|apply Kd.R_alloc|apply Kd.R_drewN|apply Kd.R_drew);exact HO_3.out,by repeat (first|(with_reducible first|exact HB.out|apply bL|apply bM|apply b1|refine bS ?_ GE262.out)|exact HB.out)⟩

/-! ### impl_seatOf: function 110 -/
def impl_seatOf.f (l0 : List Int) (a1 : Int) : Option (Int) := if 0 ≤ (wrap64 (Int.tdiv a1 4)) then (if (wrap64 (Int.tdiv a1 4)) < (l0.length : Int) then (some (Int.tmod (wrap64 ((rd l0 (wrap64 (Int.tdiv a1 4))) + (Int.tmod a1 4))) 4)) else (none)) else (none)
set_option maxHeartbeats 8000000 in
set_option maxRecDepth 100000 in
theorem impl_seatOf.calls (A0 : Option Addr) (c0 : Nat) (l0 : List Int) (a1 : Int) (r : Int) (w : World) (hr0 : Kd.C (Kd.int .i64) w A0 l0.length l0) (hc0 : l0.length ≤ c0) (h : impl_seatOf.f l0 a1 = some r) :
  Calls Try.prog 110 #[.slice A0 l0.length c0,.int .i64 a1] w fun e w'=>e = .returned (.int .i64 r) ∧ Drawn0 w w':=by
 have HR0:=aK hr0
 have HC0:=aK hc0
 clear hr0 hc0
 have H : (if 0 ≤ (wrap64 (Int.tdiv a1 4)) then (if (wrap64 (Int.tdiv a1 4)) < (l0.length : Int) then (some (Int.tmod (wrap64 ((rd l0 (wrap64 (Int.tdiv a1 4))) + (Int.tmod a1 4))) 4)) else (none)) else (none)) = some r:=h
 clear h
 obtain ⟨ji3,hji3⟩ : ∃ j_ : Int,(wrap64 (Int.tdiv a1 4)) = j_:=⟨_,rfl⟩
 replace H : (if 0 ≤ (ji3) then (if (ji3) < (l0.length : Int) then (some (Int.tmod (wrap64 ((rd l0 (ji3)) + (Int.tmod a1 4))) 4)) else (none)) else (none)) = some r:=by first|(rw [hji3] at H;exact H)|(simp only [hji3] at H ⊢;exact H)
 have hji3w : (IntKind.i64.wrap (Int.tdiv a1 4)) = ji3:=(i64_w _).trans hji3
 by_cases c4 : 0 ≤ (ji3)
 ·rw [if_pos c4] at H
  have c4b0 : decide (0 ≤ (ji3)) = true:=decide_eq_true c4
  clear c4
  by_cases c5 : (ji3) < (l0.length : Int)
  ·rw [if_pos c5] at H
   have c5b0 : decide ((ji3) < (l0.length : Int)) = true:=decide_eq_true c5
   clear c5
   obtain rfl:=Option.some.inj H
   have p272 : 0 ≤ ((ji3) : Int):=of_decide_eq_true (by first|(with_reducible assumption)|assumption)
   have q272 : (ji3) < (l0.length : Int):=of_decide_eq_true (by first|(with_reducible assumption)|assumption)
   obtain ⟨ad272,e272,hx272_0⟩:=Kd.at_int HR0.out (ji3) p272 q272
   cases e272
   replace p272:=eq_true p272
   replace q272:=eq_true q272
   go_enter Try.func110,Try.ntmps110
   go_wp2
   go_ret
   exact ⟨by first|rfl|(simp;done)|(simp only [← hji3] <;> (first|rfl|simp))|(simp [*];done),by repeat (first|exact Drawn0.refl _|apply Drawn0.step)⟩
  ·rw [if_neg c5] at H
   exact absurd H (by simp)
 ·rw [if_neg c4] at H
  exact absurd H (by simp)

/-! ### impl_ofSuit: function 147 -/
def impl_ofSuit.l0 : Nat → Int → List Int → List Int → Int → Int → Option (List Int)
 | 0,_,_,_,_,_=>none
 | k + 1,x1,x5,x9,x10,x11=>if x11 < x10 then (if 0 ≤ x11 then (if x11 < (x9.length : Int) then ((impl_suit.f (rd x9 x11)).bind fun t277=>(if t277 = x1 then (if x5.length < 17592186044416 then (impl_ofSuit.l0 k x1 (x5 ++ [rd x9 x11]) x9 x10 (wrap64 (x11 + 1))) else (none)) else (impl_ofSuit.l0 k x1 x5 x9 x10 (wrap64 (x11 + 1))))) else (none)) else (none)) else (some x5)
def impl_ofSuit.f (k : Nat) (l0 : List Int) (a1 : Int) : Option (List Int) := impl_ofSuit.l0 k a1 (([] : List Int)) l0 (l0.length : Int) 0
theorem impl_ofSuit.mono_l : ∀ k, (∀ y0 y1 y2 y3 y4, LeO (impl_ofSuit.l0 k y0 y1 y2 y3 y4) (impl_ofSuit.l0 (k + 1) y0 y1 y2 y3 y4))
 | 0=>fun _ _ _ _ _ r h=>by simp [impl_ofSuit.l0] at h
 | k + 1=>by
  have ih0:=impl_ofSuit.mono_l k
  ·intro y0 y1 y2 y3 y4
   unfold impl_ofSuit.l0
   repeat' first
   | (with_reducible exact ih0 _ _ _ _ _)
   | (with_reducible exact LeO.refl _)
   | (with_reducible exact LeO.none _)
   | (with_reducible refine LeO.ite ?_ ?_)
   | (with_reducible refine LeO.bind ?_ (fun _=>?_))
   | exact ih0 _ _ _ _ _
   | exact LeO.none _
   | refine LeO.ite ?_ ?_
   | refine LeO.bind ?_ (fun _=>?_)
theorem impl_ofSuit.mono : ∀ a0 a1 k, LeO (impl_ofSuit.f k a0 a1) (impl_ofSuit.f (k + 1) a0 a1) := by
 intro a0 a1 k
 have ih0:=impl_ofSuit.mono_l k
 unfold impl_ofSuit.f
 repeat' first
   | (with_reducible exact ih0 _ _ _ _ _)
   | (with_reducible exact LeO.refl _)
   | (with_reducible exact LeO.none _)
   | (with_reducible refine LeO.ite ?_ ?_)
   | (with_reducible refine LeO.bind ?_ (fun _=>?_))
   | exact ih0 _ _ _ _ _
   | exact LeO.none _
   | refine LeO.ite ?_ ?_
   | refine LeO.bind ?_ (fun _=>?_)
set_option maxHeartbeats 8000000 in
set_option maxRecDepth 100000 in
theorem impl_ofSuit.calls (k : Nat) (A0 : Option Addr) (c0 : Nat) (l0 : List Int) (a1 : Int) (r : List Int) (w : World) (hr0 : Kd.C (Kd.int .i64) w A0 l0.length l0) (hc0 : l0.length ≤ c0) (h : impl_ofSuit.f k l0 a1 = some r) :
  Calls Try.prog 147 #[.slice A0 l0.length c0,.int .i64 a1] w fun e w'=>∃ v0_ : Value,e = .returned (v0_) ∧ Kd.R (Kd.int .i64) 2 w' w.heap.size (fun _=>True) v0_ r ∧ Below w.heap.size w w':=by
 have HR0:=aK hr0
 have HC0:=aK hc0
 clear hr0 hc0
 have HB:=aK (Below.refl w.heap.size w)
 have H : (impl_ofSuit.l0 k a1 (([] : List Int)) l0 (l0.length : Int) 0) = some r:=h
 clear h
 obtain ⟨y273,hy273⟩ : ∃ y_ : List Int,y_ = (([] : List Int)):=⟨_,rfl⟩
 replace H : (impl_ofSuit.l0 k a1 y273 l0 (l0.length : Int) 0) = some r:=by first|(rw [hy273];with_reducible exact H)|(have H2_:=(Option.bind_some _ _).symm.trans H;rw [hy273];with_reducible exact H2_)|(have H2_:=(Option.bind_some _ _).symm.trans H;with_reducible exact H2_)|with_reducible exact H|(rw [hy273];exact H)|exact H
 have Ny273:=aK hy273
 clear hy273
 have H':=aK H
 clear H
 go_enter Try.func147,Try.ntmps147
 go_wp2_with (first|((with_reducible refine gate_dst (N:=8) rfl ?_);refine Kd.R_lit (Kd.int .i64) _ 2 ?hg (N:=8) ?hd (xs:=([] : List Int)) (inner:=[]) (ok:=fun _=>True) (okp:=fun _=>True) ?hr ?hp (fun _ hk=>hk) trivial (Below.refl _ _) (Nat.le_refl _) (by simp) ?_;(case hd=>rfl);(case hg=>rfl);(case hr=>first|(go_simp;done)|(go_simp;rfl));(case hp=>exact (Reps.none _ _));intro v274 w3 ho4 hb hg_ hnew_;clear hg_ hnew_;(first|rw [← Ny273.out] at ho4|(simp only [Int.reduceToNat] at ho4;rw [← Ny273.out] at ho4));have n0_:=aK (Kd.R_lower ho4 (below_size (by repeat (first|(with_reducible first|exact HB.out|apply bL|apply bM|apply b1)|exact HB.out))));have n1_:=aK (below_step (by repeat (first|(with_reducible first|exact HB.out|apply bL|apply bM|apply b1)|exact HB.out)) hb);clear HB;have HO275:=n0_;have HB:=n1_;clear n0_ n1_;clear hb ho4))
 go_loopg [5,11] k (fun kq v5 v11 w'=>∃ (x5_1 : List Int) (x11_1 : Int),v11 = .int .i64 x11_1 ∧ Aside0 (impl_ofSuit.l0 kq a1 x5_1 l0 (l0.length : Int) x11_1 = some r) ∧ Aside0 (kq ≤ k) ∧ Aside0 (Kd.R (Kd.int .i64) 2 w' w.heap.size (fun _=>True) v5 x5_1) ∧ Aside0 (Below w.heap.size w w'))
 case atStart=>exact ⟨(y273),(0),(by first|rfl|(simp;done)|(simp [*];done)),H',⟨Nat.le_refl _⟩,⟨by (with_reducible repeat first|apply Kd.R_alloc|apply Kd.R_drewN|apply Kd.R_drew);exact HO275.out⟩,⟨by repeat (first|(with_reducible first|exact HB.out|apply bL|apply bM|apply b1)|exact HB.out)⟩⟩
 case round =>
  clear H'
  try clear c1
  try clear p2
  obtain ⟨x5_1,x11_1,rfl,HA,HK1,HO_5,HB⟩:=hrel
  cases gk with
  | zero=>exact absurd HA.out (by simp [impl_ofSuit.l0])
  | succ k1 =>
   have H:=HA.out
   clear HA
   simp only [impl_ofSuit.l0] at H
   by_cases c5 : x11_1 < (l0.length : Int)
   ·rw [if_pos c5] at H
    have c5b0 : decide (x11_1 < (l0.length : Int)) = true:=decide_eq_true c5
    clear c5
    by_cases c6 : 0 ≤ x11_1
    ·rw [if_pos c6] at H
     have c6b0 : decide (0 ≤ x11_1) = true:=decide_eq_true c6
     clear c6
     by_cases c7 : x11_1 < (l0.length : Int)
     ·rw [if_pos c7] at H
      have c7b0 : decide (x11_1 < (l0.length : Int)) = true:=decide_eq_true c7
      clear c7
      replace H:=Option.bind_eq_some_iff.mp H
      obtain ⟨t277,A80,H⟩:=H
      replace H : (if t277 = a1 then (if x5_1.length < 17592186044416 then (impl_ofSuit.l0 k1 a1 (x5_1 ++ [rd l0 x11_1]) l0 (l0.length : Int) (wrap64 (x11_1 + 1))) else (none)) else (impl_ofSuit.l0 k1 a1 x5_1 l0 (l0.length : Int) (wrap64 (x11_1 + 1)))) = some r:=H
      have A8:=aK A80
      clear A80
      by_cases c9 : t277 = a1
      ·rw [if_pos c9] at H
       have c9b0 : (t277 == a1) = true:=beq_iff_eq.mpr c9
       have c9b1 : (t277 != a1) = false:=bne_eq_false_iff_eq.mpr c9
       clear c9
       by_cases c10 : x5_1.length < 17592186044416
       ·rw [if_pos c10] at H
        have LMc10:=aK c10
        clear c10
        obtain ⟨y278,hy278⟩ : ∃ y_ : List Int,y_ = (x5_1 ++ [rd l0 x11_1]):=⟨_,rfl⟩
        replace H : (impl_ofSuit.l0 k1 a1 y278 l0 (l0.length : Int) (wrap64 (x11_1 + 1))) = some r:=by first|(rw [hy278];with_reducible exact H)|(have H2_:=(Option.bind_some _ _).symm.trans H;rw [hy278];with_reducible exact H2_)|(have H2_:=(Option.bind_some _ _).symm.trans H;with_reducible exact H2_)|with_reducible exact H|(rw [hy278];exact H)|exact H
        have Ny278:=aK hy278
        clear hy278
        have H':=aK H
        clear H
        have p276 : 0 ≤ (x11_1 : Int):=of_decide_eq_true (by first|(with_reducible assumption)|assumption)
        have q276 : x11_1 < (l0.length : Int):=of_decide_eq_true (by first|(with_reducible assumption)|assumption)
        obtain ⟨ad276,e276,hx276_0⟩:=Kd.at_int HR0.out x11_1 p276 q276
        cases e276
        replace hx276_0:=(HB.out.cell (World.block_lt_of_cell? w _ hx276_0)).trans hx276_0
        replace p276:=eq_true p276
        replace q276:=eq_true q276
        go_wp2_with (first|((with_reducible refine gate_callee (f:=137) rfl ?_);refine goesL_ (some 16) rfl rfl Try.func137 (by kernel_rfl) rfl #[.int .i64 (rd l0 x11_1)] rfl (by (try simp only [mA,mC,mN]);first|done|rfl) ?_;(with_reducible refine (impl_suit.calls (rd l0 x11_1) t277 _ A8.out).mono ?_);rintro e w' ⟨rfl,⟨nd,rfl⟩⟩;refine ⟨_,rfl,?_⟩)|((with_reducible refine gate_builtin (b:=.append) (xs:=#[.tmp 19,.tmp 21]) rfl ?_);at_builtin;refine Kd.R_append (Kd.int .i64) (w0:=w) w.heap.size rfl (.tmp 19) (.tmp 21) 22 2 (.int .i64 0) 8 rfl Try.underlying22 info2 rfl (by decide) (by omega) u5 x5_1 (rd l0 x11_1) [.int .i64 (rd l0 x11_1)] (fun _=>True) (fun _=>False) rfl rfl ?aP (fun _ hk=>hk.elim) ?aF ?aO ?aB ?aS ?aL ?_;(case aP=>exact rfl);(case aB=>exact (by repeat (first|(with_reducible first|exact HB.out|apply bL|apply bM|apply b1)|exact HB.out)));(case aF=>exact (fun _ _=>trivial));(case aO=>exact (by (with_reducible repeat first|apply Kd.R_alloc|apply Kd.R_drewN|apply Kd.R_drew);exact HO_5.out));(case aS=>exact (below_size (by repeat (first|(with_reducible first|exact HB.out|apply bL|apply bM|apply b1)|exact HB.out))));(case aL=>have:=LMc10.out;omega);intro v279 w11 ho hb hg hat;rw [← Ny278.out] at ho;have n0_:=aK (hb);have n1_:=aK (ho);clear HB;clear HO_5;have HB:=n0_;have HO280:=n1_;clear n0_ n1_;clear ho hb hg hat))
        go_roundg k1
        case measure=>have:=HK1.out;omega
        case rel=>exact ⟨(y278),(wrap64 (x11_1 + 1)),(by first|rfl|(simp;done)|(simp [*];done)),H',⟨by have:=HK1.out;omega⟩,⟨by (with_reducible repeat first|apply Kd.R_alloc|apply Kd.R_drewN|apply Kd.R_drew);exact HO280.out⟩,⟨by repeat (first|(with_reducible first|exact HB.out|apply bL|apply bM|apply b1)|exact HB.out)⟩⟩
       ·rw [if_neg c10] at H
        exact absurd H (by simp)
      ·rw [if_neg c9] at H
       have c9b0 : (t277 == a1) = false:=beq_eq_false_iff_ne.mpr c9
       have c9b1 : (t277 != a1) = true:=bne_iff_ne.mpr c9
       have H':=aK H
       clear H
       have p276 : 0 ≤ (x11_1 : Int):=of_decide_eq_true (by first|(with_reducible assumption)|assumption)
       have q276 : x11_1 < (l0.length : Int):=of_decide_eq_true (by first|(with_reducible assumption)|assumption)
       obtain ⟨ad276,e276,hx276_0⟩:=Kd.at_int HR0.out x11_1 p276 q276
       cases e276
       replace hx276_0:=(HB.out.cell (World.block_lt_of_cell? w _ hx276_0)).trans hx276_0
       replace p276:=eq_true p276
       replace q276:=eq_true q276
       go_wp2_with (first|((with_reducible refine gate_callee (f:=137) rfl ?_);refine goesL_ (some 16) rfl rfl Try.func137 (by kernel_rfl) rfl #[.int .i64 (rd l0 x11_1)] rfl (by (try simp only [mA,mC,mN]);first|done|rfl) ?_;(with_reducible refine (impl_suit.calls (rd l0 x11_1) t277 _ A8.out).mono ?_);rintro e w' ⟨rfl,⟨nd,rfl⟩⟩;refine ⟨_,rfl,?_⟩))
       go_roundg k1
       case measure=>have:=HK1.out;omega
       case rel=>exact ⟨(x5_1),(wrap64 (x11_1 + 1)),(by first|rfl|(simp;done)|(simp [*];done)),H',⟨by have:=HK1.out;omega⟩,⟨by (with_reducible repeat first|apply Kd.R_alloc|apply Kd.R_drewN|apply Kd.R_drew);exact HO_5.out⟩,⟨by repeat (first|(with_reducible first|exact HB.out|apply bL|apply bM|apply b1)|exact HB.out)⟩⟩
     ·rw [if_neg c7] at H
      exact absurd H (by simp)
    ·rw [if_neg c6] at H
     exact absurd H (by simp)
   ·rw [if_neg c5] at H
    have c5b0 : decide (x11_1 < (l0.length : Int)) = false:=decide_eq_false c5
    clear c5
    obtain rfl:=Option.some.inj H
    go_wp2
    go_ret
    exact ⟨_,by first|rfl|(simp [errW_none,errW_some] <;> rfl)|(simp [*,errW_none,errW_some] <;> rfl),by (with_reducible repeat first|apply Kd.R_alloc|apply Kd.R_drewN|apply Kd.R_drew);exact HO_5.out,by repeat (first|(with_reducible first|exact HB.out|apply bL|apply bM|apply b1)|exact HB.out)⟩

end Go.Proofs.Ytakepkjcmgcepaa.QFnExactTurnOf
