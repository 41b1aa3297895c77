/- Contracts of the Go functions of this seat: what each call returns is what a Lean function of its arguments says; each theorem bears its own conditions. Written by a program of this session (wip/tools/mkprint.py). -/
import Derived.Test.YtikiegglebgmpaaCGx0
-- squeezed
namespace Go.Proofs.Ytikiegglebgmpaa.PA
open Go.RowKit Go.Proofs.YtikiegglebgmpaaW.PrintWords Go.Proofs.YtikiegglebgmpaaW.PrintLast Go.Proofs.YtikiegglebgmpaaW.PrintMore
attribute [local go_sem] max2_int min2_int max_two min_two max_three min_three max_four min_four   -- for this text's walks alone
set_option linter.unusedVariables false
set_option linter.unusedSimpArgs false

attribute [local go_sem ↓ high] unary_xor_u32 ux_if_u32
attribute [local go_sem] str_gtr str_leq str_geq
/-! ### falseworkref6_writes: function 23 -/
def falseworkref6_writes.l0 : Nat → List (S41) → Int → Option (Bool)
 | 0, _, _ => none
 | k + 1, x0, x3 => if x3 < (x0.length : Int) then (if 0 ≤ x3 then (if (((rd_T41 x0 x3).f0).size : Int) > 1000 then (some false) else (if (((rd_T41 x0 x3).f1).size : Int) > 10000 then (some false) else (if (rd_T41 x0 x3).f2 = true then (if ((rd_T41 x0 x3).f1).toList = ([] : List UInt8) then (if x3 > 0 then (if 0 ≤ (wrap64 (x3 - 1)) then (if (wrap64 (x3 - 1)) < (x0.length : Int) then (if ((Op.bytesLess (((rd_T41 x0 (wrap64 (x3 - 1))).f0).toList) (((rd_T41 x0 x3).f0).toList)) = true) then (falseworkref6_writes.l0 k x0 (wrap64 (x3 + 1))) else (some false)) else (none)) else (none)) else (falseworkref6_writes.l0 k x0 (wrap64 (x3 + 1)))) else (some false)) else (if x3 > 0 then (if 0 ≤ (wrap64 (x3 - 1)) then (if (wrap64 (x3 - 1)) < (x0.length : Int) then (if ((Op.bytesLess (((rd_T41 x0 (wrap64 (x3 - 1))).f0).toList) (((rd_T41 x0 x3).f0).toList)) = true) then (falseworkref6_writes.l0 k x0 (wrap64 (x3 + 1))) else (some false)) else (none)) else (none)) else (falseworkref6_writes.l0 k x0 (wrap64 (x3 + 1))))))) else (none)) else (some true)
def falseworkref6_writes.f (k : Nat) (l0 : List (S41)) : Option (Bool) := falseworkref6_writes.l0 k l0 0
theorem falseworkref6_writes.mono_l : ∀ k, (∀ y0 y1, LeO (falseworkref6_writes.l0 k y0 y1) (falseworkref6_writes.l0 (k + 1) y0 y1))
 | 0 => fun _ _ r h => by simp [falseworkref6_writes.l0] at h
 | k + 1 => by
  have ih0 := falseworkref6_writes.mono_l k
  ·intro y0 y1
   unfold falseworkref6_writes.l0
   repeat' first
   | (with_reducible exact ih0 _ _)
   | (with_reducible exact LeO.refl _)
   | (with_reducible exact LeO.none _)
   | (with_reducible refine LeO.ite ?_ ?_)
   | (with_reducible refine LeO.bind ?_ (fun _ => ?_))
   | exact ih0 _ _
   | exact LeO.none _
   | refine LeO.ite ?_ ?_
   | refine LeO.bind ?_ (fun _ => ?_)
theorem falseworkref6_writes.mono : ∀ a0 k, LeO (falseworkref6_writes.f k a0) (falseworkref6_writes.f (k + 1) a0) := by
 intro a0 k
 have ih0 := falseworkref6_writes.mono_l k
 unfold falseworkref6_writes.f
 repeat' first
   | (with_reducible exact ih0 _ _)
   | (with_reducible exact LeO.refl _)
   | (with_reducible exact LeO.none _)
   | (with_reducible refine LeO.ite ?_ ?_)
   | (with_reducible refine LeO.bind ?_ (fun _ => ?_))
   | exact ih0 _ _
   | exact LeO.none _
   | refine LeO.ite ?_ ?_
   | refine LeO.bind ?_ (fun _ => ?_)
set_option maxHeartbeats 8000000 in
set_option maxRecDepth 100000 in
theorem falseworkref6_writes.calls (k : Nat) (A0 : Option Addr) (c0 : Nat) (l0 : List (S41)) (r : Bool) (w : World) (hr0 : Kd.C k41 w A0 l0.length l0) (hc0 : l0.length ≤ c0) (h : falseworkref6_writes.f k l0 = some r) :
  Calls Try.prog 23 #[.slice A0 l0.length c0] w fun e w' => e = .returned (.bool r) ∧ Drawn0 w w' := by
 have HR0 := Aside0.mk hr0
 have HC0 := Aside0.mk hc0
 clear hr0 hc0
 have H : (falseworkref6_writes.l0 k l0 0) = some r := h
 clear h
 have H' := Aside0.mk H
 clear H
 go_enter Try.func23, Try.ntmps23
 go_wp2
 repeat (go_quiet (fail); try go_wp2)
 go_loopg [3] k (fun kq v3 w' => ∃ (x3_1 : Int), v3 = .int .i64 x3_1 ∧ Aside0 (falseworkref6_writes.l0 kq l0 x3_1 = some r) ∧ Aside0 (kq ≤ k) ∧ Drawn0 w w')
 case atStart => exact ⟨(0), (by first | rfl | (simp; done) | (simp [*]; done)), H', ⟨Nat.le_refl _⟩, by repeat (first | exact Drawn0.refl _ | apply Drawn0.step)⟩
 case round =>
  clear H'
  obtain ⟨x3_1, rfl, HA, HK1, ⟨m1, rfl⟩⟩ := hrel
  cases gk with
  | zero => exact absurd HA.out (by simp [falseworkref6_writes.l0])
  | succ k1 =>
   have H := HA.out
   clear HA
   simp only [falseworkref6_writes.l0] at H
   by_cases c2 : x3_1 < (l0.length : Int)
   ·rw [if_pos c2] at H
    have c2b0 : decide (x3_1 < (l0.length : Int)) = true := decide_eq_true c2
    clear c2
    by_cases c3 : 0 ≤ x3_1
    ·rw [if_pos c3] at H
     have c3b0 : decide (0 ≤ x3_1) = true := decide_eq_true c3
     clear c3
     by_cases c4 : (((rd_T41 l0 x3_1).f0).size : Int) > 1000
     ·rw [if_pos c4] at H
      have c4b0 : decide (1000 < (((rd_T41 l0 x3_1).f0).size : Int)) = true := decide_eq_true c4
      have c4b1 : decide (1000 < ((rd_T41 l0 x3_1).f0).size) = true := decide_eq_true (by omega)
      clear c4
      obtain rfl := Option.some.inj H
      have p149 : 0 ≤ (x3_1 : Int) := of_decide_eq_true (by first | (with_reducible assumption) | assumption)
      have q149 : x3_1 < (l0.length : Int) := of_decide_eq_true (by first | (with_reducible assumption) | assumption)
      obtain ⟨ad149, e149, hx149_0, hx149_1, hx149_2⟩ := at_T41 HR0.out x3_1 p149 q149
      cases e149
      replace p149 := eq_true p149
      replace q149 := eq_true q149
      go_wp2
      repeat (go_quiet (fail); try go_wp2)
      go_ret
      exact ⟨by first | rfl | (simp; done) | (simp [*]; done), by repeat (first | exact Drawn0.refl _ | apply Drawn0.step)⟩
     ·rw [if_neg c4] at H
      have c4b0 : decide (1000 < (((rd_T41 l0 x3_1).f0).size : Int)) = false := decide_eq_false c4
      have c4b1 : decide (1000 < ((rd_T41 l0 x3_1).f0).size) = false := decide_eq_false (by omega)
      clear c4
      by_cases c5 : (((rd_T41 l0 x3_1).f1).size : Int) > 10000
      ·rw [if_pos c5] at H
       have c5b0 : decide (10000 < (((rd_T41 l0 x3_1).f1).size : Int)) = true := decide_eq_true c5
       have c5b1 : decide (10000 < ((rd_T41 l0 x3_1).f1).size) = true := decide_eq_true (by omega)
       clear c5
       obtain rfl := Option.some.inj H
       have p149 : 0 ≤ (x3_1 : Int) := of_decide_eq_true (by first | (with_reducible assumption) | assumption)
       have q149 : x3_1 < (l0.length : Int) := of_decide_eq_true (by first | (with_reducible assumption) | assumption)
       obtain ⟨ad149, e149, hx149_0, hx149_1, hx149_2⟩ := at_T41 HR0.out x3_1 p149 q149
       cases e149
       replace p149 := eq_true p149
       replace q149 := eq_true q149
       have p150 : 0 ≤ (x3_1 : Int) := of_decide_eq_true (by first | (with_reducible assumption) | assumption)
       have q150 : x3_1 < (l0.length : Int) := of_decide_eq_true (by first | (with_reducible assumption) | assumption)
       obtain ⟨ad150, e150, hx150_0, hx150_1, hx150_2⟩ := at_T41 HR0.out x3_1 p150 q150
       obtain rfl : ad149 = ad150 := (by injection e150)
       replace p150 := eq_true p150
       replace q150 := eq_true q150
       go_wp2
       repeat (go_quiet (fail); try go_wp2)
       go_ret
       exact ⟨by first | rfl | (simp; done) | (simp [*]; done), by repeat (first | exact Drawn0.refl _ | apply Drawn0.step)⟩
      ·rw [if_neg c5] at H
       have c5b0 : decide (10000 < (((rd_T41 l0 x3_1).f1).size : Int)) = false := decide_eq_false c5
       have c5b1 : decide (10000 < ((rd_T41 l0 x3_1).f1).size) = false := decide_eq_false (by omega)
       clear c5
       obtain ⟨bq6, hbq6⟩ : ∃ b_ : Bool, b_ = ((rd_T41 l0 x3_1).f2) := ⟨_, rfl⟩
       replace H : (if bq6 = true then (if ((rd_T41 l0 x3_1).f1).toList = ([] : List UInt8) then (if x3_1 > 0 then (if 0 ≤ (wrap64 (x3_1 - 1)) then (if (wrap64 (x3_1 - 1)) < (l0.length : Int) then (if ((Op.bytesLess (((rd_T41 l0 (wrap64 (x3_1 - 1))).f0).toList) (((rd_T41 l0 x3_1).f0).toList)) = true) then (falseworkref6_writes.l0 k1 l0 (wrap64 (x3_1 + 1))) else (some false)) else (none)) else (none)) else (falseworkref6_writes.l0 k1 l0 (wrap64 (x3_1 + 1)))) else (some false)) else (if x3_1 > 0 then (if 0 ≤ (wrap64 (x3_1 - 1)) then (if (wrap64 (x3_1 - 1)) < (l0.length : Int) then (if ((Op.bytesLess (((rd_T41 l0 (wrap64 (x3_1 - 1))).f0).toList) (((rd_T41 l0 x3_1).f0).toList)) = true) then (falseworkref6_writes.l0 k1 l0 (wrap64 (x3_1 + 1))) else (some false)) else (none)) else (none)) else (falseworkref6_writes.l0 k1 l0 (wrap64 (x3_1 + 1))))) = some r := by rw [← hbq6] at H; exact H
       have Nbq6 := Aside0.mk hbq6
       clear hbq6
       by_cases c7 : bq6 = true
       ·subst c7
        have H1 : (if ((rd_T41 l0 x3_1).f1).toList = ([] : List UInt8) then (if x3_1 > 0 then (if 0 ≤ (wrap64 (x3_1 - 1)) then (if (wrap64 (x3_1 - 1)) < (l0.length : Int) then (if ((Op.bytesLess (((rd_T41 l0 (wrap64 (x3_1 - 1))).f0).toList) (((rd_T41 l0 x3_1).f0).toList)) = true) then (falseworkref6_writes.l0 k1 l0 (wrap64 (x3_1 + 1))) else (some false)) else (none)) else (none)) else (falseworkref6_writes.l0 k1 l0 (wrap64 (x3_1 + 1)))) else (some false)) = some r := by rw [if_pos rfl] at H; exact H
        clear H
        have H := H1
        clear H1
        by_cases c8 : ((rd_T41 l0 x3_1).f1).toList = ([] : List UInt8)
        ·rw [if_pos c8] at H
         have c8b0 : (((rd_T41 l0 x3_1).f1).toList == ([] : List UInt8)) = true := beq_iff_eq.mpr c8
         have c8b1 : (((rd_T41 l0 x3_1).f1).toList != ([] : List UInt8)) = false := bne_eq_false_iff_eq.mpr c8
         clear c8
         by_cases c9 : x3_1 > 0
         ·rw [if_pos c9] at H
          have c9b0 : decide (0 < x3_1) = true := decide_eq_true c9
          clear c9
          obtain ⟨ji10, hji10⟩ : ∃ j_ : Int, (wrap64 (x3_1 - 1)) = j_ := ⟨_, rfl⟩
          replace H : (if 0 ≤ (ji10) then (if (ji10) < (l0.length : Int) then (if ((Op.bytesLess (((rd_T41 l0 (ji10)).f0).toList) (((rd_T41 l0 x3_1).f0).toList)) = true) then (falseworkref6_writes.l0 k1 l0 (wrap64 (x3_1 + 1))) else (some false)) else (none)) else (none)) = some r := by first | (rw [hji10] at H; exact H) | (simp only [hji10] at H ⊢; exact H)
          have hji10w : (IntKind.i64.wrap (x3_1 - 1)) = ji10 := (i64_w _).trans hji10
          by_cases c11 : 0 ≤ (ji10)
          ·rw [if_pos c11] at H
           have c11b0 : decide (0 ≤ (ji10)) = true := decide_eq_true c11
           clear c11
           by_cases c12 : (ji10) < (l0.length : Int)
           ·rw [if_pos c12] at H
            have c12b0 : decide ((ji10) < (l0.length : Int)) = true := decide_eq_true c12
            clear c12
            by_cases c13 : ((Op.bytesLess (((rd_T41 l0 (ji10)).f0).toList) (((rd_T41 l0 x3_1).f0).toList)) = true)
            ·rw [if_pos c13] at H
             have c13b0 : (Op.bytesLess (((rd_T41 l0 (ji10)).f0).toList) (((rd_T41 l0 x3_1).f0).toList)) = true := c13
             clear c13
             have H' := Aside0.mk H
             clear H
             have p149 : 0 ≤ (x3_1 : Int) := of_decide_eq_true (by first | (with_reducible assumption) | assumption)
             have q149 : x3_1 < (l0.length : Int) := of_decide_eq_true (by first | (with_reducible assumption) | assumption)
             obtain ⟨ad149, e149, hx149_0, hx149_1, hx149_2⟩ := at_T41 HR0.out x3_1 p149 q149
             (try rw [← Nbq6.out] at hx149_2)
             cases e149
             replace p149 := eq_true p149
             replace q149 := eq_true q149
             have p150 : 0 ≤ (x3_1 : Int) := of_decide_eq_true (by first | (with_reducible assumption) | assumption)
             have q150 : x3_1 < (l0.length : Int) := of_decide_eq_true (by first | (with_reducible assumption) | assumption)
             obtain ⟨ad150, e150, hx150_0, hx150_1, hx150_2⟩ := at_T41 HR0.out x3_1 p150 q150
             (try rw [← Nbq6.out] at hx150_2)
             obtain rfl : ad149 = ad150 := (by injection e150)
             replace p150 := eq_true p150
             replace q150 := eq_true q150
             have p151 : 0 ≤ (x3_1 : Int) := of_decide_eq_true (by first | (with_reducible assumption) | assumption)
             have q151 : x3_1 < (l0.length : Int) := of_decide_eq_true (by first | (with_reducible assumption) | assumption)
             obtain ⟨ad151, e151, hx151_0, hx151_1, hx151_2⟩ := at_T41 HR0.out x3_1 p151 q151
             (try rw [← Nbq6.out] at hx151_2)
             obtain rfl : ad149 = ad151 := (by injection e151)
             replace p151 := eq_true p151
             replace q151 := eq_true q151
             have p152 : 0 ≤ (x3_1 : Int) := of_decide_eq_true (by first | (with_reducible assumption) | assumption)
             have q152 : x3_1 < (l0.length : Int) := of_decide_eq_true (by first | (with_reducible assumption) | assumption)
             obtain ⟨ad152, e152, hx152_0, hx152_1, hx152_2⟩ := at_T41 HR0.out x3_1 p152 q152
             (try rw [← Nbq6.out] at hx152_2)
             obtain rfl : ad149 = ad152 := (by injection e152)
             replace p152 := eq_true p152
             replace q152 := eq_true q152
             have p153 : 0 ≤ (x3_1 : Int) := of_decide_eq_true (by first | (with_reducible assumption) | assumption)
             have q153 : x3_1 < (l0.length : Int) := of_decide_eq_true (by first | (with_reducible assumption) | assumption)
             obtain ⟨ad153, e153, hx153_0, hx153_1, hx153_2⟩ := at_T41 HR0.out x3_1 p153 q153
             (try rw [← Nbq6.out] at hx153_2)
             obtain rfl : ad149 = ad153 := (by injection e153)
             replace p153 := eq_true p153
             replace q153 := eq_true q153
             have p154 : 0 ≤ ((ji10) : Int) := of_decide_eq_true (by first | (with_reducible assumption) | assumption)
             have q154 : (ji10) < (l0.length : Int) := of_decide_eq_true (by first | (with_reducible assumption) | assumption)
             obtain ⟨ad154, e154, hx154_0, hx154_1, hx154_2⟩ := at_T41 HR0.out (ji10) p154 q154
             (try rw [← Nbq6.out] at hx154_2)
             obtain rfl : ad149 = ad154 := (by injection e154)
             replace p154 := eq_true p154
             replace q154 := eq_true q154
             go_wp2
             repeat (go_quiet (fail); try go_wp2)
             go_roundg k1
             case measure => have := HK1.out; omega
             case rel => exact ⟨(wrap64 (x3_1 + 1)), (by first | rfl | (simp; done) | (simp [*]; done)), H', ⟨by have := HK1.out; omega⟩, by repeat (first | exact Drawn0.refl _ | apply Drawn0.step)⟩
            ·rw [if_neg c13] at H
             have c13b0 : (Op.bytesLess (((rd_T41 l0 (ji10)).f0).toList) (((rd_T41 l0 x3_1).f0).toList)) = false := by simpa using c13
             clear c13
             obtain rfl := Option.some.inj H
             have p149 : 0 ≤ (x3_1 : Int) := of_decide_eq_true (by first | (with_reducible assumption) | assumption)
             have q149 : x3_1 < (l0.length : Int) := of_decide_eq_true (by first | (with_reducible assumption) | assumption)
             obtain ⟨ad149, e149, hx149_0, hx149_1, hx149_2⟩ := at_T41 HR0.out x3_1 p149 q149
             (try rw [← Nbq6.out] at hx149_2)
             cases e149
             replace p149 := eq_true p149
             replace q149 := eq_true q149
             have p150 : 0 ≤ (x3_1 : Int) := of_decide_eq_true (by first | (with_reducible assumption) | assumption)
             have q150 : x3_1 < (l0.length : Int) := of_decide_eq_true (by first | (with_reducible assumption) | assumption)
             obtain ⟨ad150, e150, hx150_0, hx150_1, hx150_2⟩ := at_T41 HR0.out x3_1 p150 q150
             (try rw [← Nbq6.out] at hx150_2)
             obtain rfl : ad149 = ad150 := (by injection e150)
             replace p150 := eq_true p150
             replace q150 := eq_true q150
             have p151 : 0 ≤ (x3_1 : Int) := of_decide_eq_true (by first | (with_reducible assumption) | assumption)
             have q151 : x3_1 < (l0.length : Int) := of_decide_eq_true (by first | (with_reducible assumption) | assumption)
             obtain ⟨ad151, e151, hx151_0, hx151_1, hx151_2⟩ := at_T41 HR0.out x3_1 p151 q151
             (try rw [← Nbq6.out] at hx151_2)
             obtain rfl : ad149 = ad151 := (by injection e151)
             replace p151 := eq_true p151
             replace q151 := eq_true q151
             have p152 : 0 ≤ (x3_1 : Int) := of_decide_eq_true (by first | (with_reducible assumption) | assumption)
             have q152 : x3_1 < (l0.length : Int) := of_decide_eq_true (by first | (with_reducible assumption) | assumption)
             obtain ⟨ad152, e152, hx152_0, hx152_1, hx152_2⟩ := at_T41 HR0.out x3_1 p152 q152
             (try rw [← Nbq6.out] at hx152_2)
             obtain rfl : ad149 = ad152 := (by injection e152)
             replace p152 := eq_true p152
             replace q152 := eq_true q152
             have p153 : 0 ≤ (x3_1 : Int) := of_decide_eq_true (by first | (with_reducible assumption) | assumption)
             have q153 : x3_1 < (l0.length : Int) := of_decide_eq_true (by first | (with_reducible assumption) | assumption)
             obtain ⟨ad153, e153, hx153_0, hx153_1, hx153_2⟩ := at_T41 HR0.out x3_1 p153 q153
             (try rw [← Nbq6.out] at hx153_2)
             obtain rfl : ad149 = ad153 := (by injection e153)
             replace p153 := eq_true p153
             replace q153 := eq_true q153
             have p154 : 0 ≤ ((ji10) : Int) := of_decide_eq_true (by first | (with_reducible assumption) | assumption)
             have q154 : (ji10) < (l0.length : Int) := of_decide_eq_true (by first | (with_reducible assumption) | assumption)
             obtain ⟨ad154, e154, hx154_0, hx154_1, hx154_2⟩ := at_T41 HR0.out (ji10) p154 q154
             (try rw [← Nbq6.out] at hx154_2)
             obtain rfl : ad149 = ad154 := (by injection e154)
             replace p154 := eq_true p154
             replace q154 := eq_true q154
             go_wp2
             repeat (go_quiet (fail); try go_wp2)
             go_ret
             exact ⟨by first | rfl | (simp; done) | (simp only [← hji10] <;> (first | rfl | simp)) | (simp [*]; done), by repeat (first | exact Drawn0.refl _ | apply Drawn0.step)⟩
           ·rw [if_neg c12] at H
            exact absurd H (by simp)
          ·rw [if_neg c11] at H
           exact absurd H (by simp)
         ·rw [if_neg c9] at H
          have c9b0 : decide (0 < x3_1) = false := decide_eq_false c9
          clear c9
          have H' := Aside0.mk H
          clear H
          have p149 : 0 ≤ (x3_1 : Int) := of_decide_eq_true (by first | (with_reducible assumption) | assumption)
          have q149 : x3_1 < (l0.length : Int) := of_decide_eq_true (by first | (with_reducible assumption) | assumption)
          obtain ⟨ad149, e149, hx149_0, hx149_1, hx149_2⟩ := at_T41 HR0.out x3_1 p149 q149
          (try rw [← Nbq6.out] at hx149_2)
          cases e149
          replace p149 := eq_true p149
          replace q149 := eq_true q149
          have p150 : 0 ≤ (x3_1 : Int) := of_decide_eq_true (by first | (with_reducible assumption) | assumption)
          have q150 : x3_1 < (l0.length : Int) := of_decide_eq_true (by first | (with_reducible assumption) | assumption)
          obtain ⟨ad150, e150, hx150_0, hx150_1, hx150_2⟩ := at_T41 HR0.out x3_1 p150 q150
          (try rw [← Nbq6.out] at hx150_2)
          obtain rfl : ad149 = ad150 := (by injection e150)
          replace p150 := eq_true p150
          replace q150 := eq_true q150
          have p151 : 0 ≤ (x3_1 : Int) := of_decide_eq_true (by first | (with_reducible assumption) | assumption)
          have q151 : x3_1 < (l0.length : Int) := of_decide_eq_true (by first | (with_reducible assumption) | assumption)
          obtain ⟨ad151, e151, hx151_0, hx151_1, hx151_2⟩ := at_T41 HR0.out x3_1 p151 q151
          (try rw [← Nbq6.out] at hx151_2)
          obtain rfl : ad149 = ad151 := (by injection e151)
          replace p151 := eq_true p151
          replace q151 := eq_true q151
          have p152 : 0 ≤ (x3_1 : Int) := of_decide_eq_true (by first | (with_reducible assumption) | assumption)
          have q152 : x3_1 < (l0.length : Int) := of_decide_eq_true (by first | (with_reducible assumption) | assumption)
          obtain ⟨ad152, e152, hx152_0, hx152_1, hx152_2⟩ := at_T41 HR0.out x3_1 p152 q152
          (try rw [← Nbq6.out] at hx152_2)
          obtain rfl : ad149 = ad152 := (by injection e152)
          replace p152 := eq_true p152
          replace q152 := eq_true q152
          go_wp2
          repeat (go_quiet (fail); try go_wp2)
          go_roundg k1
          case measure => have := HK1.out; omega
          case rel => exact ⟨(wrap64 (x3_1 + 1)), (by first | rfl | (simp; done) | (simp [*]; done)), H', ⟨by have := HK1.out; omega⟩, by repeat (first | exact Drawn0.refl _ | apply Drawn0.step)⟩
        ·rw [if_neg c8] at H
         have c8b0 : (((rd_T41 l0 x3_1).f1).toList == ([] : List UInt8)) = false := beq_eq_false_iff_ne.mpr c8
         have c8b1 : (((rd_T41 l0 x3_1).f1).toList != ([] : List UInt8)) = true := bne_iff_ne.mpr c8
         obtain rfl := Option.some.inj H
         have p149 : 0 ≤ (x3_1 : Int) := of_decide_eq_true (by first | (with_reducible assumption) | assumption)
         have q149 : x3_1 < (l0.length : Int) := of_decide_eq_true (by first | (with_reducible assumption) | assumption)
         obtain ⟨ad149, e149, hx149_0, hx149_1, hx149_2⟩ := at_T41 HR0.out x3_1 p149 q149
         (try rw [← Nbq6.out] at hx149_2)
         cases e149
         replace p149 := eq_true p149
         replace q149 := eq_true q149
         have p150 : 0 ≤ (x3_1 : Int) := of_decide_eq_true (by first | (with_reducible assumption) | assumption)
         have q150 : x3_1 < (l0.length : Int) := of_decide_eq_true (by first | (with_reducible assumption) | assumption)
         obtain ⟨ad150, e150, hx150_0, hx150_1, hx150_2⟩ := at_T41 HR0.out x3_1 p150 q150
         (try rw [← Nbq6.out] at hx150_2)
         obtain rfl : ad149 = ad150 := (by injection e150)
         replace p150 := eq_true p150
         replace q150 := eq_true q150
         have p151 : 0 ≤ (x3_1 : Int) := of_decide_eq_true (by first | (with_reducible assumption) | assumption)
         have q151 : x3_1 < (l0.length : Int) := of_decide_eq_true (by first | (with_reducible assumption) | assumption)
         obtain ⟨ad151, e151, hx151_0, hx151_1, hx151_2⟩ := at_T41 HR0.out x3_1 p151 q151
         (try rw [← Nbq6.out] at hx151_2)
         obtain rfl : ad149 = ad151 := (by injection e151)
         replace p151 := eq_true p151
         replace q151 := eq_true q151
         have p152 : 0 ≤ (x3_1 : Int) := of_decide_eq_true (by first | (with_reducible assumption) | assumption)
         have q152 : x3_1 < (l0.length : Int) := of_decide_eq_true (by first | (with_reducible assumption) | assumption)
         obtain ⟨ad152, e152, hx152_0, hx152_1, hx152_2⟩ := at_T41 HR0.out x3_1 p152 q152
         (try rw [← Nbq6.out] at hx152_2)
         obtain rfl : ad149 = ad152 := (by injection e152)
         replace p152 := eq_true p152
         replace q152 := eq_true q152
         go_wp2
         repeat (go_quiet (fail); try go_wp2)
         go_ret
         exact ⟨by first | rfl | (simp; done) | (simp [*]; done), by repeat (first | exact Drawn0.refl _ | apply Drawn0.step)⟩
       ·replace c7 := Bool.eq_false_iff.mpr c7
        subst c7
        have H1 : (if x3_1 > 0 then (if 0 ≤ (wrap64 (x3_1 - 1)) then (if (wrap64 (x3_1 - 1)) < (l0.length : Int) then (if ((Op.bytesLess (((rd_T41 l0 (wrap64 (x3_1 - 1))).f0).toList) (((rd_T41 l0 x3_1).f0).toList)) = true) then (falseworkref6_writes.l0 k1 l0 (wrap64 (x3_1 + 1))) else (some false)) else (none)) else (none)) else (falseworkref6_writes.l0 k1 l0 (wrap64 (x3_1 + 1)))) = some r := by rw [if_neg (show ¬ (false = true) by decide)] at H; exact H
        clear H
        have H := H1
        clear H1
        by_cases c14 : x3_1 > 0
        ·rw [if_pos c14] at H
         have c14b0 : decide (0 < x3_1) = true := decide_eq_true c14
         clear c14
         obtain ⟨ji15, hji15⟩ : ∃ j_ : Int, (wrap64 (x3_1 - 1)) = j_ := ⟨_, rfl⟩
         replace H : (if 0 ≤ (ji15) then (if (ji15) < (l0.length : Int) then (if ((Op.bytesLess (((rd_T41 l0 (ji15)).f0).toList) (((rd_T41 l0 x3_1).f0).toList)) = true) then (falseworkref6_writes.l0 k1 l0 (wrap64 (x3_1 + 1))) else (some false)) else (none)) else (none)) = some r := by first | (rw [hji15] at H; exact H) | (simp only [hji15] at H ⊢; exact H)
         have hji15w : (IntKind.i64.wrap (x3_1 - 1)) = ji15 := (i64_w _).trans hji15
         by_cases c16 : 0 ≤ (ji15)
         ·rw [if_pos c16] at H
          have c16b0 : decide (0 ≤ (ji15)) = true := decide_eq_true c16
          clear c16
          by_cases c17 : (ji15) < (l0.length : Int)
          ·rw [if_pos c17] at H
           have c17b0 : decide ((ji15) < (l0.length : Int)) = true := decide_eq_true c17
           clear c17
           by_cases c18 : ((Op.bytesLess (((rd_T41 l0 (ji15)).f0).toList) (((rd_T41 l0 x3_1).f0).toList)) = true)
           ·rw [if_pos c18] at H
            have c18b0 : (Op.bytesLess (((rd_T41 l0 (ji15)).f0).toList) (((rd_T41 l0 x3_1).f0).toList)) = true := c18
            clear c18
            have H' := Aside0.mk H
            clear H
            have p149 : 0 ≤ (x3_1 : Int) := of_decide_eq_true (by first | (with_reducible assumption) | assumption)
            have q149 : x3_1 < (l0.length : Int) := of_decide_eq_true (by first | (with_reducible assumption) | assumption)
            obtain ⟨ad149, e149, hx149_0, hx149_1, hx149_2⟩ := at_T41 HR0.out x3_1 p149 q149
            (try rw [← Nbq6.out] at hx149_2)
            cases e149
            replace p149 := eq_true p149
            replace q149 := eq_true q149
            have p150 : 0 ≤ (x3_1 : Int) := of_decide_eq_true (by first | (with_reducible assumption) | assumption)
            have q150 : x3_1 < (l0.length : Int) := of_decide_eq_true (by first | (with_reducible assumption) | assumption)
            obtain ⟨ad150, e150, hx150_0, hx150_1, hx150_2⟩ := at_T41 HR0.out x3_1 p150 q150
            (try rw [← Nbq6.out] at hx150_2)
            obtain rfl : ad149 = ad150 := (by injection e150)
            replace p150 := eq_true p150
            replace q150 := eq_true q150
            have p151 : 0 ≤ (x3_1 : Int) := of_decide_eq_true (by first | (with_reducible assumption) | assumption)
            have q151 : x3_1 < (l0.length : Int) := of_decide_eq_true (by first | (with_reducible assumption) | assumption)
            obtain ⟨ad151, e151, hx151_0, hx151_1, hx151_2⟩ := at_T41 HR0.out x3_1 p151 q151
            (try rw [← Nbq6.out] at hx151_2)
            obtain rfl : ad149 = ad151 := (by injection e151)
            replace p151 := eq_true p151
            replace q151 := eq_true q151
            have p155 : 0 ≤ (x3_1 : Int) := of_decide_eq_true (by first | (with_reducible assumption) | assumption)
            have q155 : x3_1 < (l0.length : Int) := of_decide_eq_true (by first | (with_reducible assumption) | assumption)
            obtain ⟨ad155, e155, hx155_0, hx155_1, hx155_2⟩ := at_T41 HR0.out x3_1 p155 q155
            (try rw [← Nbq6.out] at hx155_2)
            obtain rfl : ad149 = ad155 := (by injection e155)
            replace p155 := eq_true p155
            replace q155 := eq_true q155
            have p156 : 0 ≤ ((ji15) : Int) := of_decide_eq_true (by first | (with_reducible assumption) | assumption)
            have q156 : (ji15) < (l0.length : Int) := of_decide_eq_true (by first | (with_reducible assumption) | assumption)
            obtain ⟨ad156, e156, hx156_0, hx156_1, hx156_2⟩ := at_T41 HR0.out (ji15) p156 q156
            (try rw [← Nbq6.out] at hx156_2)
            obtain rfl : ad149 = ad156 := (by injection e156)
            replace p156 := eq_true p156
            replace q156 := eq_true q156
            go_wp2
            repeat (go_quiet (fail); try go_wp2)
            go_roundg k1
            case measure => have := HK1.out; omega
            case rel => exact ⟨(wrap64 (x3_1 + 1)), (by first | rfl | (simp; done) | (simp [*]; done)), H', ⟨by have := HK1.out; omega⟩, by repeat (first | exact Drawn0.refl _ | apply Drawn0.step)⟩
           ·rw [if_neg c18] at H
            have c18b0 : (Op.bytesLess (((rd_T41 l0 (ji15)).f0).toList) (((rd_T41 l0 x3_1).f0).toList)) = false := by simpa using c18
            clear c18
            obtain rfl := Option.some.inj H
            have p149 : 0 ≤ (x3_1 : Int) := of_decide_eq_true (by first | (with_reducible assumption) | assumption)
            have q149 : x3_1 < (l0.length : Int) := of_decide_eq_true (by first | (with_reducible assumption) | assumption)
            obtain ⟨ad149, e149, hx149_0, hx149_1, hx149_2⟩ := at_T41 HR0.out x3_1 p149 q149
            (try rw [← Nbq6.out] at hx149_2)
            cases e149
            replace p149 := eq_true p149
            replace q149 := eq_true q149
            have p150 : 0 ≤ (x3_1 : Int) := of_decide_eq_true (by first | (with_reducible assumption) | assumption)
            have q150 : x3_1 < (l0.length : Int) := of_decide_eq_true (by first | (with_reducible assumption) | assumption)
            obtain ⟨ad150, e150, hx150_0, hx150_1, hx150_2⟩ := at_T41 HR0.out x3_1 p150 q150
            (try rw [← Nbq6.out] at hx150_2)
            obtain rfl : ad149 = ad150 := (by injection e150)
            replace p150 := eq_true p150
            replace q150 := eq_true q150
            have p151 : 0 ≤ (x3_1 : Int) := of_decide_eq_true (by first | (with_reducible assumption) | assumption)
            have q151 : x3_1 < (l0.length : Int) := of_decide_eq_true (by first | (with_reducible assumption) | assumption)
            obtain ⟨ad151, e151, hx151_0, hx151_1, hx151_2⟩ := at_T41 HR0.out x3_1 p151 q151
            (try rw [← Nbq6.out] at hx151_2)
            obtain rfl : ad149 = ad151 := (by injection e151)
            replace p151 := eq_true p151
            replace q151 := eq_true q151
            have p155 : 0 ≤ (x3_1 : Int) := of_decide_eq_true (by first | (with_reducible assumption) | assumption)
            have q155 : x3_1 < (l0.length : Int) := of_decide_eq_true (by first | (with_reducible assumption) | assumption)
            obtain ⟨ad155, e155, hx155_0, hx155_1, hx155_2⟩ := at_T41 HR0.out x3_1 p155 q155
            (try rw [← Nbq6.out] at hx155_2)
            obtain rfl : ad149 = ad155 := (by injection e155)
            replace p155 := eq_true p155
            replace q155 := eq_true q155
            have p156 : 0 ≤ ((ji15) : Int) := of_decide_eq_true (by first | (with_reducible assumption) | assumption)
            have q156 : (ji15) < (l0.length : Int) := of_decide_eq_true (by first | (with_reducible assumption) | assumption)
            obtain ⟨ad156, e156, hx156_0, hx156_1, hx156_2⟩ := at_T41 HR0.out (ji15) p156 q156
            (try rw [← Nbq6.out] at hx156_2)
            obtain rfl : ad149 = ad156 := (by injection e156)
            replace p156 := eq_true p156
            replace q156 := eq_true q156
            go_wp2
            repeat (go_quiet (fail); try go_wp2)
            go_ret
            exact ⟨by first | rfl | (simp; done) | (simp only [← hji15] <;> (first | rfl | simp)) | (simp [*]; done), by repeat (first | exact Drawn0.refl _ | apply Drawn0.step)⟩
          ·rw [if_neg c17] at H
           exact absurd H (by simp)
         ·rw [if_neg c16] at H
          exact absurd H (by simp)
        ·rw [if_neg c14] at H
         have c14b0 : decide (0 < x3_1) = false := decide_eq_false c14
         clear c14
         have H' := Aside0.mk H
         clear H
         have p149 : 0 ≤ (x3_1 : Int) := of_decide_eq_true (by first | (with_reducible assumption) | assumption)
         have q149 : x3_1 < (l0.length : Int) := of_decide_eq_true (by first | (with_reducible assumption) | assumption)
         obtain ⟨ad149, e149, hx149_0, hx149_1, hx149_2⟩ := at_T41 HR0.out x3_1 p149 q149
         (try rw [← Nbq6.out] at hx149_2)
         cases e149
         replace p149 := eq_true p149
         replace q149 := eq_true q149
         have p150 : 0 ≤ (x3_1 : Int) := of_decide_eq_true (by first | (with_reducible assumption) | assumption)
         have q150 : x3_1 < (l0.length : Int) := of_decide_eq_true (by first | (with_reducible assumption) | assumption)
         obtain ⟨ad150, e150, hx150_0, hx150_1, hx150_2⟩ := at_T41 HR0.out x3_1 p150 q150
         (try rw [← Nbq6.out] at hx150_2)
         obtain rfl : ad149 = ad150 := (by injection e150)
         replace p150 := eq_true p150
         replace q150 := eq_true q150
         have p151 : 0 ≤ (x3_1 : Int) := of_decide_eq_true (by first | (with_reducible assumption) | assumption)
         have q151 : x3_1 < (l0.length : Int) := of_decide_eq_true (by first | (with_reducible assumption) | assumption)
         obtain ⟨ad151, e151, hx151_0, hx151_1, hx151_2⟩ := at_T41 HR0.out x3_1 p151 q151
         (try rw [← Nbq6.out] at hx151_2)
         obtain rfl : ad149 = ad151 := (by injection e151)
         replace p151 := eq_true p151
         replace q151 := eq_true q151
         go_wp2
         repeat (go_quiet (fail); try go_wp2)
         go_roundg k1
         case measure => have := HK1.out; omega
         case rel => exact ⟨(wrap64 (x3_1 + 1)), (by first | rfl | (simp; done) | (simp [*]; done)), H', ⟨by have := HK1.out; omega⟩, by repeat (first | exact Drawn0.refl _ | apply Drawn0.step)⟩
    ·rw [if_neg c3] at H
     exact absurd H (by simp)
   ·rw [if_neg c2] at H
    have c2b0 : decide (x3_1 < (l0.length : Int)) = false := decide_eq_false c2
    clear c2
    obtain rfl := Option.some.inj H
    go_wp2
    repeat (go_quiet (fail); try go_wp2)
    go_ret
    exact ⟨by first | rfl | (simp; done) | (simp [*]; done), by repeat (first | exact Drawn0.refl _ | apply Drawn0.step)⟩

end Go.Proofs.Ytikiegglebgmpaa.PA
