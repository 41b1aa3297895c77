/- Contracts of the Go functions of this seat: what each call returns is what a Lean function of its arguments says; each theorem bears its own conditions. Written by a program of this session (wip/tools/mkprint.py). -/
import Derived.Test.YtcjnmnelhpjhfaaPCx0
-- squeezed
namespace Go.Proofs.Ytcjnmnelhpjhfaa.PA
open Go.RowKit Go.Proofs.YtcjnmnelhpjhfaaW.PrintWords Go.Proofs.YtcjnmnelhpjhfaaW.PrintLast Go.Proofs.YtcjnmnelhpjhfaaW.PrintMore
attribute [local go_sem] max2_int min2_int max_two min_two max_three min_three max_four min_four   -- for this text's walks alone
set_option linter.unusedVariables false
set_option linter.unusedSimpArgs false

attribute [local go_sem ↓ high] unary_xor_u64 ux_if_u64
attribute [local go_sem] str_gtr str_leq str_geq
/-! ### falseworkref18_Shown: function 20 -/
def falseworkref18_Shown.l0 : Nat → List (S51) → ByteArray → Int → Option (Int)
 | 0, _, _, _ => none
 | k + 1, x0, x1, x5 => if x5 < (x0.length : Int) then (if 0 ≤ x5 then (if ((rd_T51 x0 x5).f1).toList = x1.toList then (if ((rd_T51 x0 x5).f3) = 4 then (some x5) else (falseworkref18_Shown.l0 k x0 x1 (wrap64 (x5 + 1)))) else (falseworkref18_Shown.l0 k x0 x1 (wrap64 (x5 + 1)))) else (none)) else (some (-1))
def falseworkref18_Shown.f (k : Nat) (l0 : List (S51)) (a1 : ByteArray) : Option (Int) := falseworkref18_Shown.l0 k l0 a1 0
theorem falseworkref18_Shown.mono_l : ∀ k, (∀ y0 y1 y2, LeO (falseworkref18_Shown.l0 k y0 y1 y2) (falseworkref18_Shown.l0 (k + 1) y0 y1 y2))
 | 0 => fun _ _ _ r h => by simp [falseworkref18_Shown.l0] at h
 | k + 1 => by
  have ih0 := falseworkref18_Shown.mono_l k
  ·intro y0 y1 y2
   unfold falseworkref18_Shown.l0
   repeat' first
   | (with_reducible exact ih0 _ _ _)
   | (with_reducible exact LeO.refl _)
   | (with_reducible exact LeO.none _)
   | (with_reducible refine LeO.ite ?_ ?_)
   | (with_reducible refine LeO.bind ?_ (fun _ => ?_))
   | exact ih0 _ _ _
   | exact LeO.none _
   | refine LeO.ite ?_ ?_
   | refine LeO.bind ?_ (fun _ => ?_)
theorem falseworkref18_Shown.mono : ∀ a0 a1 k, LeO (falseworkref18_Shown.f k a0 a1) (falseworkref18_Shown.f (k + 1) a0 a1) := by
 intro a0 a1 k
 have ih0 := falseworkref18_Shown.mono_l k
 unfold falseworkref18_Shown.f
 repeat' first
   | (with_reducible exact ih0 _ _ _)
   | (with_reducible exact LeO.refl _)
   | (with_reducible exact LeO.none _)
   | (with_reducible refine LeO.ite ?_ ?_)
   | (with_reducible refine LeO.bind ?_ (fun _ => ?_))
   | exact ih0 _ _ _
   | exact LeO.none _
   | refine LeO.ite ?_ ?_
   | refine LeO.bind ?_ (fun _ => ?_)
set_option maxHeartbeats 8000000 in
set_option maxRecDepth 100000 in
theorem falseworkref18_Shown.calls (k : Nat) (A0 : Option Addr) (c0 : Nat) (l0 : List (S51)) (a1 : ByteArray) (r : Int) (w : World) (hr0 : Kd.C k51 w A0 l0.length l0) (hc0 : l0.length ≤ c0) (h : falseworkref18_Shown.f k l0 a1 = some r) :
  Calls Try.prog 20 #[.slice A0 l0.length c0, .string a1] w fun e w' => e = .returned (.int .i64 r) ∧ Drawn0 w w' := by
 have HR0 := Aside0.mk hr0
 have HC0 := Aside0.mk hc0
 clear hr0 hc0
 have H : (falseworkref18_Shown.l0 k l0 a1 0) = some r := h
 clear h
 have H' := Aside0.mk H
 clear H
 go_enter Try.func20, Try.ntmps20
 go_wp2
 go_loopg [5] k (fun kq v5 w' => ∃ (x5_1 : Int), v5 = .int .i64 x5_1 ∧ Aside0 (falseworkref18_Shown.l0 kq l0 a1 x5_1 = some r) ∧ Aside0 (kq ≤ k) ∧ Drawn0 w w')
 case atStart => exact ⟨(0), (by first | rfl | (simp; done) | (simp [*]; done)), H', ⟨Nat.le_refl _⟩, by repeat (first | exact Drawn0.refl _ | apply Drawn0.step)⟩
 case round =>
  clear H'
  try clear c2
  try clear p2
  obtain ⟨x5_1, rfl, HA, HK1, ⟨m1, rfl⟩⟩ := hrel
  cases gk with
  | zero => exact absurd HA.out (by simp [falseworkref18_Shown.l0])
  | succ k1 =>
   have H := HA.out
   clear HA
   simp only [falseworkref18_Shown.l0] at H
   by_cases c3 : x5_1 < (l0.length : Int)
   ·rw [if_pos c3] at H
    have c3b0 : decide (x5_1 < (l0.length : Int)) = true := decide_eq_true c3
    clear c3
    by_cases c4 : 0 ≤ x5_1
    ·rw [if_pos c4] at H
     have c4b0 : decide (0 ≤ x5_1) = true := decide_eq_true c4
     clear c4
     by_cases c5 : ((rd_T51 l0 x5_1).f1).toList = a1.toList
     ·rw [if_pos c5] at H
      have c5b0 : (((rd_T51 l0 x5_1).f1).toList == a1.toList) = true := beq_iff_eq.mpr c5
      have c5b1 : (((rd_T51 l0 x5_1).f1).toList != a1.toList) = false := bne_eq_false_iff_eq.mpr c5
      clear c5
      by_cases c6 : ((rd_T51 l0 x5_1).f3) = 4
      ·rw [if_pos c6] at H
       have c6b0 : (((rd_T51 l0 x5_1).f3) == 4) = true := beq_iff_eq.mpr c6
       have c6b1 : (((rd_T51 l0 x5_1).f3) != 4) = false := bne_eq_false_iff_eq.mpr c6
       clear c6
       obtain rfl := Option.some.inj H
       have p109 : 0 ≤ (x5_1 : Int) := of_decide_eq_true (by first | (with_reducible assumption) | assumption)
       have q109 : x5_1 < (l0.length : Int) := of_decide_eq_true (by first | (with_reducible assumption) | assumption)
       obtain ⟨ad109, e109, hx109_0, hx109_1, hx109_2, hx109_3, hx109_4, hx109_5, hx109_6, hx109_7, hx109_8⟩ := at_T51 HR0.out x5_1 p109 q109
       cases e109
       replace p109 := eq_true p109
       replace q109 := eq_true q109
       have p110 : 0 ≤ (x5_1 : Int) := of_decide_eq_true (by first | (with_reducible assumption) | assumption)
       have q110 : x5_1 < (l0.length : Int) := of_decide_eq_true (by first | (with_reducible assumption) | assumption)
       obtain ⟨ad110, e110, hx110_0, hx110_1, hx110_2, hx110_3, hx110_4, hx110_5, hx110_6, hx110_7, hx110_8⟩ := at_T51 HR0.out x5_1 p110 q110
       obtain rfl : ad109 = ad110 := (by injection e110)
       replace p110 := eq_true p110
       replace q110 := eq_true q110
       go_wp2
       go_ret
       exact ⟨by first | rfl | (simp; done) | (simp [*]; done), by repeat (first | exact Drawn0.refl _ | apply Drawn0.step)⟩
      ·rw [if_neg c6] at H
       have c6b0 : (((rd_T51 l0 x5_1).f3) == 4) = false := beq_eq_false_iff_ne.mpr c6
       have c6b1 : (((rd_T51 l0 x5_1).f3) != 4) = true := bne_iff_ne.mpr c6
       have H' := Aside0.mk H
       clear H
       have p109 : 0 ≤ (x5_1 : Int) := of_decide_eq_true (by first | (with_reducible assumption) | assumption)
       have q109 : x5_1 < (l0.length : Int) := of_decide_eq_true (by first | (with_reducible assumption) | assumption)
       obtain ⟨ad109, e109, hx109_0, hx109_1, hx109_2, hx109_3, hx109_4, hx109_5, hx109_6, hx109_7, hx109_8⟩ := at_T51 HR0.out x5_1 p109 q109
       cases e109
       replace p109 := eq_true p109
       replace q109 := eq_true q109
       have p110 : 0 ≤ (x5_1 : Int) := of_decide_eq_true (by first | (with_reducible assumption) | assumption)
       have q110 : x5_1 < (l0.length : Int) := of_decide_eq_true (by first | (with_reducible assumption) | assumption)
       obtain ⟨ad110, e110, hx110_0, hx110_1, hx110_2, hx110_3, hx110_4, hx110_5, hx110_6, hx110_7, hx110_8⟩ := at_T51 HR0.out x5_1 p110 q110
       obtain rfl : ad109 = ad110 := (by injection e110)
       replace p110 := eq_true p110
       replace q110 := eq_true q110
       go_wp2
       go_roundg k1
       case measure => have := HK1.out; omega
       case rel => exact ⟨(wrap64 (x5_1 + 1)), (by first | rfl | (simp; done) | (simp [*]; done)), H', ⟨by have := HK1.out; omega⟩, by repeat (first | exact Drawn0.refl _ | apply Drawn0.step)⟩
     ·rw [if_neg c5] at H
      have c5b0 : (((rd_T51 l0 x5_1).f1).toList == a1.toList) = false := beq_eq_false_iff_ne.mpr c5
      have c5b1 : (((rd_T51 l0 x5_1).f1).toList != a1.toList) = true := bne_iff_ne.mpr c5
      have H' := Aside0.mk H
      clear H
      have p109 : 0 ≤ (x5_1 : Int) := of_decide_eq_true (by first | (with_reducible assumption) | assumption)
      have q109 : x5_1 < (l0.length : Int) := of_decide_eq_true (by first | (with_reducible assumption) | assumption)
      obtain ⟨ad109, e109, hx109_0, hx109_1, hx109_2, hx109_3, hx109_4, hx109_5, hx109_6, hx109_7, hx109_8⟩ := at_T51 HR0.out x5_1 p109 q109
      cases e109
      replace p109 := eq_true p109
      replace q109 := eq_true q109
      go_wp2
      go_roundg k1
      case measure => have := HK1.out; omega
      case rel => exact ⟨(wrap64 (x5_1 + 1)), (by first | rfl | (simp; done) | (simp [*]; done)), H', ⟨by have := HK1.out; omega⟩, by repeat (first | exact Drawn0.refl _ | apply Drawn0.step)⟩
    ·rw [if_neg c4] at H
     exact absurd H (by simp)
   ·rw [if_neg c3] at H
    have c3b0 : decide (x5_1 < (l0.length : Int)) = false := decide_eq_false c3
    clear c3
    obtain rfl := Option.some.inj H
    go_wp2
    go_ret
    exact ⟨by first | rfl | (simp; done) | (simp [*]; done), by repeat (first | exact Drawn0.refl _ | apply Drawn0.step)⟩

/-! ### falseworkref1_Canon: function 16 -/
def falseworkref1_Canon.f (a0 : Int) : Option (Int) := if (Go.bits .andNot .u64 a0 9223372036854775808) > 9218868437227405312 then (some 9221120237041090560) else (if a0 = 9223372036854775808 then (some 0) else (some a0))
set_option maxHeartbeats 8000000 in
set_option maxRecDepth 100000 in
theorem falseworkref1_Canon.calls (a0 : Int) (r : Int) (w : World) (h : falseworkref1_Canon.f a0 = some r) :
  Calls Try.prog 16 #[.int .u64 a0] w fun e w' => e = .returned (.int .u64 r) ∧ Drawn0 w w' := by
 have H : (if (Go.bits .andNot .u64 a0 9223372036854775808) > 9218868437227405312 then (some 9221120237041090560) else (if a0 = 9223372036854775808 then (some 0) else (some a0))) = some r := h
 clear h
 by_cases c2 : (Go.bits .andNot .u64 a0 9223372036854775808) > 9218868437227405312
 ·rw [if_pos c2] at H
  have c2b0 : decide (9218868437227405312 < (Go.bits .andNot .u64 a0 9223372036854775808)) = true := decide_eq_true c2
  clear c2
  obtain rfl := Option.some.inj H
  go_enter Try.func16, Try.ntmps16
  go_wp2
  go_ret
  exact ⟨by first | rfl | (simp; done) | (simp [*]; done), by repeat (first | exact Drawn0.refl _ | apply Drawn0.step)⟩
 ·rw [if_neg c2] at H
  have c2b0 : decide (9218868437227405312 < (Go.bits .andNot .u64 a0 9223372036854775808)) = false := decide_eq_false c2
  clear c2
  by_cases c3 : a0 = 9223372036854775808
  ·rw [if_pos c3] at H
   have c3b0 : (a0 == 9223372036854775808) = true := beq_iff_eq.mpr c3
   have c3b1 : (a0 != 9223372036854775808) = false := bne_eq_false_iff_eq.mpr c3
   clear c3
   obtain rfl := Option.some.inj H
   go_enter Try.func16, Try.ntmps16
   go_wp2
   go_ret
   exact ⟨by first | rfl | (simp; done) | (simp [*]; done), by repeat (first | exact Drawn0.refl _ | apply Drawn0.step)⟩
  ·rw [if_neg c3] at H
   have c3b0 : (a0 == 9223372036854775808) = false := beq_eq_false_iff_ne.mpr c3
   have c3b1 : (a0 != 9223372036854775808) = true := bne_iff_ne.mpr c3
   obtain rfl := Option.some.inj H
   go_enter Try.func16, Try.ntmps16
   go_wp2
   go_ret
   exact ⟨by first | rfl | (simp; done) | (simp [*]; done), by repeat (first | exact Drawn0.refl _ | apply Drawn0.step)⟩

end Go.Proofs.Ytcjnmnelhpjhfaa.PA
