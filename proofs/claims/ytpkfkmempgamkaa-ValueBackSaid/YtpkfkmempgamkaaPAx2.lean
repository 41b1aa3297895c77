/- Contracts of the Go functions of this seat: what each call returns is what a Lean function of its arguments says; each theorem bears its own conditions. Written by a program of this session (wip/tools/mkprint.py). -/
import Derived.Test.YtpkfkmempgamkaaPAx0
import Derived.Test.YtpkfkmempgamkaaPAx1
namespace Go.Proofs.Ytpkfkmempgamkaa.PA
open Go.RowKit Go.Proofs.YtpkfkmempgamkaaW.PrintWords Go.Proofs.YtpkfkmempgamkaaW.PrintLast Go.Proofs.YtpkfkmempgamkaaW.PrintMore
attribute [local go_sem] max2_int min2_int max_two min_two max_three min_three max_four min_four   -- for this text's walks alone
set_option linter.unusedVariables false
set_option linter.unusedSimpArgs false

attribute [local go_sem ↓ high] unary_xor_u64 ux_if_u64
attribute [local go_sem] str_gtr str_leq str_geq
/-! ### falseworklaw2_long: function 10 -/
def falseworklaw2_long.f (a0 : ByteArray) : Option (Bool) := some (decide ((a0.size : Int) > 5000))
set_option maxHeartbeats 8000000 in
set_option maxRecDepth 100000 in
theorem falseworklaw2_long.calls (a0 : ByteArray) (r : Bool) (w : World) (h : falseworklaw2_long.f a0 = some r) :
    Calls Try.prog 10 #[.string a0] w fun e w' => e = .returned (.bool r) ∧ Drawn0 w w' := by
  have H : (some (decide ((a0.size : Int) > 5000))) = some r := h
  clear h
  obtain rfl := Option.some.inj H
  go_enter Try.func10, Try.ntmps10
  go_wp2
  go_ret
  exact ⟨by first | rfl | (simp; done) | (simp [*]; done), by repeat (first | exact Drawn0.refl _ | apply Drawn0.step)⟩

-- NOT PRINTED: function 36 (math_Float64frombits)

/-! ### flo_Canon: function 23 -/
/-- How two floats stand to each other, by their bits. -/
def fcmp (x y : Int) : Option Ordering := FloatKind.f64.format.order x.toNat y.toNat
theorem run_frombits (n : Int) (w : World) : (callFunc 36 #[.int .u64 n]).run Try.prog w = .ok (.value (.float .f64 n.toNat)) w :=
  (run_callFunc_extern (e := Extern.MathFloatBits.float64frombits) Try.func36 (by kernel_rfl) (by kernel_rfl) (by kernel_rfl) (by rfl) _ w).trans rfl
def flo_Canon.f (a0 : Int) : Option (Int) := if (fcmp a0 a0 != some .eq) = true then some 9221120237041090560 else if (fcmp a0 0 == some .eq) = true then some 0 else some a0
theorem flo_Canon.calls (a0 : Int) (r : Int) (w : World) (h : flo_Canon.f a0 = some r) :
    Calls Try.prog 23 #[.int .u64 a0] w fun e w' => e = .returned (.int .u64 r) ∧ Drawn0 w w' := by
  unfold flo_Canon.f fcmp at h
  rw [show Int.toNat 0 = 0 from rfl] at h
  have hfb := run_frombits
  by_cases c1 : (FloatKind.f64.format.order a0.toNat a0.toNat != some .eq) = true
  · rw [if_pos c1] at h
    obtain rfl := Option.some.inj h
    clear h
    go_enter Try.func23, Try.ntmps23
    go_wp2
    go_ret
    exact ⟨rfl, Drawn0.refl _⟩
  · rw [if_neg c1] at h
    replace c1 := Bool.not_eq_true _ ▸ c1
    by_cases c2 : (FloatKind.f64.format.order a0.toNat 0 == some .eq) = true
    · rw [if_pos c2] at h
      obtain rfl := Option.some.inj h
      clear h
      go_enter Try.func23, Try.ntmps23
      go_wp2
      go_ret
      exact ⟨rfl, Drawn0.refl _⟩
    · rw [if_neg c2] at h
      replace c2 := Bool.not_eq_true _ ▸ c2
      obtain rfl := Option.some.inj h
      clear h
      go_enter Try.func23, Try.ntmps23
      go_wp2
      go_ret
      exact ⟨rfl, Drawn0.refl _⟩

/-! ### value_May: function 11 -/
def value_May.f (a0_0 a0_1 a0_2 : Int) (a0_3 : ByteArray) : Option (Bool) :=
  if a0_0 = 0 then some (a0_1 == 0 && (a0_2 == 0 && a0_3.toList.isEmpty))
  else if a0_0 = 1 then (if a0_1 = 0 then some (a0_2 == 0 && a0_3.toList.isEmpty) else if a0_1 = 1 then some (a0_2 == 0 && a0_3.toList.isEmpty) else some false)
  else if a0_0 = 2 then some (a0_2 == 0 && a0_3.toList.isEmpty)
  else if a0_0 = 3 then (flo_Canon.f a0_2).bind fun t => if t = a0_2 then some (a0_1 == 0 && a0_3.toList.isEmpty) else some false
  else if a0_0 = 4 then (if (a0_3.size : Int) > 40 then some false else some (a0_1 == 0 && a0_2 == 0))
  else if a0_0 = 5 then (if (a0_3.size : Int) > 40 then some false else some (a0_1 == 0 && a0_2 == 0))
  else some false
theorem may_below2 (w : World) (x y : Obj) : Below w.heap.size w ((w.alloc x).alloc y) := ((Below.refl _ _).alloc (Nat.le_refl _) _).alloc (by simp) _
attribute [local go_sem high] eqA24
set_option maxHeartbeats 2000000 in
set_option maxRecDepth 100000 in
theorem value_May.calls0 (a0_1 a0_2 : Int) (a0_3 : ByteArray) (w : World) :
    Calls Try.prog 11 #[.agg #[.int .i64 0, .int .i64 a0_1, .int .u64 a0_2, .string a0_3]] w fun e w' => e = .returned (.bool (a0_1 == 0 && (a0_2 == 0 && a0_3.toList.isEmpty))) ∧ Below w.heap.size w w' := by
  go_enter Try.func11, Try.ntmps11
  go_wp2
  go_ret
  exact ⟨rfl, may_below2 _ _ _⟩
set_option maxHeartbeats 2000000 in
set_option maxRecDepth 100000 in
theorem value_May.calls10 (a0_2 : Int) (a0_3 : ByteArray) (w : World) :
    Calls Try.prog 11 #[.agg #[.int .i64 1, .int .i64 0, .int .u64 a0_2, .string a0_3]] w fun e w' => e = .returned (.bool (a0_2 == 0 && a0_3.toList.isEmpty)) ∧ Below w.heap.size w w' := by
  go_enter Try.func11, Try.ntmps11
  go_wp2
  go_ret
  exact ⟨rfl, may_below2 _ _ _⟩
set_option maxHeartbeats 2000000 in
set_option maxRecDepth 100000 in
theorem value_May.calls11 (a0_2 : Int) (a0_3 : ByteArray) (w : World) :
    Calls Try.prog 11 #[.agg #[.int .i64 1, .int .i64 1, .int .u64 a0_2, .string a0_3]] w fun e w' => e = .returned (.bool (a0_2 == 0 && a0_3.toList.isEmpty)) ∧ Below w.heap.size w w' := by
  go_enter Try.func11, Try.ntmps11
  go_wp2
  go_ret
  exact ⟨rfl, may_below2 _ _ _⟩
set_option maxHeartbeats 2000000 in
set_option maxRecDepth 100000 in
theorem value_May.calls12 (a0_1 a0_2 : Int) (a0_3 : ByteArray) (w : World) (h0 : (a0_1 != 0) = true) (h1 : (a0_1 != 1) = true) :
    Calls Try.prog 11 #[.agg #[.int .i64 1, .int .i64 a0_1, .int .u64 a0_2, .string a0_3]] w fun e w' => e = .returned (.bool false) ∧ Below w.heap.size w w' := by
  go_enter Try.func11, Try.ntmps11
  go_wp2
  go_ret
  exact ⟨rfl, may_below2 _ _ _⟩
set_option maxHeartbeats 2000000 in
set_option maxRecDepth 100000 in
theorem value_May.calls2 (a0_1 a0_2 : Int) (a0_3 : ByteArray) (w : World) :
    Calls Try.prog 11 #[.agg #[.int .i64 2, .int .i64 a0_1, .int .u64 a0_2, .string a0_3]] w fun e w' => e = .returned (.bool (a0_2 == 0 && a0_3.toList.isEmpty)) ∧ Below w.heap.size w w' := by
  go_enter Try.func11, Try.ntmps11
  go_wp2
  go_ret
  exact ⟨rfl, may_below2 _ _ _⟩
set_option maxHeartbeats 2000000 in
set_option maxRecDepth 100000 in
theorem value_May.calls3y (a0_1 a0_2 : Int) (a0_3 : ByteArray) (w : World) (h : flo_Canon.f a0_2 = some a0_2) :
    Calls Try.prog 11 #[.agg #[.int .i64 3, .int .i64 a0_1, .int .u64 a0_2, .string a0_3]] w fun e w' => e = .returned (.bool (a0_1 == 0 && a0_3.toList.isEmpty)) ∧ Below w.heap.size w w' := by
  have H := Aside0.mk h
  clear h
  go_enter Try.func11, Try.ntmps11
  go_wp2_with fail
  go_quiet ((go_at_call 23; exact Calls.quiet_of ((flo_Canon.calls _ _ _ H.out).mono fun e w' h => ⟨h.1, h.2.out⟩)))
  go_wp2
  go_ret
  exact ⟨rfl, below_set (pw_below_drewN (may_below2 _ _ _) _) (Nat.le_succ _)⟩
set_option maxHeartbeats 2000000 in
set_option maxRecDepth 100000 in
theorem value_May.calls3n (a0_1 a0_2 t : Int) (a0_3 : ByteArray) (w : World) (h : flo_Canon.f a0_2 = some t) (hn : (t != a0_2) = true) :
    Calls Try.prog 11 #[.agg #[.int .i64 3, .int .i64 a0_1, .int .u64 a0_2, .string a0_3]] w fun e w' => e = .returned (.bool false) ∧ Below w.heap.size w w' := by
  have H := Aside0.mk h
  clear h
  go_enter Try.func11, Try.ntmps11
  go_wp2_with fail
  go_quiet ((go_at_call 23; exact Calls.quiet_of ((flo_Canon.calls _ _ _ H.out).mono fun e w' h => ⟨h.1, h.2.out⟩)))
  go_wp2
  go_ret
  exact ⟨rfl, pw_below_drewN (may_below2 _ _ _) _⟩
set_option maxHeartbeats 2000000 in
set_option maxRecDepth 100000 in
theorem value_May.calls4y (a0_1 a0_2 : Int) (a0_3 : ByteArray) (w : World) (h : decide (40 < (a0_3.size : Int)) = false) :
    Calls Try.prog 11 #[.agg #[.int .i64 4, .int .i64 a0_1, .int .u64 a0_2, .string a0_3]] w fun e w' => e = .returned (.bool (a0_1 == 0 && a0_2 == 0)) ∧ Below w.heap.size w w' := by
  go_enter Try.func11, Try.ntmps11
  go_wp2
  go_ret
  exact ⟨rfl, may_below2 _ _ _⟩
set_option maxHeartbeats 2000000 in
set_option maxRecDepth 100000 in
theorem value_May.calls4n (a0_1 a0_2 : Int) (a0_3 : ByteArray) (w : World) (h : decide (40 < (a0_3.size : Int)) = true) :
    Calls Try.prog 11 #[.agg #[.int .i64 4, .int .i64 a0_1, .int .u64 a0_2, .string a0_3]] w fun e w' => e = .returned (.bool false) ∧ Below w.heap.size w w' := by
  go_enter Try.func11, Try.ntmps11
  go_wp2
  go_ret
  exact ⟨rfl, may_below2 _ _ _⟩
set_option maxHeartbeats 2000000 in
set_option maxRecDepth 100000 in
theorem value_May.calls5y (a0_1 a0_2 : Int) (a0_3 : ByteArray) (w : World) (h : decide (40 < (a0_3.size : Int)) = false) :
    Calls Try.prog 11 #[.agg #[.int .i64 5, .int .i64 a0_1, .int .u64 a0_2, .string a0_3]] w fun e w' => e = .returned (.bool (a0_1 == 0 && a0_2 == 0)) ∧ Below w.heap.size w w' := by
  go_enter Try.func11, Try.ntmps11
  go_wp2
  go_ret
  exact ⟨rfl, may_below2 _ _ _⟩
set_option maxHeartbeats 2000000 in
set_option maxRecDepth 100000 in
theorem value_May.calls5n (a0_1 a0_2 : Int) (a0_3 : ByteArray) (w : World) (h : decide (40 < (a0_3.size : Int)) = true) :
    Calls Try.prog 11 #[.agg #[.int .i64 5, .int .i64 a0_1, .int .u64 a0_2, .string a0_3]] w fun e w' => e = .returned (.bool false) ∧ Below w.heap.size w w' := by
  go_enter Try.func11, Try.ntmps11
  go_wp2
  go_ret
  exact ⟨rfl, may_below2 _ _ _⟩
set_option maxHeartbeats 2000000 in
set_option maxRecDepth 100000 in
theorem value_May.calls6 (a0_0 a0_1 a0_2 : Int) (a0_3 : ByteArray) (w : World) (h0 : (a0_0 == 0) = false) (h1 : (a0_0 == 1) = false) (h2 : (a0_0 == 2) = false) (h3 : (a0_0 == 3) = false) (h4 : (a0_0 == 4) = false) (h5 : (a0_0 == 5) = false) :
    Calls Try.prog 11 #[.agg #[.int .i64 a0_0, .int .i64 a0_1, .int .u64 a0_2, .string a0_3]] w fun e w' => e = .returned (.bool false) ∧ Below w.heap.size w w' := by
  go_enter Try.func11, Try.ntmps11
  go_wp2
  go_ret
  exact ⟨rfl, may_below2 _ _ _⟩
theorem value_May.calls (a0_0 a0_1 a0_2 : Int) (a0_3 : ByteArray) (r : Bool) (w : World) (h : value_May.f a0_0 a0_1 a0_2 a0_3 = some r) :
    Calls Try.prog 11 #[.agg #[.int .i64 a0_0, .int .i64 a0_1, .int .u64 a0_2, .string a0_3]] w fun e w' => e = .returned (.bool r) ∧ Below w.heap.size w w' := by
  unfold value_May.f at h
  by_cases c0 : a0_0 = 0
  · rw [if_pos c0] at h; obtain rfl := Option.some.inj h; subst c0; exact value_May.calls0 _ _ _ _
  rw [if_neg c0] at h
  by_cases c1 : a0_0 = 1
  · rw [if_pos c1] at h; subst c1
    by_cases d0 : a0_1 = 0
    · rw [if_pos d0] at h; obtain rfl := Option.some.inj h; subst d0; exact value_May.calls10 _ _ _
    rw [if_neg d0] at h
    by_cases d1 : a0_1 = 1
    · rw [if_pos d1] at h; obtain rfl := Option.some.inj h; subst d1; exact value_May.calls11 _ _ _
    rw [if_neg d1] at h; obtain rfl := Option.some.inj h
    exact value_May.calls12 _ _ _ _ (bne_iff_ne.mpr d0) (bne_iff_ne.mpr d1)
  rw [if_neg c1] at h
  by_cases c2 : a0_0 = 2
  · rw [if_pos c2] at h; obtain rfl := Option.some.inj h; subst c2; exact value_May.calls2 _ _ _ _
  rw [if_neg c2] at h
  by_cases c3 : a0_0 = 3
  · rw [if_pos c3] at h; subst c3
    cases ht : flo_Canon.f a0_2 with
    | none => rw [ht] at h; cases h
    | some t =>
      rw [ht, Option.bind_some] at h
      by_cases d : t = a0_2
      · rw [if_pos d] at h; obtain rfl := Option.some.inj h; rw [d] at ht; exact value_May.calls3y _ _ _ _ ht
      · rw [if_neg d] at h; obtain rfl := Option.some.inj h; exact value_May.calls3n _ _ _ _ _ ht (bne_iff_ne.mpr d)
  rw [if_neg c3] at h
  by_cases c4 : a0_0 = 4
  · rw [if_pos c4] at h; subst c4
    by_cases d : (a0_3.size : Int) > 40
    · rw [if_pos d] at h; obtain rfl := Option.some.inj h; exact value_May.calls4n _ _ _ _ (decide_eq_true d)
    · rw [if_neg d] at h; obtain rfl := Option.some.inj h; exact value_May.calls4y _ _ _ _ (decide_eq_false d)
  rw [if_neg c4] at h
  by_cases c5 : a0_0 = 5
  · rw [if_pos c5] at h; subst c5
    by_cases d : (a0_3.size : Int) > 40
    · rw [if_pos d] at h; obtain rfl := Option.some.inj h; exact value_May.calls5n _ _ _ _ (decide_eq_true d)
    · rw [if_neg d] at h; obtain rfl := Option.some.inj h; exact value_May.calls5y _ _ _ _ (decide_eq_false d)
  rw [if_neg c5] at h
  obtain rfl := Option.some.inj h
  exact value_May.calls6 _ _ _ _ _ (beq_eq_false_iff_ne.mpr c0) (beq_eq_false_iff_ne.mpr c1) (beq_eq_false_iff_ne.mpr c2) (beq_eq_false_iff_ne.mpr c3) (beq_eq_false_iff_ne.mpr c4) (beq_eq_false_iff_ne.mpr c5)

/-! ### falseworkref1_Canon: function 19 -/
def falseworkref1_Canon.f (a0 : Int) : Option (Int) := if (Go.bits .andNot .u64 a0 9223372036854775808) > 9218868437227405312 then (some 9221120237041090560) else (if a0 = 9223372036854775808 then (some 0) else (some a0))
set_option maxHeartbeats 8000000 in
set_option maxRecDepth 100000 in
theorem falseworkref1_Canon.calls (a0 : Int) (r : Int) (w : World) (h : falseworkref1_Canon.f a0 = some r) :
    Calls Try.prog 19 #[.int .u64 a0] w fun e w' => e = .returned (.int .u64 r) ∧ Drawn0 w w' := by
  have H : (if (Go.bits .andNot .u64 a0 9223372036854775808) > 9218868437227405312 then (some 9221120237041090560) else (if a0 = 9223372036854775808 then (some 0) else (some a0))) = some r := h
  clear h
  by_cases c2 : (Go.bits .andNot .u64 a0 9223372036854775808) > 9218868437227405312
  · rw [if_pos c2] at H
    have c2b0 : decide (9218868437227405312 < (Go.bits .andNot .u64 a0 9223372036854775808)) = true := decide_eq_true c2
    clear c2
    obtain rfl := Option.some.inj H
    go_enter Try.func19, Try.ntmps19
    go_wp2
    go_ret
    exact ⟨by first | rfl | (simp; done) | (simp [*]; done), by repeat (first | exact Drawn0.refl _ | apply Drawn0.step)⟩
  · rw [if_neg c2] at H
    have c2b0 : decide (9218868437227405312 < (Go.bits .andNot .u64 a0 9223372036854775808)) = false := decide_eq_false c2
    clear c2
    by_cases c3 : a0 = 9223372036854775808
    · rw [if_pos c3] at H
      have c3b0 : (a0 == 9223372036854775808) = true := beq_iff_eq.mpr c3
      have c3b1 : (a0 != 9223372036854775808) = false := bne_eq_false_iff_eq.mpr c3
      clear c3
      obtain rfl := Option.some.inj H
      go_enter Try.func19, Try.ntmps19
      go_wp2
      go_ret
      exact ⟨by first | rfl | (simp; done) | (simp [*]; done), by repeat (first | exact Drawn0.refl _ | apply Drawn0.step)⟩
    · rw [if_neg c3] at H
      have c3b0 : (a0 == 9223372036854775808) = false := beq_eq_false_iff_ne.mpr c3
      have c3b1 : (a0 != 9223372036854775808) = true := bne_iff_ne.mpr c3
      obtain rfl := Option.some.inj H
      go_enter Try.func19, Try.ntmps19
      go_wp2
      go_ret
      exact ⟨by first | rfl | (simp; done) | (simp [*]; done), by repeat (first | exact Drawn0.refl _ | apply Drawn0.step)⟩

end Go.Proofs.Ytpkfkmempgamkaa.PA
