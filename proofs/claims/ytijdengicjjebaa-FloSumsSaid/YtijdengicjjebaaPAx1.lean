/- Contracts of the Go functions of this seat: what each call returns is what a Lean function of its arguments says; each theorem bears its own conditions. Written by a program of this session (wip/tools/mkprint.py). -/
import Derived.Test.YtijdengicjjebaaPAx0
namespace Go.Proofs.Ytijdengicjjebaa.PA
open Go.RowKit Go.Proofs.YtijdengicjjebaaW.PrintWords Go.Proofs.YtijdengicjjebaaW.PrintLast Go.Proofs.YtijdengicjjebaaW.PrintMore
attribute [local go_sem] max2_int min2_int max_two min_two max_three min_three max_four min_four   -- for this text's walks alone
set_option linter.unusedVariables false
set_option linter.unusedSimpArgs false

attribute [local go_sem ↓ high] unary_xor_u64 ux_if_u64
attribute [local go_sem] str_gtr str_leq str_geq
-- NOT PRINTED: function 27 (math_Float64frombits)

/-! ### flo_Canon: function 12 -/
/-- How two floats stand to each other, by their bits. -/
def fcmp (x y : Int) : Option Ordering := FloatKind.f64.format.order x.toNat y.toNat
theorem run_frombits (n : Int) (w : World) : (callFunc 27 #[.int .u64 n]).run Try.prog w = .ok (.value (.float .f64 n.toNat)) w :=
  (run_callFunc_extern (e := Extern.MathFloatBits.float64frombits) Try.func27 (by kernel_rfl) (by kernel_rfl) (by kernel_rfl) (by rfl) _ w).trans rfl
def flo_Canon.f (a0 : Int) : Option (Int) := if (fcmp a0 a0 != some .eq) = true then some 9221120237041090560 else if (fcmp a0 0 == some .eq) = true then some 0 else some a0
theorem flo_Canon.calls (a0 : Int) (r : Int) (w : World) (h : flo_Canon.f a0 = some r) :
    Calls Try.prog 12 #[.int .u64 a0] w fun e w' => e = .returned (.int .u64 r) ∧ Drawn0 w w' := by
  unfold flo_Canon.f fcmp at h
  rw [show Int.toNat 0 = 0 from rfl] at h
  have hfb := run_frombits
  by_cases c1 : (FloatKind.f64.format.order a0.toNat a0.toNat != some .eq) = true
  · rw [if_pos c1] at h
    obtain rfl := Option.some.inj h
    clear h
    go_enter Try.func12, Try.ntmps12
    go_wp2
    go_ret
    exact ⟨rfl, Drawn0.refl _⟩
  · rw [if_neg c1] at h
    replace c1 := Bool.not_eq_true _ ▸ c1
    by_cases c2 : (FloatKind.f64.format.order a0.toNat 0 == some .eq) = true
    · rw [if_pos c2] at h
      obtain rfl := Option.some.inj h
      clear h
      go_enter Try.func12, Try.ntmps12
      go_wp2
      go_ret
      exact ⟨rfl, Drawn0.refl _⟩
    · rw [if_neg c2] at h
      replace c2 := Bool.not_eq_true _ ▸ c2
      obtain rfl := Option.some.inj h
      clear h
      go_enter Try.func12, Try.ntmps12
      go_wp2
      go_ret
      exact ⟨rfl, Drawn0.refl _⟩

/-! ### falseworkref1_Canon: function 13 -/
def falseworkref1_Canon.f (a0 : Int) : Option (Int) := if (Go.bits .andNot .u64 a0 9223372036854775808) > 9218868437227405312 then (some 9221120237041090560) else (if a0 = 9223372036854775808 then (some 0) else (some a0))
set_option maxHeartbeats 8000000 in
set_option maxRecDepth 100000 in
theorem falseworkref1_Canon.calls (a0 : Int) (r : Int) (w : World) (h : falseworkref1_Canon.f a0 = some r) :
    Calls Try.prog 13 #[.int .u64 a0] w fun e w' => e = .returned (.int .u64 r) ∧ Drawn0 w w' := by
  have H : (if (Go.bits .andNot .u64 a0 9223372036854775808) > 9218868437227405312 then (some 9221120237041090560) else (if a0 = 9223372036854775808 then (some 0) else (some a0))) = some r := h
  clear h
  by_cases c2 : (Go.bits .andNot .u64 a0 9223372036854775808) > 9218868437227405312
  · rw [if_pos c2] at H
    have c2b0 : decide (9218868437227405312 < (Go.bits .andNot .u64 a0 9223372036854775808)) = true := decide_eq_true c2
    clear c2
    obtain rfl := Option.some.inj H
    go_enter Try.func13, Try.ntmps13
    go_wp2
    go_ret
    exact ⟨by first | rfl | (simp; done) | (simp [*]; done), by repeat (first | exact Drawn0.refl _ | apply Drawn0.step)⟩
  · rw [if_neg c2] at H
    have c2b0 : decide (9218868437227405312 < (Go.bits .andNot .u64 a0 9223372036854775808)) = false := decide_eq_false c2
    clear c2
    by_cases c3 : a0 = 9223372036854775808
    · rw [if_pos c3] at H
      have c3b0 : (a0 == 9223372036854775808) = true := beq_iff_eq.mpr c3
      have c3b1 : (a0 != 9223372036854775808) = false := bne_eq_false_iff_eq.mpr c3
      clear c3
      obtain rfl := Option.some.inj H
      go_enter Try.func13, Try.ntmps13
      go_wp2
      go_ret
      exact ⟨by first | rfl | (simp; done) | (simp [*]; done), by repeat (first | exact Drawn0.refl _ | apply Drawn0.step)⟩
    · rw [if_neg c3] at H
      have c3b0 : (a0 == 9223372036854775808) = false := beq_eq_false_iff_ne.mpr c3
      have c3b1 : (a0 != 9223372036854775808) = true := bne_iff_ne.mpr c3
      obtain rfl := Option.some.inj H
      go_enter Try.func13, Try.ntmps13
      go_wp2
      go_ret
      exact ⟨by first | rfl | (simp; done) | (simp [*]; done), by repeat (first | exact Drawn0.refl _ | apply Drawn0.step)⟩

-- NOT PRINTED: function 28 (math_Float64bits)

/-! ### flo_Sum: function 15 -/
theorem run_tobits (b : Nat) (w : World) : (callFunc 28 #[.float .f64 b]).run Try.prog w = .ok (.value (.int .u64 b)) w :=
  (run_callFunc_extern (e := Extern.MathFloatBits.float64bits) Try.func28 (by kernel_rfl) (by kernel_rfl) (by kernel_rfl) (by rfl) _ w).trans rfl
/-- The bits of a NaN that the machine may hand back, by what the tape says. -/
def nanOf (t : Nat) : Nat := (t % 2) * 9223372036854775808 + 9218868437227405312 + 1 + (t / 2) % 4503599627370495
theorem nanOf_rung (t : Nat) : ∃ r, nanOf t % 9223372036854775808 = 9218868437227405313 + r ∧ r < 4503599627370495 := by
  refine ⟨(t / 2) % 4503599627370495, ?_, Nat.mod_lt _ (by decide)⟩
  have h := Nat.mod_lt (t / 2) (show 0 < 4503599627370495 by decide)
  unfold nanOf
  generalize (t / 2) % 4503599627370495 = r at *
  rcases Nat.mod_two_eq_zero_or_one t with h2 | h2 <;> rw [h2] <;> omega
theorem dbl_sw : Ieee.double.signWeight = 9223372036854775808 := by decide
theorem dbl_inf : Ieee.double.infRung = 9218868437227405312 := by decide
theorem dbl_bin : Ieee.double.binade = 4503599627370496 := by decide
theorem nan_read (n : Nat) (h : 9218868437227405312 < n % 9223372036854775808) : Ieee.double.read n = .nan (n / 9223372036854775808 % 2 == 1) (n % 9223372036854775808 - 9218868437227405312) := by
  unfold Ieee.Format.read
  simp only [dbl_sw, dbl_inf, dbl_bin]
  rw [if_neg (by omega), if_neg (by omega), if_neg (by omega)]
theorem nanOf_nan (t : Nat) : fcmp (nanOf t : Int) (nanOf t : Int) = none := by
  obtain ⟨r, hr, _⟩ := nanOf_rung t
  have h := nan_read (nanOf t) (by omega)
  unfold fcmp
  rw [Int.toNat_natCast]
  show Ieee.Datum.order (Ieee.double.read (nanOf t)) (Ieee.double.read (nanOf t)) = none
  rw [h]; rfl
theorem canon_nanOf (t : Nat) : flo_Canon.f (nanOf t : Int) = some 9221120237041090560 := by
  unfold flo_Canon.f
  rw [nanOf_nan, if_pos (by rfl)]
/-- Two floats' sum: the one form of the nearest float, or of a NaN. -/
def flo_Sum.f (a0 : Int) (a1 : Int) : Option (Int) :=
  match FloatKind.f64.format.add a0.toNat a1.toNat with
  | some r => flo_Canon.f r
  | none => some 9221120237041090560
set_option maxHeartbeats 2000000 in
set_option maxRecDepth 100000 in
theorem flo_Sum.calls (a0 : Int) (a1 : Int) (r : Int) (w : World) (h : flo_Sum.f a0 a1 = some r) :
    Calls Try.prog 15 #[.int .u64 a0, .int .u64 a1] w fun e w' => e = .returned (.int .u64 r) ∧ Drawn0 w w' := by
  have hfb := run_frombits
  have htb := run_tobits
  unfold flo_Sum.f at h
  cases hs : FloatKind.f64.format.add a0.toNat a1.toNat with
  | some s =>
    rw [hs] at h
    have H : flo_Canon.f s = some r := h
    have H' := Aside0.mk H
    clear h H
    have hadd : ∀ w : World, (binOp .add 37 (.float .f64 a0.toNat) (.float .f64 a1.toNat)).run Try.prog w = .ok (.float .f64 s) w := fun w => run_float_arith w .add 37 .f64 _ _ s hs
    clear hs
    go_enter Try.func15, Try.ntmps15
    go_wp2_with (go_at_call 12; refine (flo_Canon.calls _ _ _ H'.out).mono ?_; rintro e w1 ⟨rfl, hd⟩)
    go_ret
    exact ⟨rfl, hd⟩
  | none =>
    rw [hs] at h
    obtain rfl := Option.some.inj h
    clear h
    have hadd : ∀ w : World, (binOp .add 37 (.float .f64 a0.toNat) (.float .f64 a1.toNat)).run Try.prog w = .ok (.float .f64 (nanOf (w.tape w.drawn (.nanBits .f64 a0.toNat a1.toNat)))) (w.drewN 1) := fun w => by
      have hs' : FloatKind.f64.format.add a0.toNat a1.toNat = none := hs
      simp [binOp, Op.floatArith, hs', choose, Sem.run, Question.forced, Question.cut]
      exact ⟨rfl, rfl⟩
    clear hs
    go_enter Try.func15, Try.ntmps15
    go_wp2_with (go_at_call 12; refine (flo_Canon.calls _ _ _ (canon_nanOf _)).mono ?_; rintro e w1 ⟨rfl, hd⟩)
    go_ret
    obtain ⟨m, rfl⟩ := hd
    exact ⟨rfl, ((Drawn0.refl w).step 1).step m⟩

-- NOT PRINTED: function 33 (math_archTrunc)

-- NOT PRINTED: function 35 (math_Abs)

-- NOT PRINTED: function 36 (math_Copysign)

-- NOT PRINTED: function 34 (math_trunc)

-- NOT PRINTED: function 32 (math_Trunc)

/-! ### flo_Int: function 17 -/
/-- The bits of a float that is cut towards zero. -/
def truncB (x : Nat) : Nat := FloatKind.f64.encode ((FloatKind.f64.decode x).integral .zero)
theorem int_toI (nm : String) (way : Ieee.Toward) (x : Nat) (h : (FloatKind.f64.decode x).isNaN = false) : Extern.MathFloor.toIntegral nm way #[.float .f64 x] = pure (Value.float .f64 (FloatKind.f64.encode ((FloatKind.f64.decode x).integral way))) := by
  change (match FloatKind.f64.decode x with | .nan s t => _ | d => pure (Value.float .f64 (FloatKind.f64.encode (d.integral way))) : Sem Value) = _
  cases hd : FloatKind.f64.decode x with
  | nan s t => rw [hd] at h; cases h
  | number s m e => rfl
  | infinity s => rfl
theorem int_toIn (P : Program) (nm : String) (way : Ieee.Toward) (x : Nat) (w : World) (h : (FloatKind.f64.decode x).isNaN = true) : ∃ (y n : Nat), (Extern.MathFloor.toIntegral nm way #[.float .f64 x]).run P w = .ok (.float .f64 y) (w.drewN n) := by
  have key : ∀ (d : Ieee.Datum), d.isNaN = true → ∃ (y n : Nat), Sem.run P (match d with | .nan s t => (if FloatKind.f64.format.quiet t = t then pure (Value.float .f64 x) else choose (.extern "math.Floor,Ceil,Trunc,RoundToEven.signallingNaN kept" 2) >>= fun kept => pure (Value.float .f64 (if kept == 1 then x else FloatKind.f64.encode (.nan s (FloatKind.f64.format.quiet t))))) | d => pure (Value.float .f64 (FloatKind.f64.encode (d.integral way))) : Sem Value) w = Result.ok (Value.float .f64 y) (w.drewN n) := by
    intro d hd
    cases d with
    | number s m e => cases hd
    | infinity s => cases hd
    | nan s t =>
      by_cases hq : FloatKind.f64.format.quiet t = t
      · simp only [hq, if_true]
        exact ⟨x, 0, rfl⟩
      · simp only [hq, if_false]
        exact ⟨_, 1, rfl⟩
  exact key _ h
theorem run_trunc (x : Nat) (w : World) (h : (FloatKind.f64.decode x).isNaN = false) : (callFunc 33 #[.float .f64 x]).run Try.prog w = .ok (.value (.float .f64 (truncB x))) w := by
  refine (run_callFunc_extern (e := Extern.MathFloor.toIntegral "math.archTrunc" .zero) Try.func33 (by kernel_rfl) (by kernel_rfl) (by kernel_rfl) (by rfl) _ w).trans ?_
  rw [int_toI _ _ x h]; rfl
theorem run_trunc_nan (x : Nat) (w : World) (h : (FloatKind.f64.decode x).isNaN = true) : ∃ (y n : Nat), (callFunc 33 #[.float .f64 x]).run Try.prog w = .ok (.value (.float .f64 y)) (w.drewN n) := by
  obtain ⟨y, n, hy⟩ := int_toIn Try.prog "math.archTrunc" .zero x w h
  refine ⟨y, n, (run_callFunc_extern (e := Extern.MathFloor.toIntegral "math.archTrunc" .zero) Try.func33 (by kernel_rfl) (by kernel_rfl) (by kernel_rfl) (by rfl) #[.float .f64 x] w).trans ?_⟩
  rw [hy]; rfl
theorem trunc_calls (x : Nat) (w : World) (h : (FloatKind.f64.decode x).isNaN = false) :
    Calls Try.prog 32 #[.float .f64 x] w fun e w' => e = .returned (.float .f64 (truncB x)) ∧ w = w' := by
  have ht := fun w => run_trunc x w h
  clear h
  go_enter Try.func32, Try.ntmps32
  go_wp2
  go_ret
  exact ⟨rfl, rfl⟩
theorem trunc_calls_nan (x : Nat) (w : World) (h : (FloatKind.f64.decode x).isNaN = true) :
    Calls Try.prog 32 #[.float .f64 x] w fun e w' => ∃ y n, e = .returned (.float .f64 y) ∧ w' = w.drewN n := by
  obtain ⟨y, n, ht⟩ := run_trunc_nan x w h
  clear h
  go_enter Try.func32, Try.ntmps32
  go_wp2
  go_ret
  exact ⟨y, n, rfl, rfl⟩
theorem order_nan (x y : Nat) (h : (FloatKind.f64.decode x).isNaN = true) : FloatKind.f64.format.order x y = none := by
  show Ieee.Datum.order (FloatKind.f64.decode x) _ = none
  cases hd : FloatKind.f64.decode x with
  | number s m e => rw [hd] at h; cases h
  | infinity s => rw [hd] at h; cases h
  | nan s t => rfl
/-- The whole number that a float is, if it is one, and an int64. -/
def flo_Int.f (a0 : Int) : Option (Int × Bool) :=
  if (FloatKind.f64.decode a0.toNat).isNaN = true then some (0, false)
  else if (FloatKind.f64.format.order a0.toNat (truncB a0.toNat) != some .eq) = true then some (0, false)
  else if (FloatKind.f64.format.order a0.toNat 14114281232179134464 == some .lt) = true then some (0, false)
  else if (FloatKind.f64.format.order a0.toNat 4890909195324358656 == some .gt || FloatKind.f64.format.order a0.toNat 4890909195324358656 == some .eq) = true then some (0, false)
  else (floatToIntVal .f64 a0.toNat .i64).map fun n => (n, true)
set_option maxHeartbeats 2000000 in
theorem flo_Int.calls (a0 : Int) (r1 : Int) (r2 : Bool) (w : World) (h : flo_Int.f a0 = some (r1, r2)) :
    Calls Try.prog 17 #[.int .u64 a0] w fun e w' => e = .returned (.tuple #[.int .i64 r1, .bool r2]) ∧ Drawn0 w w' := by
  have hfb := run_frombits
  unfold flo_Int.f at h
  by_cases c0 : (FloatKind.f64.decode a0.toNat).isNaN = true
  · rw [if_pos c0] at h
    obtain ⟨rfl, rfl⟩ := Prod.mk.inj (Option.some.inj h)
    have HN := Aside0.mk c0
    clear h c0
    go_enter Try.func17, Try.ntmps17
    go_wp2_with (go_at_call 32; refine (trunc_calls_nan _ _ HN.out).mono ?_; rintro e w1 ⟨y, m, rfl, rfl⟩; have hy : (FloatKind.f64.format.order a0.toNat y != some .eq) = true := (by rw [order_nan _ _ HN.out]; rfl))
    go_ret2
    exact ⟨rfl, (Drawn0.refl w).step _⟩
  · rw [if_neg c0] at h
    have HN := Aside0.mk (Bool.not_eq_true _ ▸ c0)
    clear c0
    by_cases c1 : (FloatKind.f64.format.order a0.toNat (truncB a0.toNat) != some .eq) = true
    · rw [if_pos c1] at h
      obtain ⟨rfl, rfl⟩ := Prod.mk.inj (Option.some.inj h)
      clear h
      go_enter Try.func17, Try.ntmps17
      go_wp2_with (go_at_call 32; refine (trunc_calls _ _ HN.out).mono ?_; rintro e w1 ⟨rfl, rfl⟩)
      go_ret2
      exact ⟨rfl, Drawn0.refl _⟩
    · rw [if_neg c1] at h
      replace c1 := Bool.not_eq_true _ ▸ c1
      by_cases c2 : (FloatKind.f64.format.order a0.toNat 14114281232179134464 == some .lt) = true
      · rw [if_pos c2] at h
        obtain ⟨rfl, rfl⟩ := Prod.mk.inj (Option.some.inj h)
        clear h
        go_enter Try.func17, Try.ntmps17
        go_wp2_with (go_at_call 32; refine (trunc_calls _ _ HN.out).mono ?_; rintro e w1 ⟨rfl, rfl⟩)
        go_ret2
        exact ⟨rfl, Drawn0.refl _⟩
      · rw [if_neg c2] at h
        replace c2 := Bool.not_eq_true _ ▸ c2
        by_cases c3 : (FloatKind.f64.format.order a0.toNat 4890909195324358656 == some .gt || FloatKind.f64.format.order a0.toNat 4890909195324358656 == some .eq) = true
        · rw [if_pos c3] at h
          obtain ⟨rfl, rfl⟩ := Prod.mk.inj (Option.some.inj h)
          clear h
          go_enter Try.func17, Try.ntmps17
          go_wp2_with (go_at_call 32; refine (trunc_calls _ _ HN.out).mono ?_; rintro e w1 ⟨rfl, rfl⟩)
          go_ret2
          exact ⟨rfl, Drawn0.refl _⟩
        · rw [if_neg c3] at h
          replace c3 := Bool.not_eq_true _ ▸ c3
          cases hv : floatToIntVal .f64 a0.toNat .i64 with
          | none => rw [hv] at h; cases h
          | some n =>
            rw [hv] at h
            obtain ⟨rfl, rfl⟩ := Prod.mk.inj (Option.some.inj h)
            clear h
            have hcv : ∀ w : World, (convert 37 2 (.float .f64 a0.toNat)).run Try.prog w = .ok (.int .i64 n) w := fun w => run_convert_float_int w 37 2 .f64 .i64 _ n (by rw [Try.underlying37]; rfl) Try.underlying2 hv
            clear hv
            go_enter Try.func17, Try.ntmps17
            go_wp2_with (go_at_call 32; refine (trunc_calls _ _ HN.out).mono ?_; rintro e w1 ⟨rfl, rfl⟩)
            go_ret2
            exact ⟨rfl, Drawn0.refl _⟩

/-! ### flo_Of: function 19 -/
/-- The float that is nearest to a number. -/
def flo_Of.f (a0 : Int) : Option (Int) := some (floatOfInt .f64 a0 : Int)
set_option maxHeartbeats 1000000 in
theorem flo_Of.calls (a0 : Int) (r : Int) (w : World) (h : flo_Of.f a0 = some r) :
    Calls Try.prog 19 #[.int .i64 a0] w fun e w' => e = .returned (.int .u64 r) ∧ Drawn0 w w' := by
  obtain rfl := Option.some.inj h
  clear h
  have htb := run_tobits
  have hcv : ∀ w : World, (convert 2 37 (.int .i64 a0)).run Try.prog w = .ok (.float .f64 (floatOfInt .f64 a0)) w := fun w => run_convert_int_float w 2 37 .i64 .f64 a0 (by rw [Try.underlying2]; rfl) Try.underlying37
  go_enter Try.func19, Try.ntmps19
  go_wp2
  go_ret
  exact ⟨rfl, Drawn0.refl _⟩

/-! ### flo_Order: function 23 -/
def flo_Order.f (a0 : Int) : Option (Int) := (flo_Canon.f a0).bind fun t101 => (if (Go.bits .and .u64 t101 9223372036854775808) = 0 then (some (Go.bits .or .u64 t101 9223372036854775808)) else (some (Go.bits .xor .u64 18446744073709551615 t101)))
set_option maxHeartbeats 8000000 in
set_option maxRecDepth 100000 in
theorem flo_Order.calls (a0 : Int) (r : Int) (w : World) (h : flo_Order.f a0 = some r) :
    Calls Try.prog 23 #[.int .u64 a0] w fun e w' => e = .returned (.int .u64 r) ∧ Drawn0 w w' := by
  have H : ((flo_Canon.f a0).bind fun t101 => (if (Go.bits .and .u64 t101 9223372036854775808) = 0 then (some (Go.bits .or .u64 t101 9223372036854775808)) else (some (Go.bits .xor .u64 18446744073709551615 t101)))) = some r := h
  clear h
  replace H := Option.bind_eq_some_iff.mp H
  obtain ⟨t101, A20, H⟩ := H
  replace H : (if (Go.bits .and .u64 t101 9223372036854775808) = 0 then (some (Go.bits .or .u64 t101 9223372036854775808)) else (some (Go.bits .xor .u64 18446744073709551615 t101))) = some r := H
  have A2 := Aside0.mk A20
  clear A20
  by_cases c3 : (Go.bits .and .u64 t101 9223372036854775808) = 0
  · rw [if_pos c3] at H
    have c3b0 : ((Go.bits .and .u64 t101 9223372036854775808) == 0) = true := beq_iff_eq.mpr c3
    have c3b1 : ((Go.bits .and .u64 t101 9223372036854775808) != 0) = false := bne_eq_false_iff_eq.mpr c3
    clear c3
    obtain rfl := Option.some.inj H
    go_enter Try.func23, Try.ntmps23
    go_wp2_with (first | ((with_reducible refine gate_callee (f := 12) rfl ?_); refine goesL_ (some 4) rfl rfl Try.func12 (by kernel_rfl) rfl #[.int .u64 a0] rfl (by (try simp only [List.map_toArray, List.map_cons, List.map_nil]); first | done | rfl | (simp only [List.length_drop, List.length_take]; rfl)) ?_; (with_reducible refine (flo_Canon.calls a0 t101 _ A2.out).mono ?_); rintro e w' ⟨rfl, ⟨nd, rfl⟩⟩; refine ⟨_, rfl, ?_⟩))
    go_ret
    exact ⟨by first | rfl | (simp; done) | (simp [*]; done), by repeat (first | exact Drawn0.refl _ | apply Drawn0.step)⟩
  · rw [if_neg c3] at H
    have c3b0 : ((Go.bits .and .u64 t101 9223372036854775808) == 0) = false := beq_eq_false_iff_ne.mpr c3
    have c3b1 : ((Go.bits .and .u64 t101 9223372036854775808) != 0) = true := bne_iff_ne.mpr c3
    obtain rfl := Option.some.inj H
    go_enter Try.func23, Try.ntmps23
    go_wp2_with (first | ((with_reducible refine gate_callee (f := 12) rfl ?_); refine goesL_ (some 4) rfl rfl Try.func12 (by kernel_rfl) rfl #[.int .u64 a0] rfl (by (try simp only [List.map_toArray, List.map_cons, List.map_nil]); first | done | rfl | (simp only [List.length_drop, List.length_take]; rfl)) ?_; (with_reducible refine (flo_Canon.calls a0 t101 _ A2.out).mono ?_); rintro e w' ⟨rfl, ⟨nd, rfl⟩⟩; refine ⟨_, rfl, ?_⟩))
    go_ret
    exact ⟨by first | rfl | (simp; done) | (simp [*]; done), by repeat (first | exact Drawn0.refl _ | apply Drawn0.step)⟩

/-! ### falseworklaw1_awake: function 14 -/
def falseworklaw1_awake.f  : Option (Bool) := (flo_Int.f 4602678819172646912).bind fun bt102 => ((flo_Order.f 4607182418800017408).bind fun t104 => (if t104 = 13830554455654793216 then ((flo_Sum.f 9218868437227405312 18442240474082181120).bind fun t105 => (if t105 = 9221120237041090560 then (if bt102.2 = true then (some false) else ((flo_Of.f 9007199254740993).bind fun t106 => (some (t106 == 4845873199050653696)))) else (some false))) else (some false)))
set_option maxHeartbeats 8000000 in
set_option maxRecDepth 100000 in
theorem falseworklaw1_awake.calls  (r : Bool) (w : World) (h : falseworklaw1_awake.f  = some r) :
    Calls Try.prog 14 #[] w fun e w' => e = .returned (.bool r) ∧ Drawn0 w w' := by
  have H : ((flo_Int.f 4602678819172646912).bind fun bt102 => ((flo_Order.f 4607182418800017408).bind fun t104 => (if t104 = 13830554455654793216 then ((flo_Sum.f 9218868437227405312 18442240474082181120).bind fun t105 => (if t105 = 9221120237041090560 then (if bt102.2 = true then (some false) else ((flo_Of.f 9007199254740993).bind fun t106 => (some (t106 == 4845873199050653696)))) else (some false))) else (some false)))) = some r := h
  clear h
  replace H := Option.bind_eq_some_iff.mp H
  obtain ⟨⟨t102, t103⟩, A10, H⟩ := H
  replace H : ((flo_Order.f 4607182418800017408).bind fun t104 => (if t104 = 13830554455654793216 then ((flo_Sum.f 9218868437227405312 18442240474082181120).bind fun t105 => (if t105 = 9221120237041090560 then (if t103 = true then (some false) else ((flo_Of.f 9007199254740993).bind fun t106 => (some (t106 == 4845873199050653696)))) else (some false))) else (some false))) = some r := H
  have A1 := Aside0.mk A10
  clear A10
  replace H := Option.bind_eq_some_iff.mp H
  obtain ⟨t104, A20, H⟩ := H
  replace H : (if t104 = 13830554455654793216 then ((flo_Sum.f 9218868437227405312 18442240474082181120).bind fun t105 => (if t105 = 9221120237041090560 then (if t103 = true then (some false) else ((flo_Of.f 9007199254740993).bind fun t106 => (some (t106 == 4845873199050653696)))) else (some false))) else (some false)) = some r := H
  have A2 := Aside0.mk A20
  clear A20
  by_cases c3 : t104 = 13830554455654793216
  · rw [if_pos c3] at H
    have c3b0 : (t104 == 13830554455654793216) = true := beq_iff_eq.mpr c3
    have c3b1 : (t104 != 13830554455654793216) = false := bne_eq_false_iff_eq.mpr c3
    clear c3
    replace H := Option.bind_eq_some_iff.mp H
    obtain ⟨t105, A40, H⟩ := H
    replace H : (if t105 = 9221120237041090560 then (if t103 = true then (some false) else ((flo_Of.f 9007199254740993).bind fun t106 => (some (t106 == 4845873199050653696)))) else (some false)) = some r := H
    have A4 := Aside0.mk A40
    clear A40
    by_cases c5 : t105 = 9221120237041090560
    · rw [if_pos c5] at H
      have c5b0 : (t105 == 9221120237041090560) = true := beq_iff_eq.mpr c5
      have c5b1 : (t105 != 9221120237041090560) = false := bne_eq_false_iff_eq.mpr c5
      clear c5
      by_cases c6 : t103 = true
      · subst c6
        have H1 : (some false) = some r := by rw [if_pos rfl] at H; exact H
        clear H
        have H := H1
        clear H1
        obtain rfl := Option.some.inj H
        go_enter Try.func14, Try.ntmps14
        go_wp2_with (first | ((with_reducible refine gate_callee (f := 17) rfl ?_); refine goesL_ (some 4) rfl rfl Try.func17 (by kernel_rfl) rfl #[.int .u64 4602678819172646912] rfl (by (try simp only [List.map_toArray, List.map_cons, List.map_nil]); first | done | rfl | (simp only [List.length_drop, List.length_take]; rfl)) ?_; (with_reducible refine (flo_Int.calls 4602678819172646912 t102 true _ A1.out).mono ?_); rintro e w' ⟨rfl, ⟨nd, rfl⟩⟩; refine ⟨_, rfl, ?_⟩) | ((with_reducible refine gate_callee (f := 23) rfl ?_); refine goesL_ (some 7) rfl rfl Try.func23 (by kernel_rfl) rfl #[.int .u64 4607182418800017408] rfl (by (try simp only [List.map_toArray, List.map_cons, List.map_nil]); first | done | rfl | (simp only [List.length_drop, List.length_take]; rfl)) ?_; (with_reducible refine (flo_Order.calls 4607182418800017408 t104 _ A2.out).mono ?_); rintro e w' ⟨rfl, ⟨nd, rfl⟩⟩; refine ⟨_, rfl, ?_⟩) | (go_at_call 15; (with_reducible refine (flo_Sum.calls 9218868437227405312 18442240474082181120 t105 _ A4.out).mono ?_); rintro e w' ⟨rfl, ⟨nd, rfl⟩⟩))
        go_ret
        exact ⟨by first | rfl | (simp; done) | (simp [*]; done), by repeat (first | exact Drawn0.refl _ | apply Drawn0.step)⟩
      · replace c6 := Bool.eq_false_iff.mpr c6
        subst c6
        have H1 : ((flo_Of.f 9007199254740993).bind fun t106 => (some (t106 == 4845873199050653696))) = some r := by rw [if_neg (show ¬ (false = true) by decide)] at H; exact H
        clear H
        have H := H1
        clear H1
        replace H := Option.bind_eq_some_iff.mp H
        obtain ⟨t106, A70, H⟩ := H
        replace H : (some (t106 == 4845873199050653696)) = some r := H
        have A7 := Aside0.mk A70
        clear A70
        obtain rfl := Option.some.inj H
        go_enter Try.func14, Try.ntmps14
        go_wp2_with (first | ((with_reducible refine gate_callee (f := 17) rfl ?_); refine goesL_ (some 4) rfl rfl Try.func17 (by kernel_rfl) rfl #[.int .u64 4602678819172646912] rfl (by (try simp only [List.map_toArray, List.map_cons, List.map_nil]); first | done | rfl | (simp only [List.length_drop, List.length_take]; rfl)) ?_; (with_reducible refine (flo_Int.calls 4602678819172646912 t102 false _ A1.out).mono ?_); rintro e w' ⟨rfl, ⟨nd, rfl⟩⟩; refine ⟨_, rfl, ?_⟩) | ((with_reducible refine gate_callee (f := 23) rfl ?_); refine goesL_ (some 7) rfl rfl Try.func23 (by kernel_rfl) rfl #[.int .u64 4607182418800017408] rfl (by (try simp only [List.map_toArray, List.map_cons, List.map_nil]); first | done | rfl | (simp only [List.length_drop, List.length_take]; rfl)) ?_; (with_reducible refine (flo_Order.calls 4607182418800017408 t104 _ A2.out).mono ?_); rintro e w' ⟨rfl, ⟨nd, rfl⟩⟩; refine ⟨_, rfl, ?_⟩) | (go_at_call 15; (with_reducible refine (flo_Sum.calls 9218868437227405312 18442240474082181120 t105 _ A4.out).mono ?_); rintro e w' ⟨rfl, ⟨nd, rfl⟩⟩) | (go_at_call 19; (with_reducible refine (flo_Of.calls 9007199254740993 t106 _ A7.out).mono ?_); rintro e w' ⟨rfl, ⟨nd, rfl⟩⟩))
        go_ret
        exact ⟨by first | rfl | (simp; done) | (simp [*]; done), by repeat (first | exact Drawn0.refl _ | apply Drawn0.step)⟩
    · rw [if_neg c5] at H
      have c5b0 : (t105 == 9221120237041090560) = false := beq_eq_false_iff_ne.mpr c5
      have c5b1 : (t105 != 9221120237041090560) = true := bne_iff_ne.mpr c5
      obtain rfl := Option.some.inj H
      go_enter Try.func14, Try.ntmps14
      go_wp2_with (first | ((with_reducible refine gate_callee (f := 17) rfl ?_); refine goesL_ (some 4) rfl rfl Try.func17 (by kernel_rfl) rfl #[.int .u64 4602678819172646912] rfl (by (try simp only [List.map_toArray, List.map_cons, List.map_nil]); first | done | rfl | (simp only [List.length_drop, List.length_take]; rfl)) ?_; (with_reducible refine (flo_Int.calls 4602678819172646912 t102 t103 _ A1.out).mono ?_); rintro e w' ⟨rfl, ⟨nd, rfl⟩⟩; refine ⟨_, rfl, ?_⟩) | ((with_reducible refine gate_callee (f := 23) rfl ?_); refine goesL_ (some 7) rfl rfl Try.func23 (by kernel_rfl) rfl #[.int .u64 4607182418800017408] rfl (by (try simp only [List.map_toArray, List.map_cons, List.map_nil]); first | done | rfl | (simp only [List.length_drop, List.length_take]; rfl)) ?_; (with_reducible refine (flo_Order.calls 4607182418800017408 t104 _ A2.out).mono ?_); rintro e w' ⟨rfl, ⟨nd, rfl⟩⟩; refine ⟨_, rfl, ?_⟩) | (go_at_call 15; (with_reducible refine (flo_Sum.calls 9218868437227405312 18442240474082181120 t105 _ A4.out).mono ?_); rintro e w' ⟨rfl, ⟨nd, rfl⟩⟩))
      go_ret
      exact ⟨by first | rfl | (simp; done) | (simp [*]; done), by repeat (first | exact Drawn0.refl _ | apply Drawn0.step)⟩
  · rw [if_neg c3] at H
    have c3b0 : (t104 == 13830554455654793216) = false := beq_eq_false_iff_ne.mpr c3
    have c3b1 : (t104 != 13830554455654793216) = true := bne_iff_ne.mpr c3
    obtain rfl := Option.some.inj H
    go_enter Try.func14, Try.ntmps14
    go_wp2_with (first | ((with_reducible refine gate_callee (f := 17) rfl ?_); refine goesL_ (some 4) rfl rfl Try.func17 (by kernel_rfl) rfl #[.int .u64 4602678819172646912] rfl (by (try simp only [List.map_toArray, List.map_cons, List.map_nil]); first | done | rfl | (simp only [List.length_drop, List.length_take]; rfl)) ?_; (with_reducible refine (flo_Int.calls 4602678819172646912 t102 t103 _ A1.out).mono ?_); rintro e w' ⟨rfl, ⟨nd, rfl⟩⟩; refine ⟨_, rfl, ?_⟩) | ((with_reducible refine gate_callee (f := 23) rfl ?_); refine goesL_ (some 7) rfl rfl Try.func23 (by kernel_rfl) rfl #[.int .u64 4607182418800017408] rfl (by (try simp only [List.map_toArray, List.map_cons, List.map_nil]); first | done | rfl | (simp only [List.length_drop, List.length_take]; rfl)) ?_; (with_reducible refine (flo_Order.calls 4607182418800017408 t104 _ A2.out).mono ?_); rintro e w' ⟨rfl, ⟨nd, rfl⟩⟩; refine ⟨_, rfl, ?_⟩))
    go_ret
    exact ⟨by first | rfl | (simp; done) | (simp [*]; done), by repeat (first | exact Drawn0.refl _ | apply Drawn0.step)⟩

end Go.Proofs.Ytijdengicjjebaa.PA
