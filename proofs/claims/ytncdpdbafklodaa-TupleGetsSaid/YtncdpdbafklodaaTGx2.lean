/- Contracts of the Go functions of this seat: what each call returns is what a Lean function of its arguments says; each theorem bears its own conditions. Written by a program of this session (wip/tools/mkprint.py). -/
import Derived.Test.YtncdpdbafklodaaTGx0
import Derived.Test.YtncdpdbafklodaaTGx1
namespace Go.Proofs.Ytncdpdbafklodaa.PA
open Go.RowKit Go.Proofs.YtncdpdbafklodaaW.PrintWords Go.Proofs.YtncdpdbafklodaaW.PrintLast Go.Proofs.YtncdpdbafklodaaW.PrintMore
attribute [local go_sem] max2_int min2_int max_two min_two max_three min_three max_four min_four   -- for this text's walks alone
set_option linter.unusedVariables false
set_option linter.unusedSimpArgs false

attribute [local go_sem high] eqA37
attribute [local go_sem ↓ high] unary_xor_u64 ux_if_u64
attribute [local go_sem] str_gtr str_leq str_geq
-- NOT PRINTED: function 41 (math_Float64frombits)

/-! ### flo_Canon: function 36 -/
/-- How two floats stand to each other, by their bits. -/
def fcmp (x y : Int) : Option Ordering := FloatKind.f64.format.order x.toNat y.toNat
theorem run_frombits (n : Int) (w : World) : (callFunc 41 #[.int .u64 n]).run Try.prog w = .ok (.value (.float .f64 n.toNat)) w :=
  (run_callFunc_extern (e := Extern.MathFloatBits.float64frombits) Try.func41 (by kernel_rfl) (by kernel_rfl) (by kernel_rfl) (by rfl) _ w).trans rfl
def flo_Canon.f (a0 : Int) : Option (Int) := if (fcmp a0 a0 != some .eq) = true then some 9221120237041090560 else if (fcmp a0 0 == some .eq) = true then some 0 else some a0
theorem flo_Canon.calls (a0 : Int) (r : Int) (w : World) (h : flo_Canon.f a0 = some r) :
    Calls Try.prog 36 #[.int .u64 a0] w fun e w' => e = .returned (.int .u64 r) ∧ Drawn0 w w' := by
  unfold flo_Canon.f fcmp at h
  rw [show Int.toNat 0 = 0 from rfl] at h
  have hfb := run_frombits
  by_cases c1 : (FloatKind.f64.format.order a0.toNat a0.toNat != some .eq) = true
  · rw [if_pos c1] at h
    obtain rfl := Option.some.inj h
    clear h
    go_enter Try.func36, Try.ntmps36
    go_wp2
    go_ret
    exact ⟨rfl, Drawn0.refl _⟩
  · rw [if_neg c1] at h
    replace c1 := Bool.not_eq_true _ ▸ c1
    by_cases c2 : (FloatKind.f64.format.order a0.toNat 0 == some .eq) = true
    · rw [if_pos c2] at h
      obtain rfl := Option.some.inj h
      clear h
      go_enter Try.func36, Try.ntmps36
      go_wp2
      go_ret
      exact ⟨rfl, Drawn0.refl _⟩
    · rw [if_neg c2] at h
      replace c2 := Bool.not_eq_true _ ▸ c2
      obtain rfl := Option.some.inj h
      clear h
      go_enter Try.func36, Try.ntmps36
      go_wp2
      go_ret
      exact ⟨rfl, Drawn0.refl _⟩

/-! ### value_May: function 24 -/
def value_May.f (a0_0 a0_1 a0_2 : Int) (a0_3 : ByteArray) : Option (Bool) :=
  if a0_0 = 0 then some (a0_1 == 0 && (a0_2 == 0 && a0_3.toList.isEmpty))
  else if a0_0 = 1 then (if a0_1 = 0 then some (a0_2 == 0 && a0_3.toList.isEmpty) else if a0_1 = 1 then some (a0_2 == 0 && a0_3.toList.isEmpty) else some false)
  else if a0_0 = 2 then some (a0_2 == 0 && a0_3.toList.isEmpty)
  else if a0_0 = 3 then (flo_Canon.f a0_2).bind fun t => if t = a0_2 then some (a0_1 == 0 && a0_3.toList.isEmpty) else some false
  else if a0_0 = 4 then (if (a0_3.size : Int) > 40 then some false else some (a0_1 == 0 && a0_2 == 0))
  else if a0_0 = 5 then (if (a0_3.size : Int) > 40 then some false else some (a0_1 == 0 && a0_2 == 0))
  else some false
theorem may_below2 (w : World) (x y : Obj) : Below w.heap.size w ((w.alloc x).alloc y) := ((Below.refl _ _).alloc (Nat.le_refl _) _).alloc (by simp) _
attribute [local go_sem high] eqA37
set_option maxHeartbeats 2000000 in
set_option maxRecDepth 100000 in
theorem value_May.calls0 (a0_1 a0_2 : Int) (a0_3 : ByteArray) (w : World) :
    Calls Try.prog 24 #[.agg #[.int .i64 0, .int .i64 a0_1, .int .u64 a0_2, .string a0_3]] w fun e w' => e = .returned (.bool (a0_1 == 0 && (a0_2 == 0 && a0_3.toList.isEmpty))) ∧ Below w.heap.size w w' := by
  go_enter Try.func24, Try.ntmps24
  go_wp2
  go_ret
  exact ⟨rfl, may_below2 _ _ _⟩
set_option maxHeartbeats 2000000 in
set_option maxRecDepth 100000 in
theorem value_May.calls10 (a0_2 : Int) (a0_3 : ByteArray) (w : World) :
    Calls Try.prog 24 #[.agg #[.int .i64 1, .int .i64 0, .int .u64 a0_2, .string a0_3]] w fun e w' => e = .returned (.bool (a0_2 == 0 && a0_3.toList.isEmpty)) ∧ Below w.heap.size w w' := by
  go_enter Try.func24, Try.ntmps24
  go_wp2
  go_ret
  exact ⟨rfl, may_below2 _ _ _⟩
set_option maxHeartbeats 2000000 in
set_option maxRecDepth 100000 in
theorem value_May.calls11 (a0_2 : Int) (a0_3 : ByteArray) (w : World) :
    Calls Try.prog 24 #[.agg #[.int .i64 1, .int .i64 1, .int .u64 a0_2, .string a0_3]] w fun e w' => e = .returned (.bool (a0_2 == 0 && a0_3.toList.isEmpty)) ∧ Below w.heap.size w w' := by
  go_enter Try.func24, Try.ntmps24
  go_wp2
  go_ret
  exact ⟨rfl, may_below2 _ _ _⟩
set_option maxHeartbeats 2000000 in
set_option maxRecDepth 100000 in
theorem value_May.calls12 (a0_1 a0_2 : Int) (a0_3 : ByteArray) (w : World) (h0 : (a0_1 != 0) = true) (h1 : (a0_1 != 1) = true) :
    Calls Try.prog 24 #[.agg #[.int .i64 1, .int .i64 a0_1, .int .u64 a0_2, .string a0_3]] w fun e w' => e = .returned (.bool false) ∧ Below w.heap.size w w' := by
  go_enter Try.func24, Try.ntmps24
  go_wp2
  go_ret
  exact ⟨rfl, may_below2 _ _ _⟩
set_option maxHeartbeats 2000000 in
set_option maxRecDepth 100000 in
theorem value_May.calls2 (a0_1 a0_2 : Int) (a0_3 : ByteArray) (w : World) :
    Calls Try.prog 24 #[.agg #[.int .i64 2, .int .i64 a0_1, .int .u64 a0_2, .string a0_3]] w fun e w' => e = .returned (.bool (a0_2 == 0 && a0_3.toList.isEmpty)) ∧ Below w.heap.size w w' := by
  go_enter Try.func24, Try.ntmps24
  go_wp2
  go_ret
  exact ⟨rfl, may_below2 _ _ _⟩
set_option maxHeartbeats 2000000 in
set_option maxRecDepth 100000 in
theorem value_May.calls3y (a0_1 a0_2 : Int) (a0_3 : ByteArray) (w : World) (h : flo_Canon.f a0_2 = some a0_2) :
    Calls Try.prog 24 #[.agg #[.int .i64 3, .int .i64 a0_1, .int .u64 a0_2, .string a0_3]] w fun e w' => e = .returned (.bool (a0_1 == 0 && a0_3.toList.isEmpty)) ∧ Below w.heap.size w w' := by
  have H := Aside0.mk h
  clear h
  go_enter Try.func24, Try.ntmps24
  go_wp2_with fail
  go_quiet ((go_at_call 36; exact Calls.quiet_of ((flo_Canon.calls _ _ _ H.out).mono fun e w' h => ⟨h.1, h.2.out⟩)))
  go_wp2
  go_ret
  exact ⟨rfl, below_set (pw_below_drewN (may_below2 _ _ _) _) (Nat.le_succ _)⟩
set_option maxHeartbeats 2000000 in
set_option maxRecDepth 100000 in
theorem value_May.calls3n (a0_1 a0_2 t : Int) (a0_3 : ByteArray) (w : World) (h : flo_Canon.f a0_2 = some t) (hn : (t != a0_2) = true) :
    Calls Try.prog 24 #[.agg #[.int .i64 3, .int .i64 a0_1, .int .u64 a0_2, .string a0_3]] w fun e w' => e = .returned (.bool false) ∧ Below w.heap.size w w' := by
  have H := Aside0.mk h
  clear h
  go_enter Try.func24, Try.ntmps24
  go_wp2_with fail
  go_quiet ((go_at_call 36; exact Calls.quiet_of ((flo_Canon.calls _ _ _ H.out).mono fun e w' h => ⟨h.1, h.2.out⟩)))
  go_wp2
  go_ret
  exact ⟨rfl, pw_below_drewN (may_below2 _ _ _) _⟩
set_option maxHeartbeats 2000000 in
set_option maxRecDepth 100000 in
theorem value_May.calls4y (a0_1 a0_2 : Int) (a0_3 : ByteArray) (w : World) (h : decide (40 < (a0_3.size : Int)) = false) :
    Calls Try.prog 24 #[.agg #[.int .i64 4, .int .i64 a0_1, .int .u64 a0_2, .string a0_3]] w fun e w' => e = .returned (.bool (a0_1 == 0 && a0_2 == 0)) ∧ Below w.heap.size w w' := by
  go_enter Try.func24, Try.ntmps24
  go_wp2
  go_ret
  exact ⟨rfl, may_below2 _ _ _⟩
set_option maxHeartbeats 2000000 in
set_option maxRecDepth 100000 in
theorem value_May.calls4n (a0_1 a0_2 : Int) (a0_3 : ByteArray) (w : World) (h : decide (40 < (a0_3.size : Int)) = true) :
    Calls Try.prog 24 #[.agg #[.int .i64 4, .int .i64 a0_1, .int .u64 a0_2, .string a0_3]] w fun e w' => e = .returned (.bool false) ∧ Below w.heap.size w w' := by
  go_enter Try.func24, Try.ntmps24
  go_wp2
  go_ret
  exact ⟨rfl, may_below2 _ _ _⟩
set_option maxHeartbeats 2000000 in
set_option maxRecDepth 100000 in
theorem value_May.calls5y (a0_1 a0_2 : Int) (a0_3 : ByteArray) (w : World) (h : decide (40 < (a0_3.size : Int)) = false) :
    Calls Try.prog 24 #[.agg #[.int .i64 5, .int .i64 a0_1, .int .u64 a0_2, .string a0_3]] w fun e w' => e = .returned (.bool (a0_1 == 0 && a0_2 == 0)) ∧ Below w.heap.size w w' := by
  go_enter Try.func24, Try.ntmps24
  go_wp2
  go_ret
  exact ⟨rfl, may_below2 _ _ _⟩
set_option maxHeartbeats 2000000 in
set_option maxRecDepth 100000 in
theorem value_May.calls5n (a0_1 a0_2 : Int) (a0_3 : ByteArray) (w : World) (h : decide (40 < (a0_3.size : Int)) = true) :
    Calls Try.prog 24 #[.agg #[.int .i64 5, .int .i64 a0_1, .int .u64 a0_2, .string a0_3]] w fun e w' => e = .returned (.bool false) ∧ Below w.heap.size w w' := by
  go_enter Try.func24, Try.ntmps24
  go_wp2
  go_ret
  exact ⟨rfl, may_below2 _ _ _⟩
set_option maxHeartbeats 2000000 in
set_option maxRecDepth 100000 in
theorem value_May.calls6 (a0_0 a0_1 a0_2 : Int) (a0_3 : ByteArray) (w : World) (h0 : (a0_0 == 0) = false) (h1 : (a0_0 == 1) = false) (h2 : (a0_0 == 2) = false) (h3 : (a0_0 == 3) = false) (h4 : (a0_0 == 4) = false) (h5 : (a0_0 == 5) = false) :
    Calls Try.prog 24 #[.agg #[.int .i64 a0_0, .int .i64 a0_1, .int .u64 a0_2, .string a0_3]] w fun e w' => e = .returned (.bool false) ∧ Below w.heap.size w w' := by
  go_enter Try.func24, Try.ntmps24
  go_wp2
  go_ret
  exact ⟨rfl, may_below2 _ _ _⟩
theorem value_May.calls (a0_0 a0_1 a0_2 : Int) (a0_3 : ByteArray) (r : Bool) (w : World) (h : value_May.f a0_0 a0_1 a0_2 a0_3 = some r) :
    Calls Try.prog 24 #[.agg #[.int .i64 a0_0, .int .i64 a0_1, .int .u64 a0_2, .string a0_3]] w fun e w' => e = .returned (.bool r) ∧ Below w.heap.size w w' := by
  unfold value_May.f at h
  by_cases c0 : a0_0 = 0
  · rw [if_pos c0] at h; obtain rfl := Option.some.inj h; subst c0; exact value_May.calls0 _ _ _ _
  rw [if_neg c0] at h
  by_cases c1 : a0_0 = 1
  · rw [if_pos c1] at h; subst c1
    by_cases d0 : a0_1 = 0
    · rw [if_pos d0] at h; obtain rfl := Option.some.inj h; subst d0; exact value_May.calls10 _ _ _
    rw [if_neg d0] at h
    by_cases d1 : a0_1 = 1
    · rw [if_pos d1] at h; obtain rfl := Option.some.inj h; subst d1; exact value_May.calls11 _ _ _
    rw [if_neg d1] at h; obtain rfl := Option.some.inj h
    exact value_May.calls12 _ _ _ _ (bne_iff_ne.mpr d0) (bne_iff_ne.mpr d1)
  rw [if_neg c1] at h
  by_cases c2 : a0_0 = 2
  · rw [if_pos c2] at h; obtain rfl := Option.some.inj h; subst c2; exact value_May.calls2 _ _ _ _
  rw [if_neg c2] at h
  by_cases c3 : a0_0 = 3
  · rw [if_pos c3] at h; subst c3
    cases ht : flo_Canon.f a0_2 with
    | none => rw [ht] at h; cases h
    | some t =>
      rw [ht, Option.bind_some] at h
      by_cases d : t = a0_2
      · rw [if_pos d] at h; obtain rfl := Option.some.inj h; rw [d] at ht; exact value_May.calls3y _ _ _ _ ht
      · rw [if_neg d] at h; obtain rfl := Option.some.inj h; exact value_May.calls3n _ _ _ _ _ ht (bne_iff_ne.mpr d)
  rw [if_neg c3] at h
  by_cases c4 : a0_0 = 4
  · rw [if_pos c4] at h; subst c4
    by_cases d : (a0_3.size : Int) > 40
    · rw [if_pos d] at h; obtain rfl := Option.some.inj h; exact value_May.calls4n _ _ _ _ (decide_eq_true d)
    · rw [if_neg d] at h; obtain rfl := Option.some.inj h; exact value_May.calls4y _ _ _ _ (decide_eq_false d)
  rw [if_neg c4] at h
  by_cases c5 : a0_0 = 5
  · rw [if_pos c5] at h; subst c5
    by_cases d : (a0_3.size : Int) > 40
    · rw [if_pos d] at h; obtain rfl := Option.some.inj h; exact value_May.calls5n _ _ _ _ (decide_eq_true d)
    · rw [if_neg d] at h; obtain rfl := Option.some.inj h; exact value_May.calls5y _ _ _ _ (decide_eq_false d)
  rw [if_neg c5] at h
  obtain rfl := Option.some.inj h
  exact value_May.calls6 _ _ _ _ _ (beq_eq_false_iff_ne.mpr c0) (beq_eq_false_iff_ne.mpr c1) (beq_eq_false_iff_ne.mpr c2) (beq_eq_false_iff_ne.mpr c3) (beq_eq_false_iff_ne.mpr c4) (beq_eq_false_iff_ne.mpr c5)

/-! ### value_eight: function 25 -/
def value_eight.l0 : Nat → Int → List Int → Int → Int → Option (List Int)
  | 0, _, _, _, _ => none
  | k + 1, x0, x3, x7, x8 => if x8 < x7 then (if 0 ≤ (wrap64 (8 * (wrap64 (7 - x8)))) then (if 0 ≤ x8 then (if x8 < (x3.length : Int) then (value_eight.l0 k x0 (x3.set (x8 : Int).toNat ((shr .u64 x0 (wrap64 (8 * (wrap64 (7 - x8))))) % 256)) x7 (wrap64 (x8 + 1))) else (none)) else (none)) else (none)) else (some x3)
def value_eight.f (k : Nat) (a0 : Int) : Option (List Int) := if 8 ≤ 281474976710656 then ((some (List.replicate 8 0 : List Int)).bind fun y101 => (value_eight.l0 k a0 y101 (y101.length : Int) 0)) else (none)
theorem value_eight.mono_l : ∀ k, (∀ y0 y1 y2 y3, LeO (value_eight.l0 k y0 y1 y2 y3) (value_eight.l0 (k + 1) y0 y1 y2 y3))
  | 0 => fun _ _ _ _ r h => by simp [value_eight.l0] at h
  | k + 1 => by
    have ih0 := value_eight.mono_l k
    · intro y0 y1 y2 y3
      unfold value_eight.l0
      repeat' first
      | (with_reducible exact ih0 _ _ _ _)
      | (with_reducible exact LeO.refl _)
      | (with_reducible exact LeO.none _)
      | (with_reducible refine LeO.ite ?_ ?_)
      | (with_reducible refine LeO.bind ?_ (fun _ => ?_))
      | exact ih0 _ _ _ _
      | exact LeO.none _
      | refine LeO.ite ?_ ?_
      | refine LeO.bind ?_ (fun _ => ?_)
theorem value_eight.mono : ∀ a0 k, LeO (value_eight.f k a0) (value_eight.f (k + 1) a0) := by
  intro a0 k
  have ih0 := value_eight.mono_l k
  unfold value_eight.f
  repeat' first
      | (with_reducible exact ih0 _ _ _ _)
      | (with_reducible exact LeO.refl _)
      | (with_reducible exact LeO.none _)
      | (with_reducible refine LeO.ite ?_ ?_)
      | (with_reducible refine LeO.bind ?_ (fun _ => ?_))
      | exact ih0 _ _ _ _
      | exact LeO.none _
      | refine LeO.ite ?_ ?_
      | refine LeO.bind ?_ (fun _ => ?_)
set_option maxHeartbeats 8000000 in
set_option maxRecDepth 100000 in
theorem value_eight.calls (k : Nat) (a0 : Int) (r : List Int) (w : World) (h : value_eight.f k a0 = some r) :
    Calls Try.prog 25 #[.int .u64 a0] w fun e w' => ∃ v0_ : Value, e = .returned (v0_) ∧ Kd.R (Kd.int .u8) 5 w' w.heap.size (fun _ => True) v0_ r ∧ Below w.heap.size w w' := by
  have HB := Aside0.mk (Below.refl w.heap.size w)
  have H : (if 8 ≤ 281474976710656 then ((some (List.replicate 8 0 : List Int)).bind fun y101 => (value_eight.l0 k a0 y101 (y101.length : Int) 0)) else (none)) = some r := h
  clear h
  by_cases c2 : 8 ≤ 281474976710656
  · rw [if_pos c2] at H
    have c2b0 := eq_true c2
    have c2b1 : decide (8 ≤ 281474976710656) = true := decide_eq_true c2
    clear c2
    obtain ⟨y101, hy101⟩ : ∃ y_ : List Int, y_ = (List.replicate 8 0) := ⟨_, rfl⟩
    replace H : (value_eight.l0 k a0 y101 (y101.length : Int) 0) = some r := by first | (rw [hy101]; with_reducible exact H) | (have H2_ := (Option.bind_some _ _).symm.trans H; rw [hy101]; with_reducible exact H2_) | (have H2_ := (Option.bind_some _ _).symm.trans H; with_reducible exact H2_) | with_reducible exact H | (rw [hy101]; exact H) | exact H
    have Ny101 := Aside0.mk hy101
    clear hy101
    have H' := Aside0.mk H
    clear H
    go_enter Try.func25, Try.ntmps25
    go_wp2_with (first | ((with_reducible refine gate_dst (N := 5) rfl ?_); refine Kd.R_make (Kd.int .u8) _ 5 rfl (N := 5) rfl 45 _ _ rfl 8 rfl rfl Try.underlying45 (.int .u8 0) 1 info5 rfl (by decide) (by omega) 0 (ok := fun _ => True) (okp := fun _ => True) rfl (fun _ hk => hk) trivial (by omega) (by omega) (Below.refl _ _) (Nat.le_refl _) ?_; intro v102 w3 ho4 hb hg_ hnew_; clear hg_ hnew_; (first | rw [← Ny101.out] at ho4 | (simp only [Int.reduceToNat] at ho4; rw [← Ny101.out] at ho4)); have n0_ := Aside0.mk (Kd.R_lower ho4 (below_size (by repeat (first | (with_reducible first | exact HB.out | apply below_alloc | apply pw_below_drewN | apply below_drew1) | exact HB.out)))); have n1_ := Aside0.mk (below_step (by repeat (first | (with_reducible first | exact HB.out | apply below_alloc | apply pw_below_drewN | apply below_drew1) | exact HB.out)) hb); clear HB; have HO103 := n0_; have HB := n1_; clear n0_ n1_; clear hb ho4; obtain ⟨Ao5, co5, eo5⟩ := Kd.R_slice HO103.out; subst eo5))
    go_loopg [8] k (fun kq v8 w' => ∃ (x3_1 : List Int) (x8_1 : Int), v8 = .int .i64 x8_1 ∧ Aside0 (value_eight.l0 kq a0 x3_1 (y101.length : Int) x8_1 = some r) ∧ Aside0 (kq ≤ k) ∧ Aside0 (Kd.R (Kd.int .u8) 5 w' w.heap.size (fun _ => True) (.slice Ao5 y101.length co5) x3_1) ∧ Aside0 (Below w.heap.size w w'))
    case atStart => exact ⟨(y101), (0), (by first | rfl | (simp; done) | (simp [*]; done)), H', ⟨Nat.le_refl _⟩, ⟨by (with_reducible repeat (first | apply Kd.R_alloc | apply Kd.R_drewN | apply Kd.R_drew)); exact HO103.out⟩, ⟨by repeat (first | (with_reducible first | exact HB.out | apply below_alloc | apply pw_below_drewN | apply below_drew1) | exact HB.out)⟩⟩
    case round =>
      clear H'
      try clear c2
      try clear c2b0
      try clear c2b1
      try clear p2
      obtain ⟨x3_1, x8_1, rfl, HA, HK1, HO_3, HB⟩ := hrel
      have hl3_1 := (Kd.R_reads' HO_3.out).1
      rw [hl3_1] at HO_3
      (try simp only [hl3_1])
      cases gk with
      | zero => exact absurd HA.out (by simp [value_eight.l0])
      | succ k1 =>
        have H := HA.out
        clear HA
        simp only [value_eight.l0] at H
        by_cases c6 : x8_1 < (y101.length : Int)
        · rw [if_pos c6] at H
          have c6b0 : decide (x8_1 < (y101.length : Int)) = true := decide_eq_true c6
          clear c6
          (try (have c6b0z := c6b0; simp only [hl3_1] at c6b0z))
          obtain ⟨ji7, hji7⟩ : ∃ j_ : Int, (wrap64 (8 * (wrap64 (7 - x8_1)))) = j_ := ⟨_, rfl⟩
          replace H : (if 0 ≤ (ji7) then (if 0 ≤ x8_1 then (if x8_1 < (x3_1.length : Int) then (value_eight.l0 k1 a0 (x3_1.set (x8_1 : Int).toNat ((shr .u64 a0 (ji7)) % 256)) (y101.length : Int) (wrap64 (x8_1 + 1))) else (none)) else (none)) else (none)) = some r := by first | (rw [hji7] at H; exact H) | (simp only [hji7] at H ⊢; exact H)
          have hji7w : (IntKind.i64.wrap (8 * (wrap64 (7 - x8_1)))) = ji7 := (i64_w _).trans hji7
          by_cases c8 : 0 ≤ (ji7)
          · rw [if_pos c8] at H
            have c8b0 := eq_true c8
            have c8b1 : decide (0 ≤ (ji7)) = true := decide_eq_true c8
            clear c8
            obtain ⟨ji9, hji9⟩ : ∃ j_ : Int, (shr .u64 a0 (ji7)) = j_ := ⟨_, rfl⟩
            replace H : (if 0 ≤ x8_1 then (if x8_1 < (x3_1.length : Int) then (value_eight.l0 k1 a0 (x3_1.set (x8_1 : Int).toNat ((ji9) % 256)) (y101.length : Int) (wrap64 (x8_1 + 1))) else (none)) else (none)) = some r := by first | (rw [hji9] at H; exact H) | (simp only [hji9] at H ⊢; exact H)
            have hji9_ : (a0 / 2 ^ min (ji7).toNat 64) = ji9 := hji9
            have hji9z : (ji7) ≤ 64 → (a0 / 2 ^ (ji7).toNat) = ji9 := shr_small hji9
            by_cases c10 : 0 ≤ x8_1
            · rw [if_pos c10] at H
              have c10b0 : decide (0 ≤ x8_1) = true := decide_eq_true c10
              clear c10
              (try (have c10b0z := c10b0; simp only [hl3_1] at c10b0z))
              by_cases c11 : x8_1 < (x3_1.length : Int)
              · rw [if_pos c11] at H
                have c11b0 : decide (x8_1 < (x3_1.length : Int)) = true := decide_eq_true c11
                clear c11
                (try (have c11b0z := c11b0; simp only [hl3_1] at c11b0z))
                obtain ⟨y104, hy104⟩ : ∃ y_ : List Int, y_ = (x3_1.set (x8_1 : Int).toNat ((ji9) % 256)) := ⟨_, rfl⟩
                replace H : (value_eight.l0 k1 a0 y104 (y101.length : Int) (wrap64 (x8_1 + 1))) = some r := by first | (rw [hy104]; with_reducible exact H) | (have H2_ := (Option.bind_some _ _).symm.trans H; rw [hy104]; with_reducible exact H2_) | (have H2_ := (Option.bind_some _ _).symm.trans H; with_reducible exact H2_) | with_reducible exact H | (rw [hy104]; exact H) | exact H
                have Ny104 := Aside0.mk hy104
                clear hy104
                have H' := Aside0.mk H
                clear H
                have p12 : 0 ≤ (x8_1 : Int) := of_decide_eq_true (by first | (with_reducible assumption) | assumption)
                have q12 : (x8_1 : Int) < ((x3_1.length : Int) : Int) := of_decide_eq_true (by first | (with_reducible assumption) | assumption)
                obtain ⟨go12, co12, eo12, gb12, gl12, cl12, HG12⟩ := Kd.R_form HO_3.out (by omega)
                (first | cases eo12 | (injection eo12 with ea_ en_ ec_; (first | subst ea_ | (injection ea_ with ea_; subst ea_)); subst ec_; clear en_))
                have GB12 := Aside0.mk gb12
                have GG12 := Aside0.mk HG12
                clear gb12 gl12 HG12
                obtain ⟨hx12_0, hf12_0⟩ := Kd.R_celln 0 HO_3.out (x8_1 : Int) p12 q12
                replace p12 := eq_true p12
                replace q12 := eq_true q12
                have HP13 := Kd.R_putg HO_3.out (x8_1 : Int) ((ji9) % 256)
                go_wp2_with (first | ((with_reducible refine gate_store (t := 5) (p := 19) rfl ?_); refine store_event (t := 5) (p := 19) (v := ?vo_w14) (w1 := (wr.setCell ⟨go12, (x8_1 : Int).toNat, none⟩ (.int .u8 ((ji9) % 256)))) ?hg ?ho ?hn ?hr ?_; (case ho => rfl); (case hg => rfl); (case hn => rfl); (case hr => first | (go_simp; done) | (go_simp; rfl)); intro w14 hw; have hg : wr.grownBy w14 (some go12) := (by rw [hw]; exact HP13.2); have hp_ : Kd.R (Kd.int .u8) 5 w14 w.heap.size (fun _ => True) (.slice (some ⟨go12, 0, none⟩) x3_1.length co5) y104 := (by rw [hw, Ny104.out]; exact HP13.1); clear HP13; have n0_ := Aside0.mk (hp_); have n1_ := Aside0.mk ((by rw [hw]; exact below_set (HB.out) GB12.out : Below w.heap.size w w14)); clear HO_3; clear HB; have HO_3 := n0_; have HB := n1_; clear n0_ n1_; clear hg hw hp_))
                (try simp only [← hl3_1])
                go_roundg k1
                case measure => have := HK1.out; omega
                case rel => exact ⟨(y104), (wrap64 (x8_1 + 1)), (by first | rfl | (simp; done) | (simp [*]; done)), H', ⟨by have := HK1.out; omega⟩, ⟨by (try simp only [hl3_1]); (with_reducible repeat (first | apply Kd.R_alloc | apply Kd.R_drewN | apply Kd.R_drew)); exact HO_3.out⟩, ⟨by repeat (first | (with_reducible first | exact HB.out | apply below_alloc | apply pw_below_drewN | apply below_drew1) | exact HB.out)⟩⟩
              · rw [if_neg c11] at H
                exact absurd H (by simp)
            · rw [if_neg c10] at H
              exact absurd H (by simp)
          · rw [if_neg c8] at H
            exact absurd H (by simp)
        · rw [if_neg c6] at H
          have c6b0 : decide (x8_1 < (y101.length : Int)) = false := decide_eq_false c6
          clear c6
          (try (have c6b0z := c6b0; simp only [hl3_1] at c6b0z))
          obtain rfl := Option.some.inj H
          go_wp2
          go_ret
          exact ⟨_, by first | rfl | (simp [errW_none, errW_some] <;> rfl) | (simp [*, errW_none, errW_some] <;> rfl), by (with_reducible repeat (first | apply Kd.R_alloc | apply Kd.R_drewN | apply Kd.R_drew)); exact HO_3.out, by repeat (first | (with_reducible first | exact HB.out | apply below_alloc | apply pw_below_drewN | apply below_drew1) | exact HB.out)⟩
  · rw [if_neg c2] at H
    exact absurd H (by simp)

/-! ### flo_Order: function 26 -/
def flo_Order.f (a0 : Int) : Option (Int) := (flo_Canon.f a0).bind fun t105 => (if (Go.bits .and .u64 t105 9223372036854775808) = 0 then (some (Go.bits .or .u64 t105 9223372036854775808)) else (some (Go.bits .xor .u64 18446744073709551615 t105)))
set_option maxHeartbeats 8000000 in
set_option maxRecDepth 100000 in
theorem flo_Order.calls (a0 : Int) (r : Int) (w : World) (h : flo_Order.f a0 = some r) :
    Calls Try.prog 26 #[.int .u64 a0] w fun e w' => e = .returned (.int .u64 r) ∧ Drawn0 w w' := by
  have H : ((flo_Canon.f a0).bind fun t105 => (if (Go.bits .and .u64 t105 9223372036854775808) = 0 then (some (Go.bits .or .u64 t105 9223372036854775808)) else (some (Go.bits .xor .u64 18446744073709551615 t105)))) = some r := h
  clear h
  replace H := Option.bind_eq_some_iff.mp H
  obtain ⟨t105, A20, H⟩ := H
  replace H : (if (Go.bits .and .u64 t105 9223372036854775808) = 0 then (some (Go.bits .or .u64 t105 9223372036854775808)) else (some (Go.bits .xor .u64 18446744073709551615 t105))) = some r := H
  have A2 := Aside0.mk A20
  clear A20
  by_cases c3 : (Go.bits .and .u64 t105 9223372036854775808) = 0
  · rw [if_pos c3] at H
    have c3b0 : ((Go.bits .and .u64 t105 9223372036854775808) == 0) = true := beq_iff_eq.mpr c3
    have c3b1 : ((Go.bits .and .u64 t105 9223372036854775808) != 0) = false := bne_eq_false_iff_eq.mpr c3
    clear c3
    obtain rfl := Option.some.inj H
    go_enter Try.func26, Try.ntmps26
    go_wp2_with (first | ((with_reducible refine gate_callee (f := 36) rfl ?_); refine goesL_ (some 4) rfl rfl Try.func36 (by kernel_rfl) rfl #[.int .u64 a0] rfl (by (try simp only [List.map_toArray, List.map_cons, List.map_nil]); first | done | rfl | (simp only [List.length_drop, List.length_take]; rfl)) ?_; (with_reducible refine (flo_Canon.calls a0 t105 _ A2.out).mono ?_); rintro e w' ⟨rfl, ⟨nd, rfl⟩⟩; refine ⟨_, rfl, ?_⟩))
    go_ret
    exact ⟨by first | rfl | (simp; done) | (simp [*]; done), by repeat (first | exact Drawn0.refl _ | apply Drawn0.step)⟩
  · rw [if_neg c3] at H
    have c3b0 : ((Go.bits .and .u64 t105 9223372036854775808) == 0) = false := beq_eq_false_iff_ne.mpr c3
    have c3b1 : ((Go.bits .and .u64 t105 9223372036854775808) != 0) = true := bne_iff_ne.mpr c3
    obtain rfl := Option.some.inj H
    go_enter Try.func26, Try.ntmps26
    go_wp2_with (first | ((with_reducible refine gate_callee (f := 36) rfl ?_); refine goesL_ (some 4) rfl rfl Try.func36 (by kernel_rfl) rfl #[.int .u64 a0] rfl (by (try simp only [List.map_toArray, List.map_cons, List.map_nil]); first | done | rfl | (simp only [List.length_drop, List.length_take]; rfl)) ?_; (with_reducible refine (flo_Canon.calls a0 t105 _ A2.out).mono ?_); rintro e w' ⟨rfl, ⟨nd, rfl⟩⟩; refine ⟨_, rfl, ?_⟩))
    go_ret
    exact ⟨by first | rfl | (simp; done) | (simp [*]; done), by repeat (first | exact Drawn0.refl _ | apply Drawn0.step)⟩

end Go.Proofs.Ytncdpdbafklodaa.PA
