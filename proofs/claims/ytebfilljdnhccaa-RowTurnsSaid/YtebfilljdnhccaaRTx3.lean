/- Contracts of the Go functions of this seat: what each call returns is what a Lean function of its arguments says; each theorem bears its own conditions. Written by a program of this session (wip/tools/mkprint.py). -/
import Derived.Test.YtebfilljdnhccaaRTx0
import Derived.Test.YtebfilljdnhccaaRTx1
namespace Go.Proofs.Ytebfilljdnhccaa.PA
open Go.RowKit Go.Proofs.YtebfilljdnhccaaW.PrintWords Go.Proofs.YtebfilljdnhccaaW.PrintLast Go.Proofs.YtebfilljdnhccaaW.PrintMore
attribute [local go_sem] max2_int min2_int max_two min_two max_three min_three max_four min_four   -- for this text's walks alone
set_option linter.unusedVariables false
set_option linter.unusedSimpArgs false

attribute [local go_sem high] eqA44
attribute [local go_sem ↓ high] unary_xor_u64 ux_if_u64
attribute [local go_sem] str_gtr str_leq str_geq
/-! ### falseworklaw4_long: function 9 -/
mutual
def falseworklaw4_long.l0 : Nat → List (S46) → Int → Option (Bool)
  | 0, _, _ => none
  | k + 1, x0, x3 => if x3 < (x0.length : Int) then (falseworklaw4_long.j1 k x0 x3 (decide (x3 < 500))) else (falseworklaw4_long.j1 k x0 x3 false)
def falseworklaw4_long.j1 : Nat → List (S46) → Int → Bool → Option (Bool)
  | 0, _, _, _ => none
  | k + 1, x0, x3, x11 => if x11 = true then (if 0 ≤ x3 then (if x3 < (x0.length : Int) then (if (((rd_T46 x0 x3).f1.f3).size : Int) > 1000 then (some true) else (falseworklaw4_long.l0 k x0 (wrap64 (x3 + 1)))) else (none)) else (none)) else (some (decide ((x0.length : Int) > 500)))
end
def falseworklaw4_long.f (k : Nat) (l0 : List (S46)) : Option (Bool) := falseworklaw4_long.l0 k l0 0
theorem falseworklaw4_long.mono_l : ∀ k, (∀ y0 y1, LeO (falseworklaw4_long.l0 k y0 y1) (falseworklaw4_long.l0 (k + 1) y0 y1)) ∧ (∀ y0 y1 y2, LeO (falseworklaw4_long.j1 k y0 y1 y2) (falseworklaw4_long.j1 (k + 1) y0 y1 y2))
  | 0 => ⟨fun _ _ r h => by simp [falseworklaw4_long.l0] at h, fun _ _ _ r h => by simp [falseworklaw4_long.j1] at h⟩
  | k + 1 => by
    obtain ⟨ih0, ih1⟩ := falseworklaw4_long.mono_l k
    refine ⟨?_, ?_⟩
    · intro y0 y1
      unfold falseworklaw4_long.l0
      repeat' first
      | (with_reducible exact ih0 _ _)
      | (with_reducible exact ih1 _ _ _)
      | (with_reducible exact LeO.refl _)
      | (with_reducible exact LeO.none _)
      | (with_reducible refine LeO.ite ?_ ?_)
      | (with_reducible refine LeO.bind ?_ (fun _ => ?_))
      | exact ih0 _ _
      | exact ih1 _ _ _
      | exact LeO.none _
      | refine LeO.ite ?_ ?_
      | refine LeO.bind ?_ (fun _ => ?_)
    · intro y0 y1 y2
      unfold falseworklaw4_long.j1
      repeat' first
      | (with_reducible exact ih0 _ _)
      | (with_reducible exact ih1 _ _ _)
      | (with_reducible exact LeO.refl _)
      | (with_reducible exact LeO.none _)
      | (with_reducible refine LeO.ite ?_ ?_)
      | (with_reducible refine LeO.bind ?_ (fun _ => ?_))
      | exact ih0 _ _
      | exact ih1 _ _ _
      | exact LeO.none _
      | refine LeO.ite ?_ ?_
      | refine LeO.bind ?_ (fun _ => ?_)
theorem falseworklaw4_long.mono : ∀ a0 k, LeO (falseworklaw4_long.f k a0) (falseworklaw4_long.f (k + 1) a0) := by
  intro a0 k
  obtain ⟨ih0, ih1⟩ := falseworklaw4_long.mono_l k
  unfold falseworklaw4_long.f
  repeat' first
      | (with_reducible exact ih0 _ _)
      | (with_reducible exact ih1 _ _ _)
      | (with_reducible exact LeO.refl _)
      | (with_reducible exact LeO.none _)
      | (with_reducible refine LeO.ite ?_ ?_)
      | (with_reducible refine LeO.bind ?_ (fun _ => ?_))
      | exact ih0 _ _
      | exact ih1 _ _ _
      | exact LeO.none _
      | refine LeO.ite ?_ ?_
      | refine LeO.bind ?_ (fun _ => ?_)
set_option maxHeartbeats 8000000 in
set_option maxRecDepth 100000 in
theorem falseworklaw4_long.calls (k : Nat) (A0 : Option Addr) (c0 : Nat) (l0 : List (S46)) (r : Bool) (w : World) (hr0 : Kd.C k46 w A0 l0.length l0) (hc0 : l0.length ≤ c0) (h : falseworklaw4_long.f k l0 = some r) :
    Calls Try.prog 9 #[.slice A0 l0.length c0] w fun e w' => e = .returned (.bool r) ∧ Drawn0 w w' := by
  have HR0 := Aside0.mk hr0
  have HC0 := Aside0.mk hc0
  clear hr0 hc0
  have H : (falseworklaw4_long.l0 k l0 0) = some r := h
  clear h
  have H' := Aside0.mk H
  clear H
  go_enter Try.func9, Try.ntmps9
  go_wp2
  go_loopg [3] k (fun kq v3 w' => ∃ (x3_1 : Int), v3 = .int .i64 x3_1 ∧ Aside0 (falseworklaw4_long.l0 kq l0 x3_1 = some r) ∧ Aside0 (kq ≤ k) ∧ Drawn0 w w')
  case atStart => exact ⟨(0), (by first | rfl | (simp; done) | (simp [*]; done)), H', ⟨Nat.le_refl _⟩, by repeat (first | exact Drawn0.refl _ | apply Drawn0.step)⟩
  case round =>
    clear H'
    obtain ⟨x3_1, rfl, HA, HK1, ⟨m1, rfl⟩⟩ := hrel
    cases gk with
    | zero => exact absurd HA.out (by simp [falseworklaw4_long.l0])
    | succ k1 =>
      have H := HA.out
      clear HA
      simp only [falseworklaw4_long.l0] at H
      have HC2 := Aside0.mk H
      clear H
      go_upto_region 2 with (fail)
      go_cut [11] (fun v11 wc => ∃ (kq : Nat) (x11_1 : Bool), v11 = .bool x11_1 ∧ Aside0 (falseworklaw4_long.j1 kq l0 x3_1 x11_1 = some r) ∧ Aside0 (kq ≤ k1) ∧ Drawn0 w wc)
      case first =>
        have H := HC2.out
        clear HC2
        by_cases c3 : x3_1 < (l0.length : Int)
        · rw [if_pos c3] at H
          have c3b0 : decide (x3_1 < (l0.length : Int)) = true := decide_eq_true c3
          clear c3
          (first | rw [c3b0] | (simp only [i64_w, i32_w]; rw [c3b0]) | skip)
          have H' := Aside0.mk H
          clear H
          go_wp2
          go_meet
          case rel => exact ⟨_, (decide (x3_1 < 500)), (by first | rfl | (simp; done) | (simp [*]; done)), H', ⟨by have := HK1.out; first | omega | exact Nat.le_refl _⟩, by repeat (first | exact Drawn0.refl _ | apply Drawn0.step)⟩
        · rw [if_neg c3] at H
          have c3b0 : decide (x3_1 < (l0.length : Int)) = false := decide_eq_false c3
          clear c3
          (first | rw [c3b0] | (simp only [i64_w, i32_w]; rw [c3b0]) | skip)
          have H' := Aside0.mk H
          clear H
          go_wp2
          go_meet
          case rel => exact ⟨_, (false), (by first | rfl | (simp; done) | (simp [*]; done)), H', ⟨by have := HK1.out; first | omega | exact Nat.le_refl _⟩, by repeat (first | exact Drawn0.refl _ | apply Drawn0.step)⟩
      case rest =>
        clear HC2
        try clear p2
        try clear c3
        try clear c3b0
        obtain ⟨kq, x11_1, rfl, HA, HJ1, ⟨mc1, rfl⟩⟩ := hcut
        cases kq with
        | zero => exact absurd HA.out (by simp [falseworklaw4_long.j1])
        | succ kj1 =>
          have H := HA.out
          clear HA
          simp only [falseworklaw4_long.j1] at H
          by_cases c4 : x11_1 = true
          · subst c4
            have H1 : (if 0 ≤ x3_1 then (if x3_1 < (l0.length : Int) then (if (((rd_T46 l0 x3_1).f1.f3).size : Int) > 1000 then (some true) else (falseworklaw4_long.l0 kj1 l0 (wrap64 (x3_1 + 1)))) else (none)) else (none)) = some r := by rw [if_pos rfl] at H; exact H
            clear H
            have H := H1
            clear H1
            by_cases c5 : 0 ≤ x3_1
            · rw [if_pos c5] at H
              have c5b0 : decide (0 ≤ x3_1) = true := decide_eq_true c5
              clear c5
              by_cases c6 : x3_1 < (l0.length : Int)
              · rw [if_pos c6] at H
                have c6b0 : decide (x3_1 < (l0.length : Int)) = true := decide_eq_true c6
                clear c6
                by_cases c7 : (((rd_T46 l0 x3_1).f1.f3).size : Int) > 1000
                · rw [if_pos c7] at H
                  have c7b0 : decide (1000 < (((rd_T46 l0 x3_1).f1.f3).size : Int)) = true := decide_eq_true c7
                  have c7b1 : decide (1000 < ((rd_T46 l0 x3_1).f1.f3).size) = true := decide_eq_true (by omega)
                  clear c7
                  obtain rfl := Option.some.inj H
                  have p101 : 0 ≤ (x3_1 : Int) := of_decide_eq_true (by first | (with_reducible assumption) | assumption)
                  have q101 : x3_1 < (l0.length : Int) := of_decide_eq_true (by first | (with_reducible assumption) | assumption)
                  obtain ⟨ad101, e101, hx101_0, hx101_1, hx101_2, hx101_3, hx101_4⟩ := at_T46 HR0.out x3_1 p101 q101
                  cases e101
                  replace p101 := eq_true p101
                  replace q101 := eq_true q101
                  go_wp2
                  go_ret
                  exact ⟨by first | rfl | (simp; done) | (simp [*]; done), by repeat (first | exact Drawn0.refl _ | apply Drawn0.step)⟩
                · rw [if_neg c7] at H
                  have c7b0 : decide (1000 < (((rd_T46 l0 x3_1).f1.f3).size : Int)) = false := decide_eq_false c7
                  have c7b1 : decide (1000 < ((rd_T46 l0 x3_1).f1.f3).size) = false := decide_eq_false (by omega)
                  clear c7
                  have H' := Aside0.mk H
                  clear H
                  have p101 : 0 ≤ (x3_1 : Int) := of_decide_eq_true (by first | (with_reducible assumption) | assumption)
                  have q101 : x3_1 < (l0.length : Int) := of_decide_eq_true (by first | (with_reducible assumption) | assumption)
                  obtain ⟨ad101, e101, hx101_0, hx101_1, hx101_2, hx101_3, hx101_4⟩ := at_T46 HR0.out x3_1 p101 q101
                  cases e101
                  replace p101 := eq_true p101
                  replace q101 := eq_true q101
                  go_wp2
                  go_roundg kj1
                  case measure => have := HK1.out; have := HJ1.out; omega
                  case rel => exact ⟨(wrap64 (x3_1 + 1)), (by first | rfl | (simp; done) | (simp [*]; done)), H', ⟨by have := HK1.out; have := HJ1.out; omega⟩, by repeat (first | exact Drawn0.refl _ | apply Drawn0.step)⟩
              · rw [if_neg c6] at H
                exact absurd H (by simp)
            · rw [if_neg c5] at H
              exact absurd H (by simp)
          · replace c4 := Bool.eq_false_iff.mpr c4
            subst c4
            have H1 : (some (decide ((l0.length : Int) > 500))) = some r := by rw [if_neg (show ¬ (false = true) by decide)] at H; exact H
            clear H
            have H := H1
            clear H1
            obtain rfl := Option.some.inj H
            go_wp2
            go_ret
            exact ⟨by first | rfl | (simp; done) | (simp [*]; done), by repeat (first | exact Drawn0.refl _ | apply Drawn0.step)⟩

-- NOT PRINTED: function 54 (math_Float64frombits)

/-! ### flo_Canon: function 51 -/
/-- How two floats stand to each other, by their bits. -/
def fcmp (x y : Int) : Option Ordering := FloatKind.f64.format.order x.toNat y.toNat
theorem run_frombits (n : Int) (w : World) : (callFunc 54 #[.int .u64 n]).run Try.prog w = .ok (.value (.float .f64 n.toNat)) w :=
  (run_callFunc_extern (e := Extern.MathFloatBits.float64frombits) Try.func54 (by kernel_rfl) (by kernel_rfl) (by kernel_rfl) (by rfl) _ w).trans rfl
def flo_Canon.f (a0 : Int) : Option (Int) := if (fcmp a0 a0 != some .eq) = true then some 9221120237041090560 else if (fcmp a0 0 == some .eq) = true then some 0 else some a0
theorem flo_Canon.calls (a0 : Int) (r : Int) (w : World) (h : flo_Canon.f a0 = some r) :
    Calls Try.prog 51 #[.int .u64 a0] w fun e w' => e = .returned (.int .u64 r) ∧ Drawn0 w w' := by
  unfold flo_Canon.f fcmp at h
  rw [show Int.toNat 0 = 0 from rfl] at h
  have hfb := run_frombits
  by_cases c1 : (FloatKind.f64.format.order a0.toNat a0.toNat != some .eq) = true
  · rw [if_pos c1] at h
    obtain rfl := Option.some.inj h
    clear h
    go_enter Try.func51, Try.ntmps51
    go_wp2
    go_ret
    exact ⟨rfl, Drawn0.refl _⟩
  · rw [if_neg c1] at h
    replace c1 := Bool.not_eq_true _ ▸ c1
    by_cases c2 : (FloatKind.f64.format.order a0.toNat 0 == some .eq) = true
    · rw [if_pos c2] at h
      obtain rfl := Option.some.inj h
      clear h
      go_enter Try.func51, Try.ntmps51
      go_wp2
      go_ret
      exact ⟨rfl, Drawn0.refl _⟩
    · rw [if_neg c2] at h
      replace c2 := Bool.not_eq_true _ ▸ c2
      obtain rfl := Option.some.inj h
      clear h
      go_enter Try.func51, Try.ntmps51
      go_wp2
      go_ret
      exact ⟨rfl, Drawn0.refl _⟩

/-! ### value_May: function 36 -/
def value_May.f (a0_0 a0_1 a0_2 : Int) (a0_3 : ByteArray) : Option (Bool) :=
  if a0_0 = 0 then some (a0_1 == 0 && (a0_2 == 0 && a0_3.toList.isEmpty))
  else if a0_0 = 1 then (if a0_1 = 0 then some (a0_2 == 0 && a0_3.toList.isEmpty) else if a0_1 = 1 then some (a0_2 == 0 && a0_3.toList.isEmpty) else some false)
  else if a0_0 = 2 then some (a0_2 == 0 && a0_3.toList.isEmpty)
  else if a0_0 = 3 then (flo_Canon.f a0_2).bind fun t => if t = a0_2 then some (a0_1 == 0 && a0_3.toList.isEmpty) else some false
  else if a0_0 = 4 then (if (a0_3.size : Int) > 40 then some false else some (a0_1 == 0 && a0_2 == 0))
  else if a0_0 = 5 then (if (a0_3.size : Int) > 40 then some false else some (a0_1 == 0 && a0_2 == 0))
  else some false
theorem may_below2 (w : World) (x y : Obj) : Below w.heap.size w ((w.alloc x).alloc y) := ((Below.refl _ _).alloc (Nat.le_refl _) _).alloc (by simp) _
attribute [local go_sem high] eqA44
set_option maxHeartbeats 2000000 in
set_option maxRecDepth 100000 in
theorem value_May.calls0 (a0_1 a0_2 : Int) (a0_3 : ByteArray) (w : World) :
    Calls Try.prog 36 #[.agg #[.int .i64 0, .int .i64 a0_1, .int .u64 a0_2, .string a0_3]] w fun e w' => e = .returned (.bool (a0_1 == 0 && (a0_2 == 0 && a0_3.toList.isEmpty))) ∧ Below w.heap.size w w' := by
  go_enter Try.func36, Try.ntmps36
  go_wp2
  go_ret
  exact ⟨rfl, may_below2 _ _ _⟩
set_option maxHeartbeats 2000000 in
set_option maxRecDepth 100000 in
theorem value_May.calls10 (a0_2 : Int) (a0_3 : ByteArray) (w : World) :
    Calls Try.prog 36 #[.agg #[.int .i64 1, .int .i64 0, .int .u64 a0_2, .string a0_3]] w fun e w' => e = .returned (.bool (a0_2 == 0 && a0_3.toList.isEmpty)) ∧ Below w.heap.size w w' := by
  go_enter Try.func36, Try.ntmps36
  go_wp2
  go_ret
  exact ⟨rfl, may_below2 _ _ _⟩
set_option maxHeartbeats 2000000 in
set_option maxRecDepth 100000 in
theorem value_May.calls11 (a0_2 : Int) (a0_3 : ByteArray) (w : World) :
    Calls Try.prog 36 #[.agg #[.int .i64 1, .int .i64 1, .int .u64 a0_2, .string a0_3]] w fun e w' => e = .returned (.bool (a0_2 == 0 && a0_3.toList.isEmpty)) ∧ Below w.heap.size w w' := by
  go_enter Try.func36, Try.ntmps36
  go_wp2
  go_ret
  exact ⟨rfl, may_below2 _ _ _⟩
set_option maxHeartbeats 2000000 in
set_option maxRecDepth 100000 in
theorem value_May.calls12 (a0_1 a0_2 : Int) (a0_3 : ByteArray) (w : World) (h0 : (a0_1 != 0) = true) (h1 : (a0_1 != 1) = true) :
    Calls Try.prog 36 #[.agg #[.int .i64 1, .int .i64 a0_1, .int .u64 a0_2, .string a0_3]] w fun e w' => e = .returned (.bool false) ∧ Below w.heap.size w w' := by
  go_enter Try.func36, Try.ntmps36
  go_wp2
  go_ret
  exact ⟨rfl, may_below2 _ _ _⟩
set_option maxHeartbeats 2000000 in
set_option maxRecDepth 100000 in
theorem value_May.calls2 (a0_1 a0_2 : Int) (a0_3 : ByteArray) (w : World) :
    Calls Try.prog 36 #[.agg #[.int .i64 2, .int .i64 a0_1, .int .u64 a0_2, .string a0_3]] w fun e w' => e = .returned (.bool (a0_2 == 0 && a0_3.toList.isEmpty)) ∧ Below w.heap.size w w' := by
  go_enter Try.func36, Try.ntmps36
  go_wp2
  go_ret
  exact ⟨rfl, may_below2 _ _ _⟩
set_option maxHeartbeats 2000000 in
set_option maxRecDepth 100000 in
theorem value_May.calls3y (a0_1 a0_2 : Int) (a0_3 : ByteArray) (w : World) (h : flo_Canon.f a0_2 = some a0_2) :
    Calls Try.prog 36 #[.agg #[.int .i64 3, .int .i64 a0_1, .int .u64 a0_2, .string a0_3]] w fun e w' => e = .returned (.bool (a0_1 == 0 && a0_3.toList.isEmpty)) ∧ Below w.heap.size w w' := by
  have H := Aside0.mk h
  clear h
  go_enter Try.func36, Try.ntmps36
  go_wp2_with fail
  go_quiet ((go_at_call 51; exact Calls.quiet_of ((flo_Canon.calls _ _ _ H.out).mono fun e w' h => ⟨h.1, h.2.out⟩)))
  go_wp2
  go_ret
  exact ⟨rfl, below_set (pw_below_drewN (may_below2 _ _ _) _) (Nat.le_succ _)⟩
set_option maxHeartbeats 2000000 in
set_option maxRecDepth 100000 in
theorem value_May.calls3n (a0_1 a0_2 t : Int) (a0_3 : ByteArray) (w : World) (h : flo_Canon.f a0_2 = some t) (hn : (t != a0_2) = true) :
    Calls Try.prog 36 #[.agg #[.int .i64 3, .int .i64 a0_1, .int .u64 a0_2, .string a0_3]] w fun e w' => e = .returned (.bool false) ∧ Below w.heap.size w w' := by
  have H := Aside0.mk h
  clear h
  go_enter Try.func36, Try.ntmps36
  go_wp2_with fail
  go_quiet ((go_at_call 51; exact Calls.quiet_of ((flo_Canon.calls _ _ _ H.out).mono fun e w' h => ⟨h.1, h.2.out⟩)))
  go_wp2
  go_ret
  exact ⟨rfl, pw_below_drewN (may_below2 _ _ _) _⟩
set_option maxHeartbeats 2000000 in
set_option maxRecDepth 100000 in
theorem value_May.calls4y (a0_1 a0_2 : Int) (a0_3 : ByteArray) (w : World) (h : decide (40 < (a0_3.size : Int)) = false) :
    Calls Try.prog 36 #[.agg #[.int .i64 4, .int .i64 a0_1, .int .u64 a0_2, .string a0_3]] w fun e w' => e = .returned (.bool (a0_1 == 0 && a0_2 == 0)) ∧ Below w.heap.size w w' := by
  go_enter Try.func36, Try.ntmps36
  go_wp2
  go_ret
  exact ⟨rfl, may_below2 _ _ _⟩
set_option maxHeartbeats 2000000 in
set_option maxRecDepth 100000 in
theorem value_May.calls4n (a0_1 a0_2 : Int) (a0_3 : ByteArray) (w : World) (h : decide (40 < (a0_3.size : Int)) = true) :
    Calls Try.prog 36 #[.agg #[.int .i64 4, .int .i64 a0_1, .int .u64 a0_2, .string a0_3]] w fun e w' => e = .returned (.bool false) ∧ Below w.heap.size w w' := by
  go_enter Try.func36, Try.ntmps36
  go_wp2
  go_ret
  exact ⟨rfl, may_below2 _ _ _⟩
set_option maxHeartbeats 2000000 in
set_option maxRecDepth 100000 in
theorem value_May.calls5y (a0_1 a0_2 : Int) (a0_3 : ByteArray) (w : World) (h : decide (40 < (a0_3.size : Int)) = false) :
    Calls Try.prog 36 #[.agg #[.int .i64 5, .int .i64 a0_1, .int .u64 a0_2, .string a0_3]] w fun e w' => e = .returned (.bool (a0_1 == 0 && a0_2 == 0)) ∧ Below w.heap.size w w' := by
  go_enter Try.func36, Try.ntmps36
  go_wp2
  go_ret
  exact ⟨rfl, may_below2 _ _ _⟩
set_option maxHeartbeats 2000000 in
set_option maxRecDepth 100000 in
theorem value_May.calls5n (a0_1 a0_2 : Int) (a0_3 : ByteArray) (w : World) (h : decide (40 < (a0_3.size : Int)) = true) :
    Calls Try.prog 36 #[.agg #[.int .i64 5, .int .i64 a0_1, .int .u64 a0_2, .string a0_3]] w fun e w' => e = .returned (.bool false) ∧ Below w.heap.size w w' := by
  go_enter Try.func36, Try.ntmps36
  go_wp2
  go_ret
  exact ⟨rfl, may_below2 _ _ _⟩
set_option maxHeartbeats 2000000 in
set_option maxRecDepth 100000 in
theorem value_May.calls6 (a0_0 a0_1 a0_2 : Int) (a0_3 : ByteArray) (w : World) (h0 : (a0_0 == 0) = false) (h1 : (a0_0 == 1) = false) (h2 : (a0_0 == 2) = false) (h3 : (a0_0 == 3) = false) (h4 : (a0_0 == 4) = false) (h5 : (a0_0 == 5) = false) :
    Calls Try.prog 36 #[.agg #[.int .i64 a0_0, .int .i64 a0_1, .int .u64 a0_2, .string a0_3]] w fun e w' => e = .returned (.bool false) ∧ Below w.heap.size w w' := by
  go_enter Try.func36, Try.ntmps36
  go_wp2
  go_ret
  exact ⟨rfl, may_below2 _ _ _⟩
theorem value_May.calls (a0_0 a0_1 a0_2 : Int) (a0_3 : ByteArray) (r : Bool) (w : World) (h : value_May.f a0_0 a0_1 a0_2 a0_3 = some r) :
    Calls Try.prog 36 #[.agg #[.int .i64 a0_0, .int .i64 a0_1, .int .u64 a0_2, .string a0_3]] w fun e w' => e = .returned (.bool r) ∧ Below w.heap.size w w' := by
  unfold value_May.f at h
  by_cases c0 : a0_0 = 0
  · rw [if_pos c0] at h; obtain rfl := Option.some.inj h; subst c0; exact value_May.calls0 _ _ _ _
  rw [if_neg c0] at h
  by_cases c1 : a0_0 = 1
  · rw [if_pos c1] at h; subst c1
    by_cases d0 : a0_1 = 0
    · rw [if_pos d0] at h; obtain rfl := Option.some.inj h; subst d0; exact value_May.calls10 _ _ _
    rw [if_neg d0] at h
    by_cases d1 : a0_1 = 1
    · rw [if_pos d1] at h; obtain rfl := Option.some.inj h; subst d1; exact value_May.calls11 _ _ _
    rw [if_neg d1] at h; obtain rfl := Option.some.inj h
    exact value_May.calls12 _ _ _ _ (bne_iff_ne.mpr d0) (bne_iff_ne.mpr d1)
  rw [if_neg c1] at h
  by_cases c2 : a0_0 = 2
  · rw [if_pos c2] at h; obtain rfl := Option.some.inj h; subst c2; exact value_May.calls2 _ _ _ _
  rw [if_neg c2] at h
  by_cases c3 : a0_0 = 3
  · rw [if_pos c3] at h; subst c3
    cases ht : flo_Canon.f a0_2 with
    | none => rw [ht] at h; cases h
    | some t =>
      rw [ht, Option.bind_some] at h
      by_cases d : t = a0_2
      · rw [if_pos d] at h; obtain rfl := Option.some.inj h; rw [d] at ht; exact value_May.calls3y _ _ _ _ ht
      · rw [if_neg d] at h; obtain rfl := Option.some.inj h; exact value_May.calls3n _ _ _ _ _ ht (bne_iff_ne.mpr d)
  rw [if_neg c3] at h
  by_cases c4 : a0_0 = 4
  · rw [if_pos c4] at h; subst c4
    by_cases d : (a0_3.size : Int) > 40
    · rw [if_pos d] at h; obtain rfl := Option.some.inj h; exact value_May.calls4n _ _ _ _ (decide_eq_true d)
    · rw [if_neg d] at h; obtain rfl := Option.some.inj h; exact value_May.calls4y _ _ _ _ (decide_eq_false d)
  rw [if_neg c4] at h
  by_cases c5 : a0_0 = 5
  · rw [if_pos c5] at h; subst c5
    by_cases d : (a0_3.size : Int) > 40
    · rw [if_pos d] at h; obtain rfl := Option.some.inj h; exact value_May.calls5n _ _ _ _ (decide_eq_true d)
    · rw [if_neg d] at h; obtain rfl := Option.some.inj h; exact value_May.calls5y _ _ _ _ (decide_eq_false d)
  rw [if_neg c5] at h
  obtain rfl := Option.some.inj h
  exact value_May.calls6 _ _ _ _ _ (beq_eq_false_iff_ne.mpr c0) (beq_eq_false_iff_ne.mpr c1) (beq_eq_false_iff_ne.mpr c2) (beq_eq_false_iff_ne.mpr c3) (beq_eq_false_iff_ne.mpr c4) (beq_eq_false_iff_ne.mpr c5)

end Go.Proofs.Ytebfilljdnhccaa.PA
