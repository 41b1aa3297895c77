/- Contracts of the Go functions of this seat: what each call returns is what a Lean function of its arguments says; each theorem bears its own conditions. Written by a program of this session (wip/tools/mkprint.py). -/
import Derived.Test.YtikiegglebgmpaaCTx0
import Derived.Test.YtikiegglebgmpaaCTx2
-- squeezed
namespace Go.Proofs.Ytikiegglebgmpaa.PA
open Go.RowKit Go.Proofs.YtikiegglebgmpaaW.PrintWords Go.Proofs.YtikiegglebgmpaaW.PrintLast Go.Proofs.YtikiegglebgmpaaW.PrintMore
attribute [local go_sem] max2_int min2_int max_two min_two max_three min_three max_four min_four   -- for this text's walks alone
set_option linter.unusedVariables false
set_option linter.unusedSimpArgs false

attribute [local go_sem high] eqA45
attribute [local go_sem ↓ high] unary_xor_u32 ux_if_u32
attribute [local go_sem] str_gtr str_leq str_geq
-- NOT PRINTED: function 52 (math_Float64frombits)

/-! ### flo_Canon: function 38 -/
/-- How two floats stand to each other, by their bits. -/
def fcmp (x y : Int) : Option Ordering := FloatKind.f64.format.order x.toNat y.toNat
theorem run_frombits (n : Int) (w : World) : (callFunc 52 #[.int .u64 n]).run Try.prog w = .ok (.value (.float .f64 n.toNat)) w :=
 (run_callFunc_extern (e := Extern.MathFloatBits.float64frombits) Try.func52 (by kernel_rfl) (by kernel_rfl) (by kernel_rfl) (by rfl) _ w).trans rfl
def flo_Canon.f (a0 : Int) : Option (Int) := if (fcmp a0 a0 != some .eq) = true then some 9221120237041090560 else if (fcmp a0 0 == some .eq) = true then some 0 else some a0
theorem flo_Canon.calls (a0 : Int) (r : Int) (w : World) (h : flo_Canon.f a0 = some r) :
  Calls Try.prog 38 #[.int .u64 a0] w fun e w' => e = .returned (.int .u64 r) ∧ Drawn0 w w' := by
 unfold flo_Canon.f fcmp at h
 rw [show Int.toNat 0 = 0 from rfl] at h
 have hfb := run_frombits
 by_cases c1 : (FloatKind.f64.format.order a0.toNat a0.toNat != some .eq) = true
 ·rw [if_pos c1] at h
  obtain rfl := Option.some.inj h
  clear h
  go_enter Try.func38, Try.ntmps38
  go_wp2
  go_ret
  exact ⟨rfl, Drawn0.refl _⟩
 ·rw [if_neg c1] at h
  replace c1 := Bool.not_eq_true _ ▸ c1
  by_cases c2 : (FloatKind.f64.format.order a0.toNat 0 == some .eq) = true
  ·rw [if_pos c2] at h
   obtain rfl := Option.some.inj h
   clear h
   go_enter Try.func38, Try.ntmps38
   go_wp2
   go_ret
   exact ⟨rfl, Drawn0.refl _⟩
  ·rw [if_neg c2] at h
   replace c2 := Bool.not_eq_true _ ▸ c2
   obtain rfl := Option.some.inj h
   clear h
   go_enter Try.func38, Try.ntmps38
   go_wp2
   go_ret
   exact ⟨rfl, Drawn0.refl _⟩

/-! ### value_May: function 17 -/
def value_May.f (a0_0 a0_1 a0_2 : Int) (a0_3 : ByteArray) : Option (Bool) :=
 if a0_0 = 0 then some (a0_1 == 0 && (a0_2 == 0 && a0_3.toList.isEmpty))
 else if a0_0 = 1 then (if a0_1 = 0 then some (a0_2 == 0 && a0_3.toList.isEmpty) else if a0_1 = 1 then some (a0_2 == 0 && a0_3.toList.isEmpty) else some false)
 else if a0_0 = 2 then some (a0_2 == 0 && a0_3.toList.isEmpty)
 else if a0_0 = 3 then (flo_Canon.f a0_2).bind fun t => if t = a0_2 then some (a0_1 == 0 && a0_3.toList.isEmpty) else some false
 else if a0_0 = 4 then (if (a0_3.size : Int) > 40 then some false else some (a0_1 == 0 && a0_2 == 0))
 else if a0_0 = 5 then (if (a0_3.size : Int) > 40 then some false else some (a0_1 == 0 && a0_2 == 0))
 else some false
theorem may_below2 (w : World) (x y : Obj) : Below w.heap.size w ((w.alloc x).alloc y) := ((Below.refl _ _).alloc (Nat.le_refl _) _).alloc (by simp) _
attribute [local go_sem high] eqA45
set_option maxHeartbeats 2000000 in
set_option maxRecDepth 100000 in
theorem value_May.calls0 (a0_1 a0_2 : Int) (a0_3 : ByteArray) (w : World) :
  Calls Try.prog 17 #[.agg #[.int .i64 0, .int .i64 a0_1, .int .u64 a0_2, .string a0_3]] w fun e w' => e = .returned (.bool (a0_1 == 0 && (a0_2 == 0 && a0_3.toList.isEmpty))) ∧ Below w.heap.size w w' := by
 go_enter Try.func17, Try.ntmps17
 go_wp2
 go_ret
 exact ⟨rfl, may_below2 _ _ _⟩
set_option maxHeartbeats 2000000 in
set_option maxRecDepth 100000 in
theorem value_May.calls10 (a0_2 : Int) (a0_3 : ByteArray) (w : World) :
  Calls Try.prog 17 #[.agg #[.int .i64 1, .int .i64 0, .int .u64 a0_2, .string a0_3]] w fun e w' => e = .returned (.bool (a0_2 == 0 && a0_3.toList.isEmpty)) ∧ Below w.heap.size w w' := by
 go_enter Try.func17, Try.ntmps17
 go_wp2
 go_ret
 exact ⟨rfl, may_below2 _ _ _⟩
set_option maxHeartbeats 2000000 in
set_option maxRecDepth 100000 in
theorem value_May.calls11 (a0_2 : Int) (a0_3 : ByteArray) (w : World) :
  Calls Try.prog 17 #[.agg #[.int .i64 1, .int .i64 1, .int .u64 a0_2, .string a0_3]] w fun e w' => e = .returned (.bool (a0_2 == 0 && a0_3.toList.isEmpty)) ∧ Below w.heap.size w w' := by
 go_enter Try.func17, Try.ntmps17
 go_wp2
 go_ret
 exact ⟨rfl, may_below2 _ _ _⟩
set_option maxHeartbeats 2000000 in
set_option maxRecDepth 100000 in
theorem value_May.calls12 (a0_1 a0_2 : Int) (a0_3 : ByteArray) (w : World) (h0 : (a0_1 != 0) = true) (h1 : (a0_1 != 1) = true) :
  Calls Try.prog 17 #[.agg #[.int .i64 1, .int .i64 a0_1, .int .u64 a0_2, .string a0_3]] w fun e w' => e = .returned (.bool false) ∧ Below w.heap.size w w' := by
 go_enter Try.func17, Try.ntmps17
 go_wp2
 go_ret
 exact ⟨rfl, may_below2 _ _ _⟩
set_option maxHeartbeats 2000000 in
set_option maxRecDepth 100000 in
theorem value_May.calls2 (a0_1 a0_2 : Int) (a0_3 : ByteArray) (w : World) :
  Calls Try.prog 17 #[.agg #[.int .i64 2, .int .i64 a0_1, .int .u64 a0_2, .string a0_3]] w fun e w' => e = .returned (.bool (a0_2 == 0 && a0_3.toList.isEmpty)) ∧ Below w.heap.size w w' := by
 go_enter Try.func17, Try.ntmps17
 go_wp2
 go_ret
 exact ⟨rfl, may_below2 _ _ _⟩
set_option maxHeartbeats 2000000 in
set_option maxRecDepth 100000 in
theorem value_May.calls3y (a0_1 a0_2 : Int) (a0_3 : ByteArray) (w : World) (h : flo_Canon.f a0_2 = some a0_2) :
  Calls Try.prog 17 #[.agg #[.int .i64 3, .int .i64 a0_1, .int .u64 a0_2, .string a0_3]] w fun e w' => e = .returned (.bool (a0_1 == 0 && a0_3.toList.isEmpty)) ∧ Below w.heap.size w w' := by
 have H := Aside0.mk h
 clear h
 go_enter Try.func17, Try.ntmps17
 go_wp2_with fail
 go_quiet ((go_at_call 38; exact Calls.quiet_of ((flo_Canon.calls _ _ _ H.out).mono fun e w' h => ⟨h.1, h.2.out⟩)))
 go_wp2
 go_ret
 exact ⟨rfl, below_set (zN (may_below2 _ _ _) _) (Nat.le_succ _)⟩
set_option maxHeartbeats 2000000 in
set_option maxRecDepth 100000 in
theorem value_May.calls3n (a0_1 a0_2 t : Int) (a0_3 : ByteArray) (w : World) (h : flo_Canon.f a0_2 = some t) (hn : (t != a0_2) = true) :
  Calls Try.prog 17 #[.agg #[.int .i64 3, .int .i64 a0_1, .int .u64 a0_2, .string a0_3]] w fun e w' => e = .returned (.bool false) ∧ Below w.heap.size w w' := by
 have H := Aside0.mk h
 clear h
 go_enter Try.func17, Try.ntmps17
 go_wp2_with fail
 go_quiet ((go_at_call 38; exact Calls.quiet_of ((flo_Canon.calls _ _ _ H.out).mono fun e w' h => ⟨h.1, h.2.out⟩)))
 go_wp2
 go_ret
 exact ⟨rfl, zN (may_below2 _ _ _) _⟩
set_option maxHeartbeats 2000000 in
set_option maxRecDepth 100000 in
theorem value_May.calls4y (a0_1 a0_2 : Int) (a0_3 : ByteArray) (w : World) (h : decide (40 < (a0_3.size : Int)) = false) :
  Calls Try.prog 17 #[.agg #[.int .i64 4, .int .i64 a0_1, .int .u64 a0_2, .string a0_3]] w fun e w' => e = .returned (.bool (a0_1 == 0 && a0_2 == 0)) ∧ Below w.heap.size w w' := by
 go_enter Try.func17, Try.ntmps17
 go_wp2
 go_ret
 exact ⟨rfl, may_below2 _ _ _⟩
set_option maxHeartbeats 2000000 in
set_option maxRecDepth 100000 in
theorem value_May.calls4n (a0_1 a0_2 : Int) (a0_3 : ByteArray) (w : World) (h : decide (40 < (a0_3.size : Int)) = true) :
  Calls Try.prog 17 #[.agg #[.int .i64 4, .int .i64 a0_1, .int .u64 a0_2, .string a0_3]] w fun e w' => e = .returned (.bool false) ∧ Below w.heap.size w w' := by
 go_enter Try.func17, Try.ntmps17
 go_wp2
 go_ret
 exact ⟨rfl, may_below2 _ _ _⟩
set_option maxHeartbeats 2000000 in
set_option maxRecDepth 100000 in
theorem value_May.calls5y (a0_1 a0_2 : Int) (a0_3 : ByteArray) (w : World) (h : decide (40 < (a0_3.size : Int)) = false) :
  Calls Try.prog 17 #[.agg #[.int .i64 5, .int .i64 a0_1, .int .u64 a0_2, .string a0_3]] w fun e w' => e = .returned (.bool (a0_1 == 0 && a0_2 == 0)) ∧ Below w.heap.size w w' := by
 go_enter Try.func17, Try.ntmps17
 go_wp2
 go_ret
 exact ⟨rfl, may_below2 _ _ _⟩
set_option maxHeartbeats 2000000 in
set_option maxRecDepth 100000 in
theorem value_May.calls5n (a0_1 a0_2 : Int) (a0_3 : ByteArray) (w : World) (h : decide (40 < (a0_3.size : Int)) = true) :
  Calls Try.prog 17 #[.agg #[.int .i64 5, .int .i64 a0_1, .int .u64 a0_2, .string a0_3]] w fun e w' => e = .returned (.bool false) ∧ Below w.heap.size w w' := by
 go_enter Try.func17, Try.ntmps17
 go_wp2
 go_ret
 exact ⟨rfl, may_below2 _ _ _⟩
set_option maxHeartbeats 2000000 in
set_option maxRecDepth 100000 in
theorem value_May.calls6 (a0_0 a0_1 a0_2 : Int) (a0_3 : ByteArray) (w : World) (h0 : (a0_0 == 0) = false) (h1 : (a0_0 == 1) = false) (h2 : (a0_0 == 2) = false) (h3 : (a0_0 == 3) = false) (h4 : (a0_0 == 4) = false) (h5 : (a0_0 == 5) = false) :
  Calls Try.prog 17 #[.agg #[.int .i64 a0_0, .int .i64 a0_1, .int .u64 a0_2, .string a0_3]] w fun e w' => e = .returned (.bool false) ∧ Below w.heap.size w w' := by
 go_enter Try.func17, Try.ntmps17
 go_wp2
 go_ret
 exact ⟨rfl, may_below2 _ _ _⟩
theorem value_May.calls (a0_0 a0_1 a0_2 : Int) (a0_3 : ByteArray) (r : Bool) (w : World) (h : value_May.f a0_0 a0_1 a0_2 a0_3 = some r) :
  Calls Try.prog 17 #[.agg #[.int .i64 a0_0, .int .i64 a0_1, .int .u64 a0_2, .string a0_3]] w fun e w' => e = .returned (.bool r) ∧ Below w.heap.size w w' := by
 unfold value_May.f at h
 by_cases c0 : a0_0 = 0
 ·rw [if_pos c0] at h; obtain rfl := Option.some.inj h; subst c0; exact value_May.calls0 _ _ _ _
 rw [if_neg c0] at h
 by_cases c1 : a0_0 = 1
 ·rw [if_pos c1] at h; subst c1
  by_cases d0 : a0_1 = 0
  ·rw [if_pos d0] at h; obtain rfl := Option.some.inj h; subst d0; exact value_May.calls10 _ _ _
  rw [if_neg d0] at h
  by_cases d1 : a0_1 = 1
  ·rw [if_pos d1] at h; obtain rfl := Option.some.inj h; subst d1; exact value_May.calls11 _ _ _
  rw [if_neg d1] at h; obtain rfl := Option.some.inj h
  exact value_May.calls12 _ _ _ _ (bne_iff_ne.mpr d0) (bne_iff_ne.mpr d1)
 rw [if_neg c1] at h
 by_cases c2 : a0_0 = 2
 ·rw [if_pos c2] at h; obtain rfl := Option.some.inj h; subst c2; exact value_May.calls2 _ _ _ _
 rw [if_neg c2] at h
 by_cases c3 : a0_0 = 3
 ·rw [if_pos c3] at h; subst c3
  cases ht : flo_Canon.f a0_2 with
  | none => rw [ht] at h; cases h
  | some t =>
   rw [ht, Option.bind_some] at h
   by_cases d : t = a0_2
   ·rw [if_pos d] at h; obtain rfl := Option.some.inj h; rw [d] at ht; exact value_May.calls3y _ _ _ _ ht
   ·rw [if_neg d] at h; obtain rfl := Option.some.inj h; exact value_May.calls3n _ _ _ _ _ ht (bne_iff_ne.mpr d)
 rw [if_neg c3] at h
 by_cases c4 : a0_0 = 4
 ·rw [if_pos c4] at h; subst c4
  by_cases d : (a0_3.size : Int) > 40
  ·rw [if_pos d] at h; obtain rfl := Option.some.inj h; exact value_May.calls4n _ _ _ _ (decide_eq_true d)
  ·rw [if_neg d] at h; obtain rfl := Option.some.inj h; exact value_May.calls4y _ _ _ _ (decide_eq_false d)
 rw [if_neg c4] at h
 by_cases c5 : a0_0 = 5
 ·rw [if_pos c5] at h; subst c5
  by_cases d : (a0_3.size : Int) > 40
  ·rw [if_pos d] at h; obtain rfl := Option.some.inj h; exact value_May.calls5n _ _ _ _ (decide_eq_true d)
  ·rw [if_neg d] at h; obtain rfl := Option.some.inj h; exact value_May.calls5y _ _ _ _ (decide_eq_false d)
 rw [if_neg c5] at h
 obtain rfl := Option.some.inj h
 exact value_May.calls6 _ _ _ _ _ (beq_eq_false_iff_ne.mpr c0) (beq_eq_false_iff_ne.mpr c1) (beq_eq_false_iff_ne.mpr c2) (beq_eq_false_iff_ne.mpr c3) (beq_eq_false_iff_ne.mpr c4) (beq_eq_false_iff_ne.mpr c5)

/-! ### cmd_short: function 39 -/
def cmd_short.l0 : Nat → List ByteArray → Int → Int → Option (Bool)
 | 0, _, _, _ => none
 | k + 1, x5, x6, x7 => if x7 < x6 then (if 0 ≤ x7 then (if x7 < (x5.length : Int) then (if ((rdOf ByteArray.empty x5 x7).size : Int) > 1000 then (some false) else (cmd_short.l0 k x5 x6 (wrap64 (x7 + 1)))) else (none)) else (none)) else (some true)
def cmd_short.f (k : Nat) (l0 : List ByteArray) : Option (Bool) := cmd_short.l0 k l0 (l0.length : Int) 0
theorem cmd_short.mono_l : ∀ k, (∀ y0 y1 y2, LeO (cmd_short.l0 k y0 y1 y2) (cmd_short.l0 (k + 1) y0 y1 y2))
 | 0 => fun _ _ _ r h => by simp [cmd_short.l0] at h
 | k + 1 => by
  have ih0 := cmd_short.mono_l k
  ·intro y0 y1 y2
   unfold cmd_short.l0
   repeat' first
   | (with_reducible exact ih0 _ _ _)
   | (with_reducible exact LeO.refl _)
   | (with_reducible exact LeO.none _)
   | (with_reducible refine LeO.ite ?_ ?_)
   | (with_reducible refine LeO.bind ?_ (fun _ => ?_))
   | exact ih0 _ _ _
   | exact LeO.none _
   | refine LeO.ite ?_ ?_
   | refine LeO.bind ?_ (fun _ => ?_)
theorem cmd_short.mono : ∀ a0 k, LeO (cmd_short.f k a0) (cmd_short.f (k + 1) a0) := by
 intro a0 k
 have ih0 := cmd_short.mono_l k
 unfold cmd_short.f
 repeat' first
   | (with_reducible exact ih0 _ _ _)
   | (with_reducible exact LeO.refl _)
   | (with_reducible exact LeO.none _)
   | (with_reducible refine LeO.ite ?_ ?_)
   | (with_reducible refine LeO.bind ?_ (fun _ => ?_))
   | exact ih0 _ _ _
   | exact LeO.none _
   | refine LeO.ite ?_ ?_
   | refine LeO.bind ?_ (fun _ => ?_)
set_option maxHeartbeats 8000000 in
set_option maxRecDepth 100000 in
theorem cmd_short.calls (k : Nat) (A0 : Option Addr) (c0 : Nat) (l0 : List ByteArray) (r : Bool) (w : World) (hr0 : Kd.C Kd.string w A0 l0.length l0) (hc0 : l0.length ≤ c0) (h : cmd_short.f k l0 = some r) :
  Calls Try.prog 39 #[.slice A0 l0.length c0] w fun e w' => e = .returned (.bool r) ∧ Drawn0 w w' := by
 have HR0 := Aside0.mk hr0
 have HC0 := Aside0.mk hc0
 clear hr0 hc0
 have H : (cmd_short.l0 k l0 (l0.length : Int) 0) = some r := h
 clear h
 have H' := Aside0.mk H
 clear H
 go_enter Try.func39, Try.ntmps39
 go_wp2
 go_loopg [7] k (fun kq v7 w' => ∃ (x7_1 : Int), v7 = .int .i64 x7_1 ∧ Aside0 (cmd_short.l0 kq l0 (l0.length : Int) x7_1 = some r) ∧ Aside0 (kq ≤ k) ∧ Drawn0 w w')
 case atStart => exact ⟨(0), (by first | rfl | (simp; done) | (simp [*]; done)), H', ⟨Nat.le_refl _⟩, by repeat (first | exact Drawn0.refl _ | apply Drawn0.step)⟩
 case round =>
  clear H'
  obtain ⟨x7_1, rfl, HA, HK1, ⟨m1, rfl⟩⟩ := hrel
  cases gk with
  | zero => exact absurd HA.out (by simp [cmd_short.l0])
  | succ k1 =>
   have H := HA.out
   clear HA
   simp only [cmd_short.l0] at H
   by_cases c2 : x7_1 < (l0.length : Int)
   ·rw [if_pos c2] at H
    have c2b0 : decide (x7_1 < (l0.length : Int)) = true := decide_eq_true c2
    clear c2
    by_cases c3 : 0 ≤ x7_1
    ·rw [if_pos c3] at H
     have c3b0 : decide (0 ≤ x7_1) = true := decide_eq_true c3
     clear c3
     by_cases c4 : x7_1 < (l0.length : Int)
     ·rw [if_pos c4] at H
      have c4b0 : decide (x7_1 < (l0.length : Int)) = true := decide_eq_true c4
      clear c4
      by_cases c5 : ((rdOf ByteArray.empty l0 x7_1).size : Int) > 1000
      ·rw [if_pos c5] at H
       have c5b0 : decide (1000 < ((rdOf ByteArray.empty l0 x7_1).size : Int)) = true := decide_eq_true c5
       have c5b1 : decide (1000 < (rdOf ByteArray.empty l0 x7_1).size) = true := decide_eq_true (by omega)
       clear c5
       obtain rfl := Option.some.inj H
       have p110 : 0 ≤ (x7_1 : Int) := of_decide_eq_true (by first | (with_reducible assumption) | assumption)
       have q110 : x7_1 < (l0.length : Int) := of_decide_eq_true (by first | (with_reducible assumption) | assumption)
       obtain ⟨ad110, e110, hx110_0⟩ := Kd.at_string HR0.out x7_1 p110 q110
       cases e110
       replace p110 := eq_true p110
       replace q110 := eq_true q110
       go_wp2
       go_ret
       exact ⟨by first | rfl | (simp; done) | (simp [*]; done), by repeat (first | exact Drawn0.refl _ | apply Drawn0.step)⟩
      ·rw [if_neg c5] at H
       have c5b0 : decide (1000 < ((rdOf ByteArray.empty l0 x7_1).size : Int)) = false := decide_eq_false c5
       have c5b1 : decide (1000 < (rdOf ByteArray.empty l0 x7_1).size) = false := decide_eq_false (by omega)
       clear c5
       have H' := Aside0.mk H
       clear H
       have p110 : 0 ≤ (x7_1 : Int) := of_decide_eq_true (by first | (with_reducible assumption) | assumption)
       have q110 : x7_1 < (l0.length : Int) := of_decide_eq_true (by first | (with_reducible assumption) | assumption)
       obtain ⟨ad110, e110, hx110_0⟩ := Kd.at_string HR0.out x7_1 p110 q110
       cases e110
       replace p110 := eq_true p110
       replace q110 := eq_true q110
       go_wp2
       go_roundg k1
       case measure => have := HK1.out; omega
       case rel => exact ⟨(wrap64 (x7_1 + 1)), (by first | rfl | (simp; done) | (simp [*]; done)), H', ⟨by have := HK1.out; omega⟩, by repeat (first | exact Drawn0.refl _ | apply Drawn0.step)⟩
     ·rw [if_neg c4] at H
      exact absurd H (by simp)
    ·rw [if_neg c3] at H
     exact absurd H (by simp)
   ·rw [if_neg c2] at H
    have c2b0 : decide (x7_1 < (l0.length : Int)) = false := decide_eq_false c2
    clear c2
    obtain rfl := Option.some.inj H
    go_wp2
    go_ret
    exact ⟨by first | rfl | (simp; done) | (simp [*]; done), by repeat (first | exact Drawn0.refl _ | apply Drawn0.step)⟩

end Go.Proofs.Ytikiegglebgmpaa.PA
