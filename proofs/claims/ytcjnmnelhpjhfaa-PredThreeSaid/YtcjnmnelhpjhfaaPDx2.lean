/- Contracts of the Go functions of this seat: what each call returns is what a Lean function of its arguments says; each theorem bears its own conditions. Written by a program of this session (wip/tools/mkprint.py). -/
import Derived.Test.YtcjnmnelhpjhfaaPDx0
import Derived.Test.YtcjnmnelhpjhfaaPDx1
-- squeezed
namespace Go.Proofs.Ytcjnmnelhpjhfaa.PA
open Go.RowKit Go.Proofs.YtcjnmnelhpjhfaaW.PrintWords Go.Proofs.YtcjnmnelhpjhfaaW.PrintLast Go.Proofs.YtcjnmnelhpjhfaaW.PrintMore
attribute [local go_sem] max2_int min2_int max_two min_two max_three min_three max_four min_four   -- for this text's walks alone
set_option linter.unusedVariables false
set_option linter.unusedSimpArgs false

attribute [local go_sem high] eqA40
attribute [local go_sem ↓ high] unary_xor_u64 ux_if_u64
attribute [local go_sem] str_gtr str_leq str_geq
/-! ### falseworklaw18_num: function 9 -/
def falseworklaw18_num.f (a0 : Int) : Option (Int) := some a0
set_option maxHeartbeats 8000000 in
set_option maxRecDepth 100000 in
theorem falseworklaw18_num.calls (a0 : Int) (r : Int) (w : World) (h : falseworklaw18_num.f a0 = some r) :
  Calls Try.prog 9 #[.int .i64 a0] w fun e w' => e = .returned (.int .i64 r) ∧ Drawn0 w w' := by
 have H : (some a0) = some r := h
 clear h
 obtain rfl := Option.some.inj H
 go_enter Try.func9, Try.ntmps9
 go_wp2
 go_ret
 exact ⟨by first | rfl | (simp; done) | (simp [*]; done), by repeat (first | exact Drawn0.refl _ | apply Drawn0.step)⟩

-- NOT PRINTED: function 25 (api_Column)

/-! ### pred_of: function 18 -/
/-- Whether a column is shown under a name. -/
def pred_of.is (nm : ByteArray) (x : S51) : Bool := x.f1.toList == nm.toList && x.f3 == 4
def pred_of.find (nm : ByteArray) (l : List S51) : Int := match l.findIdx? (pred_of.is nm) with
 | some i => (i : Int)
 | none => -1
def pred_of.f (l0 : List (S51)) (a1 : ByteArray) : Option (Int) := some (pred_of.find a1 l0)
def pred_of.agg (x : S51) : Value := .agg #[.int .i64 x.f0, .string x.f1, .int .i64 x.f2, .int .i64 x.f3, .int .i64 x.f4, .int .i64 x.f5.f0, .int .i64 x.f5.f1, .int .u64 x.f5.f2, .string x.f5.f3]
set_option maxHeartbeats 4000000 in
set_option maxRecDepth 100000 in
theorem pred_of.clo (x : S51) (nm : ByteArray) (b : Nat) (w : World) (hc : w.cell? ⟨b, 0, none⟩ = some (.string nm)) (hb : b < w.heap.size) :
  Calls Try.prog 26 #[pred_of.agg x, .pointer (some ⟨b, 0, none⟩)] w fun e w' => e = .returned (.bool (pred_of.is nm x)) ∧ Below w.heap.size w w' := by
 have hne : ¬ w.heap.size = b := by omega
 unfold pred_of.is pred_of.agg
 cases h1 : (x.f1.toList == nm.toList) with
 | false =>
  go_enter Try.func26, Try.ntmps26
  go_wp2
  go_ret
  exact ⟨by simp, (Below.refl _ _).alloc (Nat.le_refl _) _⟩
 | true =>
  cases h2 : (x.f3 == 4) with
  | false =>
   go_enter Try.func26, Try.ntmps26
   go_wp2
   go_ret
   exact ⟨by simp, (Below.refl _ _).alloc (Nat.le_refl _) _⟩
  | true =>
   go_enter Try.func26, Try.ntmps26
   go_wp2
   go_ret
   exact ⟨by simp, (Below.refl _ _).alloc (Nat.le_refl _) _⟩
theorem pred_of.find_hit (nm : ByteArray) (l : List S51) (i : Nat) (hi : i < l.length) (h : pred_of.is nm l[i] = true) (ha : ∀ j (hj : j < l.length), j < i → pred_of.is nm l[j] = false) : pred_of.find nm l = (i : Int) := by
 unfold pred_of.find
 have : l.findIdx? (pred_of.is nm) = some i := by
  rw [List.findIdx?_eq_some_iff_getElem]
  exact ⟨hi, h, fun j hji => by have := ha j (by omega) hji; simp [this]⟩
 rw [this]
theorem pred_of.find_miss (nm : ByteArray) (l : List S51) (ha : ∀ j (hj : j < l.length), pred_of.is nm l[j] = false) : pred_of.find nm l = -1 := by
 unfold pred_of.find
 have : l.findIdx? (pred_of.is nm) = none := by
  rw [List.findIdx?_eq_none_iff]
  intro x hx
  obtain ⟨j, hj, rfl⟩ := List.getElem_of_mem hx
  exact ha j hj
 rw [this]
set_option maxHeartbeats 8000000 in
set_option maxRecDepth 100000 in
theorem pred_of.idx (A0 : Option Addr) (c0 : Nat) (l0 : List (S51)) (nm : ByteArray) (b : Nat) (w : World) (hr0 : Kd.C k51 w A0 l0.length l0) (hc : w.cell? ⟨b, 0, none⟩ = some (.string nm)) (hb : b < w.heap.size):
  Calls Try.prog 25 #[.slice A0 l0.length c0, .func (.func 26) #[] #[.pointer (some ⟨b, 0, none⟩)]] w fun e w' => e = .returned (.int .i64 (pred_of.find nm l0)) ∧ Below w.heap.size w w' := by
 have HR0 := Aside0.mk hr0
 have HC := Aside0.mk hc
 have HB := Aside0.mk hb
 have HL0 := Aside0.mk hr0.2.1
 clear hr0 hc hb
 go_enter Try.func25, Try.ntmps25
 go_wp2
 go_loopw [5, 8] (fun _ v wr => ∃ x : Int, 0 ≤ x ∧ x ≤ (l0.length : Int) ∧ v = .int .i64 x ∧ Aside0 (∀ i (hi : i < l0.length), (i : Int) < x → pred_of.is nm l0[i] = false) ∧ Aside0 (Below w.heap.size w wr)) (fun _ v _ => l0.length - (intOf v).toNat)
 case atStart => exact ⟨0, by omega, by omega, rfl, ⟨fun i hi h => by omega⟩, ⟨Below.refl _ _⟩⟩
 case round =>
  obtain ⟨x, h0, h1, rfl, HA, HBW⟩ := hrel
  by_cases hlt : x < (l0.length : Int)
  ·have q3 : decide (x < (l0.length : Int)) = true := decide_eq_true (by omega)
   obtain ⟨y, hy⟩ : ∃ y, wrap64 (x + 1) = y := ⟨_, rfl⟩
   have HY := Aside0.mk (show y = x + 1 by have := HL0.out; rw [← hy]; unfold wrap64; omega)
   obtain ⟨ad, e0, x0, x1, x2, x3, x4, x5, x6, x7, x8⟩ := at_T51 (Kd.C_below HR0.out HBW.out) x h0 hlt
   cases e0
   have hcall := fun W (h1 : W.cell? ⟨b, 0, none⟩ = some (.string nm)) h2 => pred_of.clo (rd_T51 l0 x) nm b W h1 h2
   have hi : x.toNat < l0.length := by omega
   have hrd : rd_T51 l0 x = l0[x.toNat] := by unfold rd_T51; simp [hi]
   have HRD := Aside0.mk (show ∃ hi : x.toNat < l0.length, rd_T51 l0 x = l0[x.toNat] from ⟨hi, hrd⟩)
   have hcb : wr.cell? ⟨b, 0, none⟩ = some (.string nm) := (HBW.out.cell (p := ⟨b, 0, none⟩) HB.out).trans HC.out
   have hbb : b < wr.heap.size := Nat.lt_of_lt_of_le HB.out HBW.out.size
   have HCB := Aside0.mk hcb
   have HBB := Aside0.mk hbb
   have HLT := Aside0.mk hlt
   have p6 := eq_true h0
   have q6 := eq_true hlt
   clear hrd hcb hbb hlt hi
   unfold pred_of.agg at hcall
   cases hq : pred_of.is nm (rd_T51 l0 x) with
   | true =>
    rw [hq] at hcall
    have HCALL := Aside0.mk hcall
    have HQ := Aside0.mk hq
    clear hcall hq
    go_wp2_with (go_at_call 26; refine (HCALL.out _ HCB.out HBB.out).mono ?_; rintro e w1 ⟨rfl, hb1⟩)
    go_ret
    have := HRD.out
    obtain ⟨hi, hrd⟩ := this
    have hf := pred_of.find_hit nm l0 x.toNat hi (by rw [← hrd]; exact HQ.out) (fun j hj hji => HA.out j hj (by omega))
    exact ⟨by rw [hf, Int.toNat_of_nonneg (by omega)]; rfl, below_then HBW.out HBW.out.size hb1⟩
   | false =>
    rw [hq] at hcall
    have HCALL := Aside0.mk hcall
    have HQ := Aside0.mk hq
    clear hcall hq
    go_wp2_with (go_at_call 26; refine (HCALL.out _ HCB.out HBB.out).mono ?_; rintro e w1 ⟨rfl, hb1⟩)
    go_roundw
    case rel => exact ⟨y, by have := HY.out; omega, by have := HY.out; have := HLT.out; omega, (by first | rfl | (rw [hy])), ⟨fun i hi hiy => by
     by_cases e : (i : Int) < x
     ·exact HA.out i hi e
     ·obtain ⟨hi2, hrd⟩ := HRD.out
      have e2 : i = x.toNat := by have := HY.out; omega
      subst e2
      rw [← hrd]; exact HQ.out⟩, ⟨below_then HBW.out HBW.out.size hb1⟩⟩
    case measure => have := HY.out; have := HLT.out; simp [intOf]; omega
  ·have q3 : decide (x < (l0.length : Int)) = false := decide_eq_false (by omega)
   have hf := pred_of.find_miss nm l0 (fun j hj => HA.out j hj (by omega))
   have HFF := Aside0.mk hf
   clear hf hlt
   go_wp2
   go_ret
   exact ⟨by rw [HFF.out]; first | rfl | done, HBW.out⟩
set_option maxHeartbeats 4000000 in
set_option maxRecDepth 100000 in
theorem pred_of.calls (A0 : Option Addr) (c0 : Nat) (l0 : List (S51)) (a1 : ByteArray) (r : Int) (w : World) (hr0 : Kd.C k51 w A0 l0.length l0) (hc0 : l0.length ≤ c0) (h : pred_of.f l0 a1 = some r) :
  Calls Try.prog 18 #[.slice A0 l0.length c0, .string a1] w fun e w' => e = .returned (.int .i64 r) ∧ Below w.heap.size w w' := by
 obtain rfl := Option.some.inj h
 have HR0 := Aside0.mk hr0
 have hmf : ∀ (fn : Fn) (first cap : Array Value) (w : World), (Instr.makeFunc fn first cap).run Try.prog w = .ok (.func fn first cap) w := fun _ _ _ _ => rfl
 clear h hr0 hc0
 go_enter Try.func18, Try.ntmps18
 go_wp2_with (go_at_call 25; refine (pred_of.idx A0 c0 l0 a1 w.heap.size _ (Kd.C_below HR0.out ((Below.refl _ _).alloc (Nat.le_refl _) _)) (by simp) (by simp)).mono ?_; rintro e w1 ⟨rfl, hb1⟩)
 go_ret
 exact ⟨rfl, below_then ((Below.refl _ _).alloc (Nat.le_refl _) _) (by simp) hb1⟩

-- NOT PRINTED: function 31 (math_Float64frombits)

/-! ### flo_Canon: function 27 -/
/-- How two floats stand to each other, by their bits. -/
def fcmp (x y : Int) : Option Ordering := FloatKind.f64.format.order x.toNat y.toNat
theorem run_frombits (n : Int) (w : World) : (callFunc 31 #[.int .u64 n]).run Try.prog w = .ok (.value (.float .f64 n.toNat)) w :=
 (run_callFunc_extern (e := Extern.MathFloatBits.float64frombits) Try.func31 (by kernel_rfl) (by kernel_rfl) (by kernel_rfl) (by rfl) _ w).trans rfl
def flo_Canon.f (a0 : Int) : Option (Int) := if (fcmp a0 a0 != some .eq) = true then some 9221120237041090560 else if (fcmp a0 0 == some .eq) = true then some 0 else some a0
theorem flo_Canon.calls (a0 : Int) (r : Int) (w : World) (h : flo_Canon.f a0 = some r) :
  Calls Try.prog 27 #[.int .u64 a0] w fun e w' => e = .returned (.int .u64 r) ∧ Drawn0 w w' := by
 unfold flo_Canon.f fcmp at h
 rw [show Int.toNat 0 = 0 from rfl] at h
 have hfb := run_frombits
 by_cases c1 : (FloatKind.f64.format.order a0.toNat a0.toNat != some .eq) = true
 ·rw [if_pos c1] at h
  obtain rfl := Option.some.inj h
  clear h
  go_enter Try.func27, Try.ntmps27
  go_wp2
  go_ret
  exact ⟨rfl, Drawn0.refl _⟩
 ·rw [if_neg c1] at h
  replace c1 := Bool.not_eq_true _ ▸ c1
  by_cases c2 : (FloatKind.f64.format.order a0.toNat 0 == some .eq) = true
  ·rw [if_pos c2] at h
   obtain rfl := Option.some.inj h
   clear h
   go_enter Try.func27, Try.ntmps27
   go_wp2
   go_ret
   exact ⟨rfl, Drawn0.refl _⟩
  ·rw [if_neg c2] at h
   replace c2 := Bool.not_eq_true _ ▸ c2
   obtain rfl := Option.some.inj h
   clear h
   go_enter Try.func27, Try.ntmps27
   go_wp2
   go_ret
   exact ⟨rfl, Drawn0.refl _⟩

/-! ### value_May: function 19 -/
def value_May.f (a0_0 a0_1 a0_2 : Int) (a0_3 : ByteArray) : Option (Bool) :=
 if a0_0 = 0 then some (a0_1 == 0 && (a0_2 == 0 && a0_3.toList.isEmpty))
 else if a0_0 = 1 then (if a0_1 = 0 then some (a0_2 == 0 && a0_3.toList.isEmpty) else if a0_1 = 1 then some (a0_2 == 0 && a0_3.toList.isEmpty) else some false)
 else if a0_0 = 2 then some (a0_2 == 0 && a0_3.toList.isEmpty)
 else if a0_0 = 3 then (flo_Canon.f a0_2).bind fun t => if t = a0_2 then some (a0_1 == 0 && a0_3.toList.isEmpty) else some false
 else if a0_0 = 4 then (if (a0_3.size : Int) > 40 then some false else some (a0_1 == 0 && a0_2 == 0))
 else if a0_0 = 5 then (if (a0_3.size : Int) > 40 then some false else some (a0_1 == 0 && a0_2 == 0))
 else some false
theorem may_below2 (w : World) (x y : Obj) : Below w.heap.size w ((w.alloc x).alloc y) := ((Below.refl _ _).alloc (Nat.le_refl _) _).alloc (by simp) _
attribute [local go_sem high] eqA40
set_option maxHeartbeats 2000000 in
set_option maxRecDepth 100000 in
theorem value_May.calls0 (a0_1 a0_2 : Int) (a0_3 : ByteArray) (w : World) :
  Calls Try.prog 19 #[.agg #[.int .i64 0, .int .i64 a0_1, .int .u64 a0_2, .string a0_3]] w fun e w' => e = .returned (.bool (a0_1 == 0 && (a0_2 == 0 && a0_3.toList.isEmpty))) ∧ Below w.heap.size w w' := by
 go_enter Try.func19, Try.ntmps19
 go_wp2
 go_ret
 exact ⟨rfl, may_below2 _ _ _⟩
set_option maxHeartbeats 2000000 in
set_option maxRecDepth 100000 in
theorem value_May.calls10 (a0_2 : Int) (a0_3 : ByteArray) (w : World) :
  Calls Try.prog 19 #[.agg #[.int .i64 1, .int .i64 0, .int .u64 a0_2, .string a0_3]] w fun e w' => e = .returned (.bool (a0_2 == 0 && a0_3.toList.isEmpty)) ∧ Below w.heap.size w w' := by
 go_enter Try.func19, Try.ntmps19
 go_wp2
 go_ret
 exact ⟨rfl, may_below2 _ _ _⟩
set_option maxHeartbeats 2000000 in
set_option maxRecDepth 100000 in
theorem value_May.calls11 (a0_2 : Int) (a0_3 : ByteArray) (w : World) :
  Calls Try.prog 19 #[.agg #[.int .i64 1, .int .i64 1, .int .u64 a0_2, .string a0_3]] w fun e w' => e = .returned (.bool (a0_2 == 0 && a0_3.toList.isEmpty)) ∧ Below w.heap.size w w' := by
 go_enter Try.func19, Try.ntmps19
 go_wp2
 go_ret
 exact ⟨rfl, may_below2 _ _ _⟩
set_option maxHeartbeats 2000000 in
set_option maxRecDepth 100000 in
theorem value_May.calls12 (a0_1 a0_2 : Int) (a0_3 : ByteArray) (w : World) (h0 : (a0_1 != 0) = true) (h1 : (a0_1 != 1) = true) :
  Calls Try.prog 19 #[.agg #[.int .i64 1, .int .i64 a0_1, .int .u64 a0_2, .string a0_3]] w fun e w' => e = .returned (.bool false) ∧ Below w.heap.size w w' := by
 go_enter Try.func19, Try.ntmps19
 go_wp2
 go_ret
 exact ⟨rfl, may_below2 _ _ _⟩
set_option maxHeartbeats 2000000 in
set_option maxRecDepth 100000 in
theorem value_May.calls2 (a0_1 a0_2 : Int) (a0_3 : ByteArray) (w : World) :
  Calls Try.prog 19 #[.agg #[.int .i64 2, .int .i64 a0_1, .int .u64 a0_2, .string a0_3]] w fun e w' => e = .returned (.bool (a0_2 == 0 && a0_3.toList.isEmpty)) ∧ Below w.heap.size w w' := by
 go_enter Try.func19, Try.ntmps19
 go_wp2
 go_ret
 exact ⟨rfl, may_below2 _ _ _⟩
set_option maxHeartbeats 2000000 in
set_option maxRecDepth 100000 in
theorem value_May.calls3y (a0_1 a0_2 : Int) (a0_3 : ByteArray) (w : World) (h : flo_Canon.f a0_2 = some a0_2) :
  Calls Try.prog 19 #[.agg #[.int .i64 3, .int .i64 a0_1, .int .u64 a0_2, .string a0_3]] w fun e w' => e = .returned (.bool (a0_1 == 0 && a0_3.toList.isEmpty)) ∧ Below w.heap.size w w' := by
 have H := Aside0.mk h
 clear h
 go_enter Try.func19, Try.ntmps19
 go_wp2_with fail
 go_quiet ((go_at_call 27; exact Calls.quiet_of ((flo_Canon.calls _ _ _ H.out).mono fun e w' h => ⟨h.1, h.2.out⟩)))
 go_wp2
 go_ret
 exact ⟨rfl, below_set (zN (may_below2 _ _ _) _) (Nat.le_succ _)⟩
set_option maxHeartbeats 2000000 in
set_option maxRecDepth 100000 in
theorem value_May.calls3n (a0_1 a0_2 t : Int) (a0_3 : ByteArray) (w : World) (h : flo_Canon.f a0_2 = some t) (hn : (t != a0_2) = true) :
  Calls Try.prog 19 #[.agg #[.int .i64 3, .int .i64 a0_1, .int .u64 a0_2, .string a0_3]] w fun e w' => e = .returned (.bool false) ∧ Below w.heap.size w w' := by
 have H := Aside0.mk h
 clear h
 go_enter Try.func19, Try.ntmps19
 go_wp2_with fail
 go_quiet ((go_at_call 27; exact Calls.quiet_of ((flo_Canon.calls _ _ _ H.out).mono fun e w' h => ⟨h.1, h.2.out⟩)))
 go_wp2
 go_ret
 exact ⟨rfl, zN (may_below2 _ _ _) _⟩
set_option maxHeartbeats 2000000 in
set_option maxRecDepth 100000 in
theorem value_May.calls4y (a0_1 a0_2 : Int) (a0_3 : ByteArray) (w : World) (h : decide (40 < (a0_3.size : Int)) = false) :
  Calls Try.prog 19 #[.agg #[.int .i64 4, .int .i64 a0_1, .int .u64 a0_2, .string a0_3]] w fun e w' => e = .returned (.bool (a0_1 == 0 && a0_2 == 0)) ∧ Below w.heap.size w w' := by
 go_enter Try.func19, Try.ntmps19
 go_wp2
 go_ret
 exact ⟨rfl, may_below2 _ _ _⟩
set_option maxHeartbeats 2000000 in
set_option maxRecDepth 100000 in
theorem value_May.calls4n (a0_1 a0_2 : Int) (a0_3 : ByteArray) (w : World) (h : decide (40 < (a0_3.size : Int)) = true) :
  Calls Try.prog 19 #[.agg #[.int .i64 4, .int .i64 a0_1, .int .u64 a0_2, .string a0_3]] w fun e w' => e = .returned (.bool false) ∧ Below w.heap.size w w' := by
 go_enter Try.func19, Try.ntmps19
 go_wp2
 go_ret
 exact ⟨rfl, may_below2 _ _ _⟩
set_option maxHeartbeats 2000000 in
set_option maxRecDepth 100000 in
theorem value_May.calls5y (a0_1 a0_2 : Int) (a0_3 : ByteArray) (w : World) (h : decide (40 < (a0_3.size : Int)) = false) :
  Calls Try.prog 19 #[.agg #[.int .i64 5, .int .i64 a0_1, .int .u64 a0_2, .string a0_3]] w fun e w' => e = .returned (.bool (a0_1 == 0 && a0_2 == 0)) ∧ Below w.heap.size w w' := by
 go_enter Try.func19, Try.ntmps19
 go_wp2
 go_ret
 exact ⟨rfl, may_below2 _ _ _⟩
set_option maxHeartbeats 2000000 in
set_option maxRecDepth 100000 in
theorem value_May.calls5n (a0_1 a0_2 : Int) (a0_3 : ByteArray) (w : World) (h : decide (40 < (a0_3.size : Int)) = true) :
  Calls Try.prog 19 #[.agg #[.int .i64 5, .int .i64 a0_1, .int .u64 a0_2, .string a0_3]] w fun e w' => e = .returned (.bool false) ∧ Below w.heap.size w w' := by
 go_enter Try.func19, Try.ntmps19
 go_wp2
 go_ret
 exact ⟨rfl, may_below2 _ _ _⟩
set_option maxHeartbeats 2000000 in
set_option maxRecDepth 100000 in
theorem value_May.calls6 (a0_0 a0_1 a0_2 : Int) (a0_3 : ByteArray) (w : World) (h0 : (a0_0 == 0) = false) (h1 : (a0_0 == 1) = false) (h2 : (a0_0 == 2) = false) (h3 : (a0_0 == 3) = false) (h4 : (a0_0 == 4) = false) (h5 : (a0_0 == 5) = false) :
  Calls Try.prog 19 #[.agg #[.int .i64 a0_0, .int .i64 a0_1, .int .u64 a0_2, .string a0_3]] w fun e w' => e = .returned (.bool false) ∧ Below w.heap.size w w' := by
 go_enter Try.func19, Try.ntmps19
 go_wp2
 go_ret
 exact ⟨rfl, may_below2 _ _ _⟩
theorem value_May.calls (a0_0 a0_1 a0_2 : Int) (a0_3 : ByteArray) (r : Bool) (w : World) (h : value_May.f a0_0 a0_1 a0_2 a0_3 = some r) :
  Calls Try.prog 19 #[.agg #[.int .i64 a0_0, .int .i64 a0_1, .int .u64 a0_2, .string a0_3]] w fun e w' => e = .returned (.bool r) ∧ Below w.heap.size w w' := by
 unfold value_May.f at h
 by_cases c0 : a0_0 = 0
 ·rw [if_pos c0] at h; obtain rfl := Option.some.inj h; subst c0; exact value_May.calls0 _ _ _ _
 rw [if_neg c0] at h
 by_cases c1 : a0_0 = 1
 ·rw [if_pos c1] at h; subst c1
  by_cases d0 : a0_1 = 0
  ·rw [if_pos d0] at h; obtain rfl := Option.some.inj h; subst d0; exact value_May.calls10 _ _ _
  rw [if_neg d0] at h
  by_cases d1 : a0_1 = 1
  ·rw [if_pos d1] at h; obtain rfl := Option.some.inj h; subst d1; exact value_May.calls11 _ _ _
  rw [if_neg d1] at h; obtain rfl := Option.some.inj h
  exact value_May.calls12 _ _ _ _ (bne_iff_ne.mpr d0) (bne_iff_ne.mpr d1)
 rw [if_neg c1] at h
 by_cases c2 : a0_0 = 2
 ·rw [if_pos c2] at h; obtain rfl := Option.some.inj h; subst c2; exact value_May.calls2 _ _ _ _
 rw [if_neg c2] at h
 by_cases c3 : a0_0 = 3
 ·rw [if_pos c3] at h; subst c3
  cases ht : flo_Canon.f a0_2 with
  | none => rw [ht] at h; cases h
  | some t =>
   rw [ht, Option.bind_some] at h
   by_cases d : t = a0_2
   ·rw [if_pos d] at h; obtain rfl := Option.some.inj h; rw [d] at ht; exact value_May.calls3y _ _ _ _ ht
   ·rw [if_neg d] at h; obtain rfl := Option.some.inj h; exact value_May.calls3n _ _ _ _ _ ht (bne_iff_ne.mpr d)
 rw [if_neg c3] at h
 by_cases c4 : a0_0 = 4
 ·rw [if_pos c4] at h; subst c4
  by_cases d : (a0_3.size : Int) > 40
  ·rw [if_pos d] at h; obtain rfl := Option.some.inj h; exact value_May.calls4n _ _ _ _ (decide_eq_true d)
  ·rw [if_neg d] at h; obtain rfl := Option.some.inj h; exact value_May.calls4y _ _ _ _ (decide_eq_false d)
 rw [if_neg c4] at h
 by_cases c5 : a0_0 = 5
 ·rw [if_pos c5] at h; subst c5
  by_cases d : (a0_3.size : Int) > 40
  ·rw [if_pos d] at h; obtain rfl := Option.some.inj h; exact value_May.calls5n _ _ _ _ (decide_eq_true d)
  ·rw [if_neg d] at h; obtain rfl := Option.some.inj h; exact value_May.calls5y _ _ _ _ (decide_eq_false d)
 rw [if_neg c5] at h
 obtain rfl := Option.some.inj h
 exact value_May.calls6 _ _ _ _ _ (beq_eq_false_iff_ne.mpr c0) (beq_eq_false_iff_ne.mpr c1) (beq_eq_false_iff_ne.mpr c2) (beq_eq_false_iff_ne.mpr c3) (beq_eq_false_iff_ne.mpr c4) (beq_eq_false_iff_ne.mpr c5)

end Go.Proofs.Ytcjnmnelhpjhfaa.PA
