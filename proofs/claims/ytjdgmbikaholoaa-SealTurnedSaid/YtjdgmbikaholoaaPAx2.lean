/- Contracts of the Go functions of this seat: what each call returns is what a Lean function of its arguments says; each theorem bears its own conditions. Written by a program of this session (wip/tools/mkprint.py). -/
import Derived.Test.YtjdgmbikaholoaaPAx0
import Derived.Test.YtjdgmbikaholoaaPAx1
namespace Go.Proofs.Ytjdgmbikaholoaa.PA
open Go.RowKit Go.Proofs.YtjdgmbikaholoaaW.PrintWords Go.Proofs.YtjdgmbikaholoaaW.PrintLast Go.Proofs.YtjdgmbikaholoaaW.PrintMore
attribute [local go_sem] max2_int min2_int max_two min_two max_three min_three max_four min_four   -- for this text's walks alone
set_option linter.unusedVariables false
set_option linter.unusedSimpArgs false

attribute [local go_sem ↓ high] unary_xor_u32 ux_if_u32
attribute [local go_sem] str_gtr str_leq str_geq
/-! ### falseworklaw5_SealSums: function 3 -/
def falseworklaw5_SealSums.f (k : Nat) (a0 : ByteArray) : Option (Bool) := if (a0.size : Int) > 20000 then (some true) else ((seal_Sum.f k a0).bind fun t103 => ((falseworkref4_Sum.f k a0).bind fun t104 => (if t103 = t104 then ((falseworklaw5_awake.f k).bind fun t105 => (some t105)) else (some false))))
theorem falseworklaw5_SealSums.mono : ∀ a0 k, LeO (falseworklaw5_SealSums.f k a0) (falseworklaw5_SealSums.f (k + 1) a0) := by
  intro a0 k
  unfold falseworklaw5_SealSums.f
  repeat' first
      | (with_reducible exact falseworklaw5_awake.mono _)
      | (with_reducible exact falseworkref4_Sum.mono _ _)
      | (with_reducible exact seal_Sum.mono _ _)
      | (with_reducible exact LeO.refl _)
      | (with_reducible exact LeO.none _)
      | (with_reducible refine LeO.ite ?_ ?_)
      | (with_reducible refine LeO.bind ?_ (fun _ => ?_))
      | exact falseworklaw5_awake.mono _
      | exact falseworkref4_Sum.mono _ _
      | exact seal_Sum.mono _ _
      | exact LeO.none _
      | refine LeO.ite ?_ ?_
      | refine LeO.bind ?_ (fun _ => ?_)
set_option maxHeartbeats 8000000 in
set_option maxRecDepth 100000 in
theorem falseworklaw5_SealSums.calls (k : Nat) (a0 : ByteArray) (r : Bool) (w : World) (h : falseworklaw5_SealSums.f k a0 = some r) :
    Calls Try.prog 3 #[.string a0] w fun e w' => e = .returned (.bool r) ∧ Drawn0 w w' := by
  have H : (if (a0.size : Int) > 20000 then (some true) else ((seal_Sum.f k a0).bind fun t103 => ((falseworkref4_Sum.f k a0).bind fun t104 => (if t103 = t104 then ((falseworklaw5_awake.f k).bind fun t105 => (some t105)) else (some false))))) = some r := h
  clear h
  by_cases c2 : (a0.size : Int) > 20000
  · rw [if_pos c2] at H
    have c2b0 : decide (20000 < (a0.size : Int)) = true := decide_eq_true c2
    have c2b1 : decide (20000 < a0.size) = true := decide_eq_true (by omega)
    clear c2
    obtain rfl := Option.some.inj H
    go_enter Try.func3, Try.ntmps3
    go_wp2
    go_ret
    exact ⟨by first | rfl | (simp; done) | (simp [*]; done), by repeat (first | exact Drawn0.refl _ | apply Drawn0.step)⟩
  · rw [if_neg c2] at H
    have c2b0 : decide (20000 < (a0.size : Int)) = false := decide_eq_false c2
    have c2b1 : decide (20000 < a0.size) = false := decide_eq_false (by omega)
    clear c2
    replace H := Option.bind_eq_some_iff.mp H
    obtain ⟨t103, A30, H⟩ := H
    replace H : ((falseworkref4_Sum.f k a0).bind fun t104 => (if t103 = t104 then ((falseworklaw5_awake.f k).bind fun t105 => (some t105)) else (some false))) = some r := H
    have A3 := Aside0.mk A30
    clear A30
    replace H := Option.bind_eq_some_iff.mp H
    obtain ⟨t104, A40, H⟩ := H
    replace H : (if t103 = t104 then ((falseworklaw5_awake.f k).bind fun t105 => (some t105)) else (some false)) = some r := H
    have A4 := Aside0.mk A40
    clear A40
    by_cases c5 : t103 = t104
    · rw [if_pos c5] at H
      have c5b0 : (t103 == t104) = true := beq_iff_eq.mpr c5
      have c5b1 : (t103 != t104) = false := bne_eq_false_iff_eq.mpr c5
      clear c5
      replace H := Option.bind_eq_some_iff.mp H
      obtain ⟨t105, A60, H⟩ := H
      replace H : (some t105) = some r := H
      have A6 := Aside0.mk A60
      clear A60
      obtain rfl := Option.some.inj H
      go_enter Try.func3, Try.ntmps3
      go_wp2_with (first | (go_at_call 8; (with_reducible refine (seal_Sum.calls k a0 t103 _ A3.out).mono ?_); rintro e w' ⟨rfl, ⟨nd, rfl⟩⟩) | (go_at_call 9; (with_reducible refine (falseworkref4_Sum.calls k a0 t104 _ A4.out).mono ?_); rintro e w' ⟨rfl, ⟨nd, rfl⟩⟩) | (go_at_call 10; (with_reducible refine (falseworklaw5_awake.calls k  t105 _ A6.out).mono ?_); rintro e w' ⟨rfl, ⟨nd, rfl⟩⟩))
      go_ret
      exact ⟨by first | rfl | (simp; done) | (simp [*]; done), by repeat (first | exact Drawn0.refl _ | apply Drawn0.step)⟩
    · rw [if_neg c5] at H
      have c5b0 : (t103 == t104) = false := beq_eq_false_iff_ne.mpr c5
      have c5b1 : (t103 != t104) = true := bne_iff_ne.mpr c5
      obtain rfl := Option.some.inj H
      go_enter Try.func3, Try.ntmps3
      go_wp2_with (first | (go_at_call 8; (with_reducible refine (seal_Sum.calls k a0 t103 _ A3.out).mono ?_); rintro e w' ⟨rfl, ⟨nd, rfl⟩⟩) | (go_at_call 9; (with_reducible refine (falseworkref4_Sum.calls k a0 t104 _ A4.out).mono ?_); rintro e w' ⟨rfl, ⟨nd, rfl⟩⟩))
      go_ret
      exact ⟨by first | rfl | (simp; done) | (simp [*]; done), by repeat (first | exact Drawn0.refl _ | apply Drawn0.step)⟩

/-- THE ONE PURE STATEMENT of falseworklaw5_SealSums: yours. -/
def falseworklaw5_SealSums.Pure : Prop := ∀ (a0 : ByteArray), a0.size ≤ 140737488351232 → ∃ k, falseworklaw5_SealSums.f k a0 = some true
theorem falseworklaw5_SealSums.walk (P : falseworklaw5_SealSums.Pure) (a0 : ByteArray) (w : World) (w0 : a0.size ≤ 140737488351232) :
    Calls Try.prog 3 #[.string a0] w fun e w' => e = .returned (.bool true) ∧ Below w.heap.size w w' := by
  obtain ⟨k, h⟩ := P a0 w0
  refine (falseworklaw5_SealSums.calls k a0 true w h).mono ?_
  rintro e w' ⟨rfl, hd⟩
  exact ⟨rfl, hd.below⟩

/-! ### falseworklaw5_SealTwo: function 4 -/
/-- One byte turned, and all four. -/
def falseworklaw5_SealTwo.put (xs : List Int) (m b : Int) : List Int := xs.set m.toNat (Go.bits .xor .u8 (rd xs m) b)
def falseworklaw5_SealTwo.row (xs : List Int) (m b : Int) : Nat → List Int
  | 0 => xs
  | 1 => falseworklaw5_SealTwo.put xs (m + 0) (b % 256)
  | 2 => falseworklaw5_SealTwo.put (falseworklaw5_SealTwo.put xs (m + 0) (b % 256)) (m + 1) (b / 256 % 256)
  | 3 => falseworklaw5_SealTwo.put (falseworklaw5_SealTwo.put (falseworklaw5_SealTwo.put xs (m + 0) (b % 256)) (m + 1) (b / 256 % 256)) (m + 2) (b / 65536 % 256)
  | _ => falseworklaw5_SealTwo.put (falseworklaw5_SealTwo.put (falseworklaw5_SealTwo.put (falseworklaw5_SealTwo.put xs (m + 0) (b % 256)) (m + 1) (b / 256 % 256)) (m + 2) (b / 65536 % 256)) (m + 3) (b / 16777216)
theorem falseworklaw5_SealTwo.row_length (xs : List Int) (m b : Int) (j : Nat) : (falseworklaw5_SealTwo.row xs m b j).length = xs.length := by
  rcases j with _ | _ | _ | _ | j <;> simp [falseworklaw5_SealTwo.row, falseworklaw5_SealTwo.put]
def falseworklaw5_SealTwo.g (k : Nat) (a0 : ByteArray) (a1 a2 : Int) : Option Bool :=
  if 0 ≤ a2 then (if a2 ≤ 4294967295 then (seal_Sum.f k (strOfNums (falseworklaw5_SealTwo.row (bytesOf a0) ((a1 % 18446744073709551616) % ((a0.size : Int) - 3)) a2 4))).bind fun x =>
    (seal_Sum.f k a0).bind fun y => if x = y then some false else falseworklaw5_awake.f k else none) else none
def falseworklaw5_SealTwo.f (k : Nat) (a0 : ByteArray) (a1 : Int) (a2 : Int) : Option (Bool) :=
  if (a0.size : Int) < 4 then falseworklaw5_awake.f k else
  if (a0.size : Int) > 20000 then falseworklaw5_awake.f k else
  if a2 = 0 then falseworklaw5_awake.f k else falseworklaw5_SealTwo.g k a0 a1 a2
theorem falseworklaw5_SealTwo.mono : ∀ a0 a1 a2 k, LeO (falseworklaw5_SealTwo.f k a0 a1 a2) (falseworklaw5_SealTwo.f (k + 1) a0 a1 a2) := by
  intro a0 a1 a2 k
  unfold falseworklaw5_SealTwo.f falseworklaw5_SealTwo.g
  repeat' first
      | (with_reducible exact falseworklaw5_awake.mono _)
      | (with_reducible exact seal_Sum.mono _ _)
      | (with_reducible exact LeO.refl _)
      | (with_reducible exact LeO.none _)
      | (with_reducible refine LeO.ite ?_ ?_)
      | (with_reducible refine LeO.bind ?_ (fun _ => ?_))
set_option maxHeartbeats 4000000 in
set_option maxRecDepth 100000 in
theorem falseworklaw5_SealTwo.walk0 (k : Nat) (a0 : ByteArray) (a1 a2 : Int) (r : Bool) (w : World) (c : (a0.size : Int) < 4 ∨ (¬ (a0.size : Int) < 4 ∧ ((a0.size : Int) > 20000 ∨ (¬ (a0.size : Int) > 20000 ∧ a2 = 0)))) (h : falseworklaw5_awake.f k = some r) :
    Calls Try.prog 4 #[.string a0, .int .i64 a1, .int .u32 a2] w fun e w' => e = .returned (.bool r) ∧ Below w.heap.size w w' := by
  have H := Aside0.mk h
  clear h
  rcases c with c | ⟨c0, c | ⟨c1, c2⟩⟩
  · have cb0 : decide ((a0.size : Int) < 4) = true := decide_eq_true c
    have cb1 : decide (a0.size < 4) = true := decide_eq_true (by omega)
    clear c
    go_enter Try.func4, Try.ntmps4
    go_wp2_with (go_at_call 10; refine (falseworklaw5_awake.calls _ _ _ H.out).mono ?_; rintro e w1 ⟨rfl, hd⟩)
    go_ret
    exact ⟨rfl, hd.below⟩
  · have cb0 : decide ((a0.size : Int) < 4) = false := decide_eq_false c0
    have cb1 : decide (a0.size < 4) = false := decide_eq_false (by omega)
    have cb2 : decide (20000 < (a0.size : Int)) = true := decide_eq_true c
    have cb3 : decide (20000 < a0.size) = true := decide_eq_true (by omega)
    clear c c0
    go_enter Try.func4, Try.ntmps4
    go_wp2_with (go_at_call 10; refine (falseworklaw5_awake.calls _ _ _ H.out).mono ?_; rintro e w1 ⟨rfl, hd⟩)
    go_ret
    exact ⟨rfl, hd.below⟩
  · have cb0 : decide ((a0.size : Int) < 4) = false := decide_eq_false c0
    have cb1 : decide (a0.size < 4) = false := decide_eq_false (by omega)
    have cb2 : decide (20000 < (a0.size : Int)) = false := decide_eq_false c1
    have cb3 : decide (20000 < a0.size) = false := decide_eq_false (by omega)
    subst c2
    clear c0 c1
    go_enter Try.func4, Try.ntmps4
    go_wp2_with (go_at_call 10; refine (falseworklaw5_awake.calls _ _ _ H.out).mono ?_; rintro e w1 ⟨rfl, hd⟩)
    go_ret
    exact ⟨rfl, hd.below⟩
set_option maxHeartbeats 4000000 in
set_option maxRecDepth 100000 in
theorem falseworklaw5_SealTwo.walk1 (k : Nat) (a0 S : ByteArray) (a1 a2 m s1 s2 : Int) (r : Bool) (w : World) (c0 : ¬ (a0.size : Int) < 4) (c1 : ¬ (a0.size : Int) > 20000) (c2 : ¬ a2 = 0) (ha0 : 0 ≤ a2) (ha1 : a2 ≤ 4294967295)
    (hm : wrap64 ((IntKind.u64.wrap a1).tmod ((a0.size : Int) - 3)) = m) (hm0 : 0 ≤ m) (hm1 : m < (a0.size : Int) - 3) (hS : strOfNums (falseworklaw5_SealTwo.row (bytesOf a0) m a2 4) = S)
    (h1 : seal_Sum.f k S = some s1) (h2 : seal_Sum.f k a0 = some s2) (h3 : (if s1 = s2 then some false else falseworklaw5_awake.f k) = some r) :
    Calls Try.prog 4 #[.string a0, .int .i64 a1, .int .u32 a2] w fun e w' => e = .returned (.bool r) ∧ Below w.heap.size w w' := by
  have H1 := Aside0.mk h1
  have H2 := Aside0.mk h2
  have H3 := Aside0.mk h3
  have HS := Aside0.mk hS
  have HSZ := Aside0.mk (show a0.size ≤ 20000 by omega)
  have cb0 : decide ((a0.size : Int) < 4) = false := decide_eq_false c0
  have cb1 : decide (a0.size < 4) = false := decide_eq_false (by omega)
  have cb2 : decide (20000 < (a0.size : Int)) = false := decide_eq_false c1
  have cb3 : decide (20000 < a0.size) = false := decide_eq_false (by omega)
  have cb4 : (a2 == 0) = false := beq_eq_false_iff_ne.mpr c2
  have hsub : IntKind.i64.wrap ((a0.size : Int) - 3) = (a0.size : Int) - 3 := by rw [i64_w]; unfold wrap64; omega
  have hsub2 : IntKind.u64.wrap ((a0.size : Int) - 3) = (a0.size : Int) - 3 := by simp [IntKind.wrap, IntKind.bits, IntKind.signed]; omega
  have hne : ((a0.size : Int) - 3 == 0) = false := beq_eq_false_iff_ne.mpr (by omega)
  have kb := fun (s : ByteArray) (W : World) => print_bytes (P := Try.prog) 9 27 5 Try.underlying9 Try.underlying27 Try.underlying5 s W
  have HM0 := MRow.new w 5 a0
  have HMA := Aside0.mk HM0
  have hbl := bytesOf_length a0
  have HBL := Aside0.mk hbl
  have HB := Aside0.mk (bytes_below (Below.refl w.heap.size w) (Nat.le_refl _) 5 a0)
  clear h1 h2 h3 hS c0 c1 c2 HM0 hbl
  go_enter Try.func4, Try.ntmps4
  go_wp2_with fail
  go_loopw [9] (fun i wr => ∃ j : Nat, j ≤ 4 ∧ i = .int .i64 j ∧ Aside0 (MRow wr w.heap.size 5 (falseworklaw5_SealTwo.row (bytesOf a0) m a2 j)) ∧ Aside0 (Below w.heap.size w wr)) (fun i _ => 4 - (intOf i).toNat)
  case atStart => exact ⟨0, by omega, rfl, HMA, HB⟩
  case round =>
    obtain ⟨j, hj, rfl, hM, hB⟩ := hrel
    obtain rfl | rfl | rfl | rfl | rfl : j = 0 ∨ j = 1 ∨ j = 2 ∨ j = 3 ∨ j = 4 := by omega
    · obtain ⟨y, hy⟩ : ∃ y, wrap64 (m) = y := ⟨_, rfl⟩
      have hy' : y = m + 0 := by have := HSZ.out; rw [← hy]; unfold wrap64; omega
      have hl := falseworklaw5_SealTwo.row_length (bytesOf a0) m a2 0
      obtain ⟨hc, hf⟩ := hM.out.at_ y (by omega) (by rw [hl, HBL.out]; omega)
      have hM2 := hM.out.set_ y (Go.bits .xor .u8 (rd (falseworklaw5_SealTwo.row (bytesOf a0) m a2 0) y) (a2 % 256)) (by omega) (by rw [hl, HBL.out]; omega)
      obtain ⟨v, hv⟩ : ∃ v, rd (falseworklaw5_SealTwo.row (bytesOf a0) m a2 0) y = v := ⟨_, rfl⟩
      rw [hv] at hc hM2
      have HM2 := Aside0.mk hM2
      have HV := Aside0.mk hv
      have HY := Aside0.mk hy'
      have p1 := eq_true (show 0 ≤ y by omega)
      have p2 := eq_true (show y < (a0.size : Int) by omega)
      clear hl hM2 hv hy'
      go_wp2
      go_roundw
      case rel => exact ⟨1, by omega, by go_num, ⟨by
        have h := HM2.out
        have e : (falseworklaw5_SealTwo.row (bytesOf a0) m a2 0).set y.toNat (Go.bits .xor .u8 v (a2 % 256)) = (falseworklaw5_SealTwo.put (falseworklaw5_SealTwo.row (bytesOf a0) m a2 0) (m + 0) (a2 % 256)) := by rw [← HV.out, HY.out]; rfl
        rw [e] at h
        exact h⟩, ⟨below_set hB.out (Nat.le_refl _)⟩⟩
      case measure => simp [intOf]
    · obtain ⟨y, hy⟩ : ∃ y, wrap64 (m + 1) = y := ⟨_, rfl⟩
      have hy' : y = m + 1 := by have := HSZ.out; rw [← hy]; unfold wrap64; omega
      have hl := falseworklaw5_SealTwo.row_length (bytesOf a0) m a2 1
      obtain ⟨hc, hf⟩ := hM.out.at_ y (by omega) (by rw [hl, HBL.out]; omega)
      have hM2 := hM.out.set_ y (Go.bits .xor .u8 (rd (falseworklaw5_SealTwo.row (bytesOf a0) m a2 1) y) (a2 / 256 % 256)) (by omega) (by rw [hl, HBL.out]; omega)
      obtain ⟨v, hv⟩ : ∃ v, rd (falseworklaw5_SealTwo.row (bytesOf a0) m a2 1) y = v := ⟨_, rfl⟩
      rw [hv] at hc hM2
      have HM2 := Aside0.mk hM2
      have HV := Aside0.mk hv
      have HY := Aside0.mk hy'
      have p1 := eq_true (show 0 ≤ y by omega)
      have p2 := eq_true (show y < (a0.size : Int) by omega)
      clear hl hM2 hv hy'
      go_wp2
      go_roundw
      case rel => exact ⟨2, by omega, by go_num, ⟨by
        have h := HM2.out
        have e : (falseworklaw5_SealTwo.row (bytesOf a0) m a2 1).set y.toNat (Go.bits .xor .u8 v (a2 / 256 % 256)) = (falseworklaw5_SealTwo.put (falseworklaw5_SealTwo.row (bytesOf a0) m a2 1) (m + 1) (a2 / 256 % 256)) := by rw [← HV.out, HY.out]; rfl
        rw [e] at h
        exact h⟩, ⟨below_set hB.out (Nat.le_refl _)⟩⟩
      case measure => simp [intOf]
    · obtain ⟨y, hy⟩ : ∃ y, wrap64 (m + 2) = y := ⟨_, rfl⟩
      have hy' : y = m + 2 := by have := HSZ.out; rw [← hy]; unfold wrap64; omega
      have hl := falseworklaw5_SealTwo.row_length (bytesOf a0) m a2 2
      obtain ⟨hc, hf⟩ := hM.out.at_ y (by omega) (by rw [hl, HBL.out]; omega)
      have hM2 := hM.out.set_ y (Go.bits .xor .u8 (rd (falseworklaw5_SealTwo.row (bytesOf a0) m a2 2) y) (a2 / 65536 % 256)) (by omega) (by rw [hl, HBL.out]; omega)
      obtain ⟨v, hv⟩ : ∃ v, rd (falseworklaw5_SealTwo.row (bytesOf a0) m a2 2) y = v := ⟨_, rfl⟩
      rw [hv] at hc hM2
      have HM2 := Aside0.mk hM2
      have HV := Aside0.mk hv
      have HY := Aside0.mk hy'
      have p1 := eq_true (show 0 ≤ y by omega)
      have p2 := eq_true (show y < (a0.size : Int) by omega)
      clear hl hM2 hv hy'
      go_wp2
      go_roundw
      case rel => exact ⟨3, by omega, by go_num, ⟨by
        have h := HM2.out
        have e : (falseworklaw5_SealTwo.row (bytesOf a0) m a2 2).set y.toNat (Go.bits .xor .u8 v (a2 / 65536 % 256)) = (falseworklaw5_SealTwo.put (falseworklaw5_SealTwo.row (bytesOf a0) m a2 2) (m + 2) (a2 / 65536 % 256)) := by rw [← HV.out, HY.out]; rfl
        rw [e] at h
        exact h⟩, ⟨below_set hB.out (Nat.le_refl _)⟩⟩
      case measure => simp [intOf]
    · obtain ⟨y, hy⟩ : ∃ y, wrap64 (m + 3) = y := ⟨_, rfl⟩
      have hy' : y = m + 3 := by have := HSZ.out; rw [← hy]; unfold wrap64; omega
      have hl := falseworklaw5_SealTwo.row_length (bytesOf a0) m a2 3
      obtain ⟨hc, hf⟩ := hM.out.at_ y (by omega) (by rw [hl, HBL.out]; omega)
      have hM2 := hM.out.set_ y (Go.bits .xor .u8 (rd (falseworklaw5_SealTwo.row (bytesOf a0) m a2 3) y) (a2 / 16777216)) (by omega) (by rw [hl, HBL.out]; omega)
      obtain ⟨v, hv⟩ : ∃ v, rd (falseworklaw5_SealTwo.row (bytesOf a0) m a2 3) y = v := ⟨_, rfl⟩
      rw [hv] at hc hM2
      have HM2 := Aside0.mk hM2
      have HV := Aside0.mk hv
      have HY := Aside0.mk hy'
      have p1 := eq_true (show 0 ≤ y by omega)
      have p2 := eq_true (show y < (a0.size : Int) by omega)
      clear hl hM2 hv hy'
      go_wp2
      go_roundw
      case rel => exact ⟨4, by omega, by go_num, ⟨by
        have h := HM2.out
        have e : (falseworklaw5_SealTwo.row (bytesOf a0) m a2 3).set y.toNat (Go.bits .xor .u8 v (a2 / 16777216)) = (falseworklaw5_SealTwo.put (falseworklaw5_SealTwo.row (bytesOf a0) m a2 3) (m + 3) (a2 / 16777216)) := by rw [← HV.out, HY.out]; rfl
        rw [e] at h
        exact h⟩, ⟨below_set hB.out (Nat.le_refl _)⟩⟩
      case measure => simp [intOf]
    · have hstr := fun cap => MRow.str (P := Try.prog) (src := 27) (dst := 9) (e := 5) Try.underlying27 Try.underlying5 Try.underlying9 hM.out a0.size cap (by rw [falseworklaw5_SealTwo.row_length]; exact HBL.out)
      rw [HS.out] at hstr
      clear hM
      have h3 := H3.out
      by_cases e3 : s1 = s2
      · rw [if_pos e3] at h3
        obtain rfl := Option.some.inj h3
        have eb : (s1 != s2) = false := bne_eq_false_iff_eq.mpr e3
        clear h3 H3 e3
        go_wp2_with (first
          | (go_at_call 8; refine (seal_Sum.calls _ _ _ _ H1.out).mono ?_; clear H1; rintro e w1 ⟨rfl, hd⟩; replace hB := (Aside0.mk (below_then hB.out hB.out.size hd.below)))
          | (go_at_call 8; refine (seal_Sum.calls _ _ _ _ H2.out).mono ?_; rintro e w2 ⟨rfl, hd2⟩; replace hB := (Aside0.mk (below_then hB.out hB.out.size hd2.below))))
        go_ret
        exact ⟨rfl, hB.out⟩
      · rw [if_neg e3] at h3
        have H5 := Aside0.mk h3
        have eb : (s1 != s2) = true := bne_iff_ne.mpr e3
        clear h3 H3 e3
        go_wp2_with (first
          | (go_at_call 8; refine (seal_Sum.calls _ _ _ _ H1.out).mono ?_; clear H1; rintro e w1 ⟨rfl, hd⟩; replace hB := (Aside0.mk (below_then hB.out hB.out.size hd.below)))
          | (go_at_call 8; refine (seal_Sum.calls _ _ _ _ H2.out).mono ?_; rintro e w2 ⟨rfl, hd2⟩; replace hB := (Aside0.mk (below_then hB.out hB.out.size hd2.below)))
          | (go_at_call 10; refine (falseworklaw5_awake.calls _ _ _ H5.out).mono ?_; rintro e w4 ⟨rfl, hd4⟩; replace hB := (Aside0.mk (below_then hB.out hB.out.size hd4.below))))
        go_ret
        exact ⟨rfl, hB.out⟩
theorem falseworklaw5_SealTwo.calls (k : Nat) (a0 : ByteArray) (a1 a2 : Int) (r : Bool) (w : World) (h : falseworklaw5_SealTwo.f k a0 a1 a2 = some r) :
    Calls Try.prog 4 #[.string a0, .int .i64 a1, .int .u32 a2] w fun e w' => e = .returned (.bool r) ∧ Below w.heap.size w w' := by
  unfold falseworklaw5_SealTwo.f at h
  by_cases c0 : (a0.size : Int) < 4
  · rw [if_pos c0] at h; exact falseworklaw5_SealTwo.walk0 k a0 a1 a2 r w (.inl c0) h
  rw [if_neg c0] at h
  by_cases c1 : (a0.size : Int) > 20000
  · rw [if_pos c1] at h; exact falseworklaw5_SealTwo.walk0 k a0 a1 a2 r w (.inr ⟨c0, .inl c1⟩) h
  rw [if_neg c1] at h
  by_cases c2 : a2 = 0
  · rw [if_pos c2] at h; exact falseworklaw5_SealTwo.walk0 k a0 a1 a2 r w (.inr ⟨c0, .inr ⟨c1, c2⟩⟩) h
  rw [if_neg c2] at h
  unfold falseworklaw5_SealTwo.g at h
  by_cases d0 : 0 ≤ a2
  · rw [if_pos d0] at h
    by_cases d1 : a2 ≤ 4294967295
    · rw [if_pos d1] at h
      have hx0 := Int.emod_nonneg (a1 % 18446744073709551616) (show (a0.size : Int) - 3 ≠ 0 by omega)
      have hx1 := Int.emod_lt_of_pos (a1 % 18446744073709551616) (show 0 < (a0.size : Int) - 3 by omega)
      have hw : wrap64 ((IntKind.u64.wrap a1).tmod ((a0.size : Int) - 3)) = (a1 % 18446744073709551616) % ((a0.size : Int) - 3) := by
        have hu : IntKind.u64.wrap a1 = a1 % 18446744073709551616 := by simp [IntKind.wrap, IntKind.bits, IntKind.signed]
        rw [hu, Int.tmod_eq_emod_of_nonneg (Int.emod_nonneg _ (by decide))]
        unfold wrap64; omega
      cases hp : seal_Sum.f k (strOfNums (falseworklaw5_SealTwo.row (bytesOf a0) ((a1 % 18446744073709551616) % ((a0.size : Int) - 3)) a2 4)) with
      | none => rw [hp] at h; cases h
      | some x =>
        rw [hp, Option.bind_some] at h
        cases hq : seal_Sum.f k a0 with
        | none => rw [hq] at h; cases h
        | some y =>
          rw [hq, Option.bind_some] at h
          exact falseworklaw5_SealTwo.walk1 k a0 _ a1 a2 _ x y r w c0 c1 c2 d0 d1 hw hx0 hx1 rfl hp hq h
    · rw [if_neg d1] at h; cases h
  · rw [if_neg d0] at h; cases h

/-! ### seal_Put: function 13 -/
def seal_Put.f (k : Nat) (a0 : ByteArray) : Option (ByteArray) := (seal_Sum.f k a0).bind fun t106 => ((some (([(t106 / 16777216) % 256, (t106 / 65536) % 256, (t106 / 256) % 256, (t106) % 256] : List Int) : List Int)).bind fun y107 => (if a0.size + (strOfNums y107).size ≤ 9223372036854775807 then (some (a0 ++ (strOfNums y107))) else (none)))
theorem seal_Put.mono : ∀ a0 k, LeO (seal_Put.f k a0) (seal_Put.f (k + 1) a0) := by
  intro a0 k
  unfold seal_Put.f
  repeat' first
      | (with_reducible exact seal_Sum.mono _ _)
      | (with_reducible exact LeO.refl _)
      | (with_reducible exact LeO.none _)
      | (with_reducible refine LeO.ite ?_ ?_)
      | (with_reducible refine LeO.bind ?_ (fun _ => ?_))
      | exact seal_Sum.mono _ _
      | exact LeO.none _
      | refine LeO.ite ?_ ?_
      | refine LeO.bind ?_ (fun _ => ?_)
set_option maxHeartbeats 8000000 in
set_option maxRecDepth 100000 in
theorem seal_Put.calls (k : Nat) (a0 : ByteArray) (r : ByteArray) (w : World) (h : seal_Put.f k a0 = some r) :
    Calls Try.prog 13 #[.string a0] w fun e w' => e = .returned (.string r) ∧ Below w.heap.size w w' := by
  have HB := Aside0.mk (Below.refl w.heap.size w)
  have H : ((seal_Sum.f k a0).bind fun t106 => ((some (([(t106 / 16777216) % 256, (t106 / 65536) % 256, (t106 / 256) % 256, (t106) % 256] : List Int) : List Int)).bind fun y107 => (if a0.size + (strOfNums y107).size ≤ 9223372036854775807 then (some (a0 ++ (strOfNums y107))) else (none)))) = some r := h
  clear h
  replace H := Option.bind_eq_some_iff.mp H
  obtain ⟨t106, A20, H⟩ := H
  replace H : ((some (([(t106 / 16777216) % 256, (t106 / 65536) % 256, (t106 / 256) % 256, (t106) % 256] : List Int) : List Int)).bind fun y107 => (if a0.size + (strOfNums y107).size ≤ 9223372036854775807 then (some (a0 ++ (strOfNums y107))) else (none))) = some r := H
  have A2 := Aside0.mk A20
  clear A20
  obtain ⟨y107, hy107⟩ : ∃ y_ : List Int, y_ = (([(t106 / 16777216) % 256, (t106 / 65536) % 256, (t106 / 256) % 256, (t106) % 256] : List Int)) := ⟨_, rfl⟩
  replace H : (if a0.size + (strOfNums y107).size ≤ 9223372036854775807 then (some (a0 ++ (strOfNums y107))) else (none)) = some r := by first | (rw [hy107]; with_reducible exact H) | (have H2_ := (Option.bind_some _ _).symm.trans H; rw [hy107]; with_reducible exact H2_) | (have H2_ := (Option.bind_some _ _).symm.trans H; with_reducible exact H2_) | with_reducible exact H | (rw [hy107]; exact H) | exact H
  have Ny107 := Aside0.mk hy107
  clear hy107
  by_cases c3 : a0.size + (strOfNums y107).size ≤ 9223372036854775807
  · rw [if_pos c3] at H
    have c3b0 := eq_true c3
    have c3b1 : decide (a0.size + (strOfNums y107).size ≤ 9223372036854775807) = true := decide_eq_true c3
    try have c3b2 : (9223372036854775807 < a0.size + (strOfNums y107).size) = False := eq_false (Nat.not_lt.2 c3)
    obtain rfl := Option.some.inj H
    go_enter Try.func13, Try.ntmps13
    go_wp2_with (first | ((with_reducible refine gate_callee (f := 8) rfl ?_); refine goesL_ (some 5) rfl rfl Try.func8 (by kernel_rfl) rfl #[.string a0] rfl (by (try simp only [List.map_toArray, List.map_cons, List.map_nil]); first | done | rfl | (simp only [List.length_drop, List.length_take]; rfl)) ?_; (with_reducible refine (seal_Sum.calls k a0 t106 _ A2.out).mono ?_); rintro e w' ⟨rfl, ⟨nd, rfl⟩⟩; refine ⟨_, rfl, ?_⟩) | ((with_reducible refine gate_dst (N := 18) rfl ?_); refine Kd.R_lit (Kd.int .u8) _ 5 ?hg (N := 18) ?hd (xs := ([(t106 / 16777216) % 256, (t106 / 65536) % 256, (t106 / 256) % 256, (t106) % 256] : List Int)) (inner := [.int .u8 ((t106 / 16777216) % 256), .int .u8 ((t106 / 65536) % 256), .int .u8 ((t106 / 256) % 256), .int .u8 ((t106) % 256)]) (ok := fun _ => True) (okp := fun _ => True) ?hr ?hp (fun _ hk => hk) trivial (Below.refl _ _) (Nat.le_refl _) (by simp) ?_; (case hd => rfl); (case hg => rfl); (case hr => first | (go_simp; done) | (go_simp; rfl)); (case hp => exact (Reps.one (show Kd.M (Kd.int .u8) _ _ _ ((t106 / 16777216) % 256) [.int .u8 ((t106 / 16777216) % 256)] from rfl) (Reps.one (show Kd.M (Kd.int .u8) _ _ _ ((t106 / 65536) % 256) [.int .u8 ((t106 / 65536) % 256)] from rfl) (Reps.one (show Kd.M (Kd.int .u8) _ _ _ ((t106 / 256) % 256) [.int .u8 ((t106 / 256) % 256)] from rfl) (Reps.one (show Kd.M (Kd.int .u8) _ _ _ ((t106) % 256) [.int .u8 ((t106) % 256)] from rfl) (Reps.none _ _)))))); intro v108 w4 ho5 hb hg_ hnew_; clear hg_ hnew_; (first | rw [← Ny107.out] at ho5 | (simp only [Int.reduceToNat] at ho5; rw [← Ny107.out] at ho5)); have n0_ := Aside0.mk (Kd.R_lower ho5 (below_size (by repeat (first | (with_reducible first | exact HB.out | apply below_alloc | apply pw_below_drewN | apply below_drew1) | exact HB.out)))); have n1_ := Aside0.mk (below_step (by repeat (first | (with_reducible first | exact HB.out | apply below_alloc | apply pw_below_drewN | apply below_drew1) | exact HB.out)) hb); clear HB; have HO109 := n0_; have HB := n1_; clear n0_ n1_; clear hb ho5; have hcv6 := own_string (P := Try.prog) Try.underlying27 Try.underlying5 Try.underlying9 (Kd.own_of_R HO109.out)))
    go_ret
    exact ⟨by first | rfl | (simp [errW_none, errW_some] <;> rfl) | (simp [*, errW_none, errW_some] <;> rfl), by repeat (first | (with_reducible first | exact HB.out | apply below_alloc | apply pw_below_drewN | apply below_drew1) | exact HB.out)⟩
  · rw [if_neg c3] at H
    exact absurd H (by simp)

end Go.Proofs.Ytjdgmbikaholoaa.PA
