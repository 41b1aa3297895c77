/- Contracts of the Go functions of this seat: what each call returns is what a Lean function of its arguments says; each theorem bears its own conditions. Written by a program of this session (wip/tools/mkprint.py). -/
import Derived.Test.YtikiegglebgmpaaCTx0
import Derived.Test.YtikiegglebgmpaaCTx10
import Derived.Test.YtikiegglebgmpaaCTx11
-- squeezed
namespace Go.Proofs.Ytikiegglebgmpaa.PA
open Go.RowKit Go.Proofs.YtikiegglebgmpaaW.PrintWords Go.Proofs.YtikiegglebgmpaaW.PrintLast Go.Proofs.YtikiegglebgmpaaW.PrintMore
attribute [local go_sem] max2_int min2_int max_two min_two max_three min_three max_four min_four   -- for this text's walks alone
set_option linter.unusedVariables false
set_option linter.unusedSimpArgs false

attribute [local go_sem ↓ high] unary_xor_u32 ux_if_u32
attribute [local go_sem] str_gtr str_leq str_geq
/-! ### cmd_Get: function 15 -/
/-- A call that gives up. -/
def cmd_Get.Fail (e : Ending) : Prop := ∃ u pv, e = .panicked [{ v := .iface u pv, recovered := false }]
/-- What a reader has left. -/
def cmd_Get.At (br : Nat) (W : World) (t : ByteArray) : Prop := W.heap[br]? = some (.cells #[.string t] 73 (0, 0))
/-- What a reader's call keeps: all blocks but its own. -/
structure cmd_Get.Kq (br : Nat) (W W' : World) : Prop where
 os : W'.os = W.os
 tape : W'.tape = W.tape
 output : W'.output = W.output
 size : W.heap.size ≤ W'.heap.size
 block : ∀ k, k < W.heap.size → k ≠ br → W'.heap[k]? = W.heap[k]?
theorem cmd_Get.Kq.refl (br : Nat) (W : World) : cmd_Get.Kq br W W := ⟨rfl, rfl, rfl, Nat.le_refl _, fun _ _ _ => rfl⟩
theorem cmd_Get.Kq.trans {br : Nat} {A B D : World} (h : cmd_Get.Kq br A B) (k : cmd_Get.Kq br B D) : cmd_Get.Kq br A D :=
 ⟨k.os.trans h.os, k.tape.trans h.tape, k.output.trans h.output, Nat.le_trans h.size k.size, fun i hi hne => (k.block i (Nat.lt_of_lt_of_le hi h.size) hne).trans (h.block i hi hne)⟩
theorem cmd_Get.Kq.below {br : Nat} {W W' : World} (h : Below W.heap.size W W') : cmd_Get.Kq br W W' := ⟨h.os, h.tape, h.output, h.size, fun k hk _ => h.block k hk⟩
theorem cmd_Get.Kq.set (br i : Nat) (W : World) (v : Value) : cmd_Get.Kq br W (W.setCell ⟨br, i, none⟩ v) := ⟨rfl, rfl, rfl, by rw [World.size_setCell]; exact Nat.le_refl _, fun k _ hne => Below.heap_setCell W ⟨br, i, none⟩ v k hne⟩
theorem cmd_Get.Kq.drew (br : Nat) (W : World) : cmd_Get.Kq br W W.drew := ⟨rfl, rfl, rfl, Nat.le_refl _, fun _ _ _ => rfl⟩
theorem cmd_Get.Kq.toBelow {br B : Nat} {w W W' : World} (h : cmd_Get.Kq br W W') (hB : Below B w W) (h1 : B ≤ br) (h2 : B ≤ W.heap.size) : Below B w W' :=
 hB.trans ⟨h.os, h.tape, h.output, h.size, fun k hk => h.block k (by omega) (by omega)⟩
theorem cmd_Get.At.below {br : Nat} {W W' : World} {t : ByteArray} (h : cmd_Get.At br W t) (hb : Below W.heap.size W W') : cmd_Get.At br W' t := yB h hb
theorem cmd_Get.At.lt {br : Nat} {W : World} {t : ByteArray} (h : cmd_Get.At br W t) : br < W.heap.size := blk_lt h
/-- One step of a word that is read. -/
def cmd_Get.stp (v b : Int) : Int := Go.bits .or .u64 (IntKind.u64.wrap (v * 256)) (IntKind.u64.wrap b)
def cmd_Get.val (s : ByteArray) : Int := (bytesOf s).foldl cmd_Get.stp 0
set_option maxHeartbeats 4000000 in
set_option maxRecDepth 100000 in
theorem cmd_Get.take_ok (t : ByteArray) (n : Int) (br : Nat) (w : World) (hb : cmd_Get.At br w t) (h0 : 0 ≤ n) (h1 : n ≤ (t.size : Int)) :
  Calls Try.prog 56 #[.pointer (some ⟨br, 0, none⟩), .int .i64 n] w fun e w' => e = .returned (.string (t.extract 0 n.toNat)) ∧ w' = w.setCell ⟨br, 0, none⟩ (.string (t.extract n.toNat t.size)) := by
 have y0 : w.cell? ⟨br, 0, none⟩ = some (.string t) := (blk_cell hb 0).trans rfl
 have g0 := blk_frozen hb 0
 have a0 : decide (n < 0) = false := decide_eq_false (by omega)
 have a1 : decide (n > (t.size : Int)) = false := decide_eq_false (by omega)
 have a2 : decide ((t.size : Int) < n) = false := a1
 have e0 := eq_true h0
 have e1 := eq_true h1
 clear hb
 go_enter Try.func56, Try.ntmps56
 go_wp2
 go_ret
 exact ⟨rfl, rfl⟩
set_option maxHeartbeats 4000000 in
set_option maxRecDepth 100000 in
theorem cmd_Get.take_no (t : ByteArray) (n : Int) (br : Nat) (w : World) (hb : cmd_Get.At br w t) (h : (t.size : Int) < n) :
  Calls Try.prog 56 #[.pointer (some ⟨br, 0, none⟩), .int .i64 n] w fun e w' => cmd_Get.Fail e ∧ w' = w := by
 have y0 : w.cell? ⟨br, 0, none⟩ = some (.string t) := (blk_cell hb 0).trans rfl
 have a0 : decide (n < 0) = false := decide_eq_false (by omega)
 have a1 : decide (n > (t.size : Int)) = true := decide_eq_true (by omega)
 have a2 : decide ((t.size : Int) < n) = true := a1
 have hpn : ∀ (u : TypeId) (pv : Value) (W : World), (Instr.panic (.iface u pv)).run Try.prog W = .halt (.panic (.iface u pv)) W := fun _ _ _ => rfl
 clear hb
 go_enter Try.func56, Try.ntmps56
 go_wp2
 exact ⟨rfl, ⟨_, _, rfl⟩, rfl⟩
theorem cmd_Get.take8 (t : ByteArray) (br : Nat) (w : World) (hb : cmd_Get.At br w t) (h1 : 8 ≤ t.size) :
  Calls Try.prog 56 #[.pointer (some ⟨br, 0, none⟩), .int .i64 8] w fun e w' => e = .returned (.string (t.extract 0 8)) ∧ w' = w.setCell ⟨br, 0, none⟩ (.string (t.extract 8 t.size)) :=
 cmd_Get.take_ok t 8 br w hb (by decide) (by omega)
set_option maxHeartbeats 4000000 in
set_option maxRecDepth 100000 in
theorem cmd_Get.word_ok (t : ByteArray) (br : Nat) (w : World) (hb : cmd_Get.At br w t) (h1 : 8 ≤ t.size) :
  Calls Try.prog 55 #[.pointer (some ⟨br, 0, none⟩)] w fun e w' => e = .returned (.int .u64 (cmd_Get.val (t.extract 0 8))) ∧ cmd_Get.At br w' (t.extract 8 t.size) ∧ cmd_Get.Kq br w w' := by
 have HB := Aside0.mk hb
 have H8 := Aside0.mk h1
 have kb := fun (s : ByteArray) (W : World) => print_bytes (P := Try.prog) 9 46 5 Try.underlying9 Try.underlying46 Try.underlying5 s W
 obtain ⟨s, hs⟩ : ∃ s, t.extract 0 8 = s := ⟨_, rfl⟩
 have HS := Aside0.mk hs
 have HZ := Aside0.mk (show s.size = 8 by rw [← hs, ByteArray.size_extract]; omega)
 rw [hs]
 clear hb h1 hs
 go_enter Try.func55, Try.ntmps55
 go_wp2_with (go_at_call 56; go_loud (refine (cmd_Get.take8 t br w HB.out H8.out).mono ?_; rintro e w1 ⟨rfl, hw⟩; rw [HS.out]; have HW := Aside0.mk hw; clear hw))
 go_loop [3, 12] (fun v3 v12 => ∃ x : Int, 0 ≤ x ∧ x ≤ (s.size : Int) ∧ v12 = .int .i64 x ∧ v3 = .int .u64 (((bytesOf s).take x.toNat).foldl cmd_Get.stp 0)) (fun _ v => s.size - (intOf v).toNat)
 case atStart => exact ⟨0, by omega, by omega, rfl, rfl⟩
 case round =>
  obtain ⟨x, h0, h8, rfl, rfl⟩ := hrel
  by_cases hlt : x < (s.size : Int)
  ·have q3 : decide (x < (s.size : Int)) = true := decide_eq_true hlt
   have p6 := eq_true h0
   have q6 := eq_true hlt
   obtain ⟨m0, -⟩ := (MRow.new w1 5 s).at_ x h0 (by rw [bytesOf_length]; exact hlt)
   obtain ⟨b, hbb⟩ : ∃ b, rd (bytesOf s) x = b := ⟨_, rfl⟩
   rw [hbb] at m0
   obtain ⟨v, hv⟩ : ∃ v, ((bytesOf s).take x.toNat).foldl cmd_Get.stp 0 = v := ⟨_, rfl⟩
   rw [hv]
   obtain ⟨s1, hs1⟩ : ∃ s, wrap64 (x + 1) = s := ⟨_, rfl⟩
   have T1 := Aside0.mk (show s1 = x + 1 by have := HZ.out; rw [← hs1]; unfold wrap64; omega)
   have TX := Aside0.mk (And.intro h0 hlt)
   have HV := Aside0.mk (show ((bytesOf s).take (x.toNat + 1)).foldl cmd_Get.stp 0 = cmd_Get.stp v b by
    have hl : x.toNat < (bytesOf s).length := by rw [bytesOf_length]; omega
    rw [List.take_succ_eq_append_getElem hl, List.foldl_append, hv, ← hbb]
    simp [rd, hl, List.getD_eq_getElem?_getD])
   clear hlt hbb hv
   go_wp2
   refine ⟨⟨x + 1, ?_, ?_, ?_, ?_⟩, ?_⟩
   ·have := TX.out; clear hs1; omega
   ·have := TX.out; clear hs1; omega
   ·rw [hs1, T1.out]
   ·rw [show (x + 1).toNat = x.toNat + 1 by have := TX.out; clear hs1; omega, HV.out]; rfl
   ·rw [hs1, T1.out]; have := TX.out; clear hs1; show s.size - (x + 1).toNat < s.size - x.toNat; omega
  ·have q3 : decide (x < (s.size : Int)) = false := decide_eq_false hlt
   have HE := Aside0.mk (show (bytesOf s).take x.toNat = bytesOf s from List.take_of_length_le (by rw [bytesOf_length]; omega))
   rw [HE.out]
   clear hlt
   go_wp2
   go_ret
   have hk := (show Below w1.heap.size w1 (Lib.bytesWorld w1 5 s) from bytes_below (Below.refl _ _) (Nat.le_refl _) _ _)
   have ha : cmd_Get.At br w1 (t.extract 8 t.size) := by rw [HW.out]; exact blk_set HB.out 0 _
   exact ⟨rfl, ha.below hk, (cmd_Get.Kq.set br 0 w _).trans (by rw [← HW.out]; exact cmd_Get.Kq.below hk)⟩
set_option maxHeartbeats 4000000 in
set_option maxRecDepth 100000 in
theorem cmd_Get.word_no (t : ByteArray) (br : Nat) (w : World) (hb : cmd_Get.At br w t) (h1 : t.size < 8) :
  Calls Try.prog 55 #[.pointer (some ⟨br, 0, none⟩)] w fun e w' => cmd_Get.Fail e ∧ cmd_Get.Kq br w w' := by
 have HB := Aside0.mk hb
 have H8 := Aside0.mk (show (t.size : Int) < 8 by omega)
 clear hb h1
 go_enter Try.func55, Try.ntmps55
 go_wp2_with (go_at_call 56; go_loud (refine (cmd_Get.take_no t 8 br w HB.out H8.out).mono ?_; rintro e w1 ⟨⟨u, pv, rfl⟩, hw⟩; have HW := Aside0.mk hw; clear hw))
 exact ⟨rfl, ⟨_, _, rfl⟩, by rw [HW.out]; exact cmd_Get.Kq.refl _ _⟩
/-- What a word, a number, a count, a text are read as. -/
def cmd_Get.pW (t : ByteArray) : Option (Int × ByteArray) := if t.size < 8 then none else some (cmd_Get.val (t.extract 0 8), t.extract 8 t.size)
def cmd_Get.pN (t : ByteArray) : Option (Int × ByteArray) := (cmd_Get.pW t).bind fun x => some (wrap64 x.1, x.2)
def cmd_Get.pC (t : ByteArray) : Option (Int × ByteArray) := (cmd_Get.pN t).bind fun x => if x.1 < 0 ∨ (x.2.size : Int) < x.1 then none else some x
def cmd_Get.pT (t : ByteArray) : Option (ByteArray × ByteArray) := (cmd_Get.pC t).bind fun x => some (x.2.extract 0 x.1.toNat, x.2.extract x.1.toNat x.2.size)
theorem cmd_Get.word (t : ByteArray) (br : Nat) (w : World) (hb : cmd_Get.At br w t) (x : Int) (t' : ByteArray) (h : cmd_Get.pW t = some (x, t')) :
  Calls Try.prog 55 #[.pointer (some ⟨br, 0, none⟩)] w fun e w' => e = .returned (.int .u64 x) ∧ cmd_Get.At br w' t' ∧ cmd_Get.Kq br w w' := by
 unfold cmd_Get.pW at h
 by_cases h8 : t.size < 8
 ·rw [if_pos h8] at h; cases h
 ·rw [if_neg h8] at h
  obtain ⟨rfl, rfl⟩ := Prod.mk.inj (Option.some.inj h)
  exact cmd_Get.word_ok t br w hb (by omega)
theorem cmd_Get.word_n (t : ByteArray) (br : Nat) (w : World) (hb : cmd_Get.At br w t) (h : cmd_Get.pW t = none) :
  Calls Try.prog 55 #[.pointer (some ⟨br, 0, none⟩)] w fun e w' => cmd_Get.Fail e ∧ cmd_Get.Kq br w w' := by
 unfold cmd_Get.pW at h
 by_cases h8 : t.size < 8
 ·exact cmd_Get.word_no t br w hb h8
 ·rw [if_neg h8] at h; cases h
set_option maxHeartbeats 4000000 in
set_option maxRecDepth 100000 in
theorem cmd_Get.num (t : ByteArray) (br : Nat) (w : World) (hb : cmd_Get.At br w t) (x : Int) (t' : ByteArray) (h : cmd_Get.pN t = some (x, t')) :
  Calls Try.prog 47 #[.pointer (some ⟨br, 0, none⟩)] w fun e w' => e = .returned (.int .i64 x) ∧ cmd_Get.At br w' t' ∧ cmd_Get.Kq br w w' := by
 have HB := Aside0.mk hb
 obtain ⟨⟨y, t2⟩, hy, h⟩ := Option.bind_eq_some_iff.mp h
 obtain ⟨rfl, rfl⟩ := Prod.mk.inj (Option.some.inj h)
 have HY := Aside0.mk hy
 clear hb hy h
 go_enter Try.func47, Try.ntmps47
 go_wp2_with (go_at_call 55; go_loud (refine (cmd_Get.word t br w HB.out _ _ HY.out).mono ?_; rintro e w1 ⟨rfl, ha, hk⟩; have HA := Aside0.mk ha; have HK := Aside0.mk hk; clear ha hk))
 go_ret
 exact ⟨rfl, HA.out, HK.out⟩
set_option maxHeartbeats 4000000 in
set_option maxRecDepth 100000 in
theorem cmd_Get.num_n (t : ByteArray) (br : Nat) (w : World) (hb : cmd_Get.At br w t) (h : cmd_Get.pN t = none) :
  Calls Try.prog 47 #[.pointer (some ⟨br, 0, none⟩)] w fun e w' => cmd_Get.Fail e ∧ cmd_Get.Kq br w w' := by
 have HB := Aside0.mk hb
 have HY := Aside0.mk (show cmd_Get.pW t = none by
  unfold cmd_Get.pN at h
  cases hw : cmd_Get.pW t with
  | none => rfl
  | some x => rw [hw] at h; cases h)
 clear hb h
 go_enter Try.func47, Try.ntmps47
 go_wp2_with (go_at_call 55; go_loud (refine (cmd_Get.word_n t br w HB.out HY.out).mono ?_; rintro e w1 ⟨⟨u, pv, rfl⟩, hk⟩; have HK := Aside0.mk hk; clear hk))
 exact ⟨rfl, ⟨_, _, rfl⟩, HK.out⟩
set_option maxHeartbeats 4000000 in
set_option maxRecDepth 100000 in
theorem cmd_Get.count (t : ByteArray) (br : Nat) (w : World) (hb : cmd_Get.At br w t) (x : Int) (t' : ByteArray) (h : cmd_Get.pC t = some (x, t')) :
  Calls Try.prog 48 #[.pointer (some ⟨br, 0, none⟩)] w fun e w' => e = .returned (.int .i64 x) ∧ cmd_Get.At br w' t' ∧ cmd_Get.Kq br w w' := by
 have HB := Aside0.mk hb
 obtain ⟨⟨y, t2⟩, hy, h⟩ := Option.bind_eq_some_iff.mp h
 dsimp only at h
 by_cases hc : y < 0 ∨ (t2.size : Int) < y
 ·rw [if_pos hc] at h; cases h
 rw [if_neg hc] at h
 obtain ⟨rfl, rfl⟩ := Prod.mk.inj (Option.some.inj h)
 have HY := Aside0.mk hy
 have a0 : decide (y < 0) = false := decide_eq_false (by omega)
 have a1 : decide (y > (t2.size : Int)) = false := decide_eq_false (by omega)
 have a2 : decide ((t2.size : Int) < y) = false := a1
 clear hb hy h hc
 go_enter Try.func48, Try.ntmps48
 go_wp2_with (go_at_call 47; go_loud (refine (cmd_Get.num t br w HB.out _ _ HY.out).mono ?_; rintro e w1 ⟨rfl, ha, hk⟩; have HA := Aside0.mk ha; have HK := Aside0.mk hk; have y0 : w1.cell? ⟨br, 0, none⟩ = some (.string t2) := (blk_cell ha 0).trans rfl; clear ha hk))
 go_ret
 exact ⟨rfl, HA.out, HK.out⟩
set_option maxHeartbeats 4000000 in
set_option maxRecDepth 100000 in
theorem cmd_Get.count_n (t : ByteArray) (br : Nat) (w : World) (hb : cmd_Get.At br w t) (h : cmd_Get.pC t = none) :
  Calls Try.prog 48 #[.pointer (some ⟨br, 0, none⟩)] w fun e w' => cmd_Get.Fail e ∧ cmd_Get.Kq br w w' := by
 have HB := Aside0.mk hb
 have hpn : ∀ (u : TypeId) (pv : Value) (W : World), (Instr.panic (.iface u pv)).run Try.prog W = .halt (.panic (.iface u pv)) W := fun _ _ _ => rfl
 unfold cmd_Get.pC at h
 cases hw : cmd_Get.pN t with
 | none =>
  have HY := Aside0.mk hw
  clear hb h hw
  go_enter Try.func48, Try.ntmps48
  go_wp2_with (go_at_call 47; go_loud (refine (cmd_Get.num_n t br w HB.out HY.out).mono ?_; rintro e w1 ⟨⟨u, pv, rfl⟩, hk⟩; have HK := Aside0.mk hk; clear hk))
  exact ⟨rfl, ⟨_, _, rfl⟩, HK.out⟩
 | some x =>
  obtain ⟨y, t2⟩ := x
  have HY := Aside0.mk hw
  rw [hw, Option.bind_some] at h
  dsimp only at h
  by_cases hc : y < 0
  ·have a0 : decide (y < 0) = true := decide_eq_true hc
   clear hb hw h hc
   go_enter Try.func48, Try.ntmps48
   go_wp2_with (go_at_call 47; go_loud (refine (cmd_Get.num t br w HB.out _ _ HY.out).mono ?_; rintro e w1 ⟨rfl, ha, hk⟩; have HK := Aside0.mk hk; clear ha hk))
   exact ⟨rfl, ⟨_, _, rfl⟩, HK.out⟩
  ·by_cases hc2 : (t2.size : Int) < y
   ·have a0 : decide (y < 0) = false := decide_eq_false (by omega)
    have a1 : decide (y > (t2.size : Int)) = true := decide_eq_true (by omega)
    have a2 : decide ((t2.size : Int) < y) = true := a1
    clear hb hw h hc hc2
    go_enter Try.func48, Try.ntmps48
    go_wp2_with (go_at_call 47; go_loud (refine (cmd_Get.num t br w HB.out _ _ HY.out).mono ?_; rintro e w1 ⟨rfl, ha, hk⟩; have HK := Aside0.mk hk; have y0 : w1.cell? ⟨br, 0, none⟩ = some (.string t2) := (blk_cell ha 0).trans rfl; clear ha hk))
    exact ⟨rfl, ⟨_, _, rfl⟩, HK.out⟩
   ·rw [if_neg (by omega)] at h; cases h
theorem cmd_Get.pC_in {t t' : ByteArray} {x : Int} (h : cmd_Get.pC t = some (x, t')) : 0 ≤ x ∧ x ≤ (t'.size : Int) := by
 obtain ⟨⟨y, t2⟩, hy, h⟩ := Option.bind_eq_some_iff.mp h
 dsimp only at h
 by_cases hc : y < 0 ∨ (t2.size : Int) < y
 ·rw [if_pos hc] at h; cases h
 ·rw [if_neg hc] at h
  obtain ⟨rfl, rfl⟩ := Prod.mk.inj (Option.some.inj h)
  omega
set_option maxHeartbeats 4000000 in
set_option maxRecDepth 100000 in
theorem cmd_Get.text (t : ByteArray) (br : Nat) (w : World) (hb : cmd_Get.At br w t) (s t' : ByteArray) (h : cmd_Get.pT t = some (s, t')) :
  Calls Try.prog 49 #[.pointer (some ⟨br, 0, none⟩)] w fun e w' => e = .returned (.string s) ∧ cmd_Get.At br w' t' ∧ cmd_Get.Kq br w w' := by
 have HB := Aside0.mk (show cmd_Get.At br w.drew t from hb)
 obtain ⟨⟨x, t2⟩, hx, h⟩ := Option.bind_eq_some_iff.mp h
 obtain ⟨rfl, rfl⟩ := Prod.mk.inj (Option.some.inj h)
 have HC := Aside0.mk hx
 have HX := Aside0.mk (cmd_Get.pC_in hx)
 dsimp only
 clear hb hx h
 go_enter Try.func49, Try.ntmps49
 go_wp2
 refine wp_region_any (by kernel_rfl) ?_
 try (change wpAny _ _ _ _ _ _ _ (World.drew _))
 refine wpAny_take (i := 0) (v := ?_) rfl (by kernel_rfl) (by kernel_rfl) (by kernel_rfl) (fun _ _ _ h => h) (Or.inl ⟨by rfl, ?_⟩) ?_
 rotate_left
 ·intro w; first | (go_simp; done) | (go_simp; with_reducible rfl)
 refine wpAny_take (i := 1) (v := ?_) rfl (by kernel_rfl) (by kernel_rfl) (by kernel_rfl) (fun _ _ _ h => h) (Or.inl ⟨by rfl, ?_⟩) ?_
 rotate_left
 ·intro w; first | (go_simp; done) | (go_simp; with_reducible rfl)
 refine wpAny_take (i := 2) (v := ?_) rfl (by kernel_rfl) (by kernel_rfl) (by kernel_rfl) (fun _ _ _ h => h) (Or.inl ⟨by rfl, ?_⟩) ?_
 rotate_left
 ·intro w; first | (go_simp; done) | (go_simp; with_reducible rfl)
 refine wpAny_take (i := 3) (v := ?_) rfl (by kernel_rfl) (by kernel_rfl) (by kernel_rfl) (fun _ _ _ h => h) (Or.inl ⟨by rfl, ?_⟩) ?_
 rotate_left
 ·intro w; first | (go_simp; done) | (go_simp; with_reducible rfl)
 refine wpAny_ready (rs := [4]) (by kernel_rfl) (by simp) ?_
 refine AllReady.cons rfl (fun K hK => ?_) (AllReady.nil)
 go_simp
 go_at_call 48
 refine (cmd_Get.count t br w.drew HB.out _ _ HC.out).mono ?_
 rintro e w1 ⟨rfl, ha, hk⟩
 dsimp only
 refine hK _ _ ?_
 clear hK K
 have HA := Aside0.mk ha
 have HK := Aside0.mk hk
 clear ha hk
 refine wpAny_ready (rs := [5]) (by kernel_rfl) (by simp) ?_
 refine AllReady.cons rfl (fun K hK => ?_) (AllReady.nil)
 go_simp
 go_at_call 56
 refine (cmd_Get.take_ok t2 x br w1 HA.out HX.out.1 HX.out.2).mono ?_
 rintro e w2 ⟨rfl, hw⟩
 dsimp only
 refine hK _ _ ?_
 clear hK K
 have HW := Aside0.mk hw
 clear hw
 refine wpAny_take (i := 6) (v := ?_) rfl (by kernel_rfl) (by kernel_rfl) (by kernel_rfl) (fun _ _ _ h => h) (Or.inl ⟨by rfl, ?_⟩) ?_
 rotate_left
 ·intro w; first | (go_simp; done) | (go_simp; with_reducible rfl)
 refine wpAny_done (by kernel_rfl) ?_ _
 go_wp2
 go_ret
 exact ⟨rfl, by rw [HW.out]; exact blk_set HA.out 0 _, by rw [HW.out]; exact (cmd_Get.Kq.drew br w).trans (HK.out.trans (cmd_Get.Kq.set _ _ _ _))⟩
set_option maxHeartbeats 4000000 in
set_option maxRecDepth 100000 in
theorem cmd_Get.text_n (t : ByteArray) (br : Nat) (w : World) (hb : cmd_Get.At br w t) (h : cmd_Get.pT t = none) :
  Calls Try.prog 49 #[.pointer (some ⟨br, 0, none⟩)] w fun e w' => cmd_Get.Fail e ∧ cmd_Get.Kq br w w' := by
 have HB := Aside0.mk (show cmd_Get.At br w.drew t from hb)
 have HC := Aside0.mk (show cmd_Get.pC t = none by
  unfold cmd_Get.pT at h
  cases hw : cmd_Get.pC t with
  | none => rfl
  | some x => rw [hw] at h; cases h)
 clear hb h
 go_enter Try.func49, Try.ntmps49
 go_wp2
 refine wp_region_any (by kernel_rfl) ?_
 try (change wpAny _ _ _ _ _ _ _ (World.drew _))
 refine wpAny_take (i := 0) (v := ?_) rfl (by kernel_rfl) (by kernel_rfl) (by kernel_rfl) (fun _ _ _ h => h) (Or.inl ⟨by rfl, ?_⟩) ?_
 rotate_left
 ·intro w; first | (go_simp; done) | (go_simp; with_reducible rfl)
 refine wpAny_take (i := 1) (v := ?_) rfl (by kernel_rfl) (by kernel_rfl) (by kernel_rfl) (fun _ _ _ h => h) (Or.inl ⟨by rfl, ?_⟩) ?_
 rotate_left
 ·intro w; first | (go_simp; done) | (go_simp; with_reducible rfl)
 refine wpAny_take (i := 2) (v := ?_) rfl (by kernel_rfl) (by kernel_rfl) (by kernel_rfl) (fun _ _ _ h => h) (Or.inl ⟨by rfl, ?_⟩) ?_
 rotate_left
 ·intro w; first | (go_simp; done) | (go_simp; with_reducible rfl)
 refine wpAny_take (i := 3) (v := ?_) rfl (by kernel_rfl) (by kernel_rfl) (by kernel_rfl) (fun _ _ _ h => h) (Or.inl ⟨by rfl, ?_⟩) ?_
 rotate_left
 ·intro w; first | (go_simp; done) | (go_simp; with_reducible rfl)
 refine wpAny_ready (rs := [4]) (by kernel_rfl) (by simp) ?_
 refine AllReady.cons rfl (fun K hK => ?_) (AllReady.nil)
 go_simp
 go_at_call 48
 refine (cmd_Get.count_n t br w.drew HB.out HC.out).mono ?_
 rintro e w1 ⟨⟨u, pv, rfl⟩, hk⟩
 exact ⟨rfl, ⟨_, _, rfl⟩, (cmd_Get.Kq.drew br w).trans hk⟩

theorem cmd_Get.infV : (Try.prog.info? 45).map (fun i => (i.zero, i.size, i.bytes)) = some (some (.agg #[.int .i64 0, .int .i64 0, .int .u64 0, .string ⟨#[]⟩]), 4, 40) := by kernel_rfl
theorem cmd_Get.infS : (Try.prog.info? 42).map (fun i => (i.zero, i.size, i.bytes)) = some (some (.slice none 0 0), 1, 24) := by kernel_rfl
/-- What a value, rows are read as. -/
def cmd_Get.pV (t : ByteArray) : Option (S45 × ByteArray) := (cmd_Get.pN t).bind fun k => (cmd_Get.pW k.2).bind fun n => (cmd_Get.pW n.2).bind fun f => (cmd_Get.pT f.2).bind fun s => some (⟨k.1, wrap64 n.1, f.1, s.1⟩, s.2)
def cmd_Get.gL {α β : Type} (p : ByteArray → Option (α × ByteArray)) (K : List α → ByteArray → Option β) : Nat → List α → ByteArray → Option β
 | 0, l, t => K l t
 | m + 1, l, t => (p t).bind fun x => cmd_Get.gL p K m (l ++ [x.1]) x.2
def cmd_Get.gR : Nat → List (List S45) → ByteArray → Option (List (List S45) × ByteArray)
 | 0, out, t => some (out, t)
 | n + 1, out, t => (cmd_Get.pC t).bind fun x => cmd_Get.gL cmd_Get.pV (fun l t => cmd_Get.gR n (out ++ [l]) t) x.1.toNat [] x.2
def cmd_Get.pRows (t : ByteArray) : Option (List (List S45) × ByteArray) := (cmd_Get.pC t).bind fun x => cmd_Get.gR x.1.toNat [] x.2
theorem cmd_Get.pW_size {t t' : ByteArray} {x : Int} (h : cmd_Get.pW t = some (x, t')) : t'.size + 8 = t.size := by
 unfold cmd_Get.pW at h
 by_cases h8 : t.size < 8
 ·rw [if_pos h8] at h; cases h
 ·rw [if_neg h8] at h
  obtain ⟨rfl, rfl⟩ := Prod.mk.inj (Option.some.inj h)
  rw [ByteArray.size_extract]; omega
theorem cmd_Get.pN_size {t t' : ByteArray} {x : Int} (h : cmd_Get.pN t = some (x, t')) : t'.size + 8 = t.size := by
 obtain ⟨⟨y, t2⟩, hy, h⟩ := Option.bind_eq_some_iff.mp h
 obtain ⟨rfl, rfl⟩ := Prod.mk.inj (Option.some.inj h)
 exact cmd_Get.pW_size hy
theorem cmd_Get.pC_size {t t' : ByteArray} {x : Int} (h : cmd_Get.pC t = some (x, t')) : t'.size + 8 = t.size := by
 obtain ⟨⟨y, t2⟩, hy, h⟩ := Option.bind_eq_some_iff.mp h
 dsimp only at h
 by_cases hc : y < 0 ∨ (t2.size : Int) < y
 ·rw [if_pos hc] at h; cases h
 ·rw [if_neg hc] at h
  obtain ⟨rfl, rfl⟩ := Prod.mk.inj (Option.some.inj h)
  exact cmd_Get.pN_size hy
theorem cmd_Get.pT_size {t t' s : ByteArray} (h : cmd_Get.pT t = some (s, t')) : t'.size + 8 ≤ t.size := by
 obtain ⟨⟨x, t2⟩, hx, h⟩ := Option.bind_eq_some_iff.mp h
 have hz := cmd_Get.pC_size hx
 obtain ⟨rfl, rfl⟩ := Prod.mk.inj (Option.some.inj h)
 dsimp only
 rw [ByteArray.size_extract]; omega
theorem cmd_Get.Kq.R {α : Type} {d : Kd α} {e base br : Nat} {W W' : World} {ok : Nat → Prop} {v : Value} {xs : List α} {t : ByteArray} (hk : cmd_Get.Kq br W W') (ha : cmd_Get.At br W t) (h : d.R e W base ok v xs) (ht : ∀ q, q ∈ e :: d.E → q ≠ 73) : d.R e W' base ok v xs :=
 Kd.R_mono (Kd.R_step (Kd.R_types h ha ht) (fun k ho hlt => hk.block k hlt ho.2)) (fun _ h => h.1)
theorem cmd_Get.Kq.grown {br : Nat} {wb W W' : World} {row : Option Nat} (hk : cmd_Get.Kq br wb W) (hg : W.grownBy W' row) (hr : ∀ k, row = some k → wb.heap.size ≤ k) : cmd_Get.Kq br wb W' :=
 ⟨hg.os.trans hk.os, hg.tape.trans hk.tape, hg.output.trans hk.output, Nat.le_trans hk.size hg.size, fun k hlt hne => (hg.block k (Nat.lt_of_lt_of_le hlt hk.size) (fun e => by have := hr k e.symm; omega)).trans (hk.block k hlt hne)⟩
theorem cmd_Get.Kq.put {br g i : Nat} {wb W : World} (hk : cmd_Get.Kq br wb W) (hg : wb.heap.size ≤ g) (v : Value) : cmd_Get.Kq br wb (W.setCell ⟨g, i, none⟩ v) :=
 ⟨hk.os, hk.tape, hk.output, by rw [World.size_setCell]; exact hk.size, fun k hlt hne => (Below.heap_setCell W ⟨g, i, none⟩ v k (by show k ≠ g; omega)).trans (hk.block k hlt hne)⟩
/-- While a row is read: what is left, the row so far; a value's own block. -/
structure cmd_Get.Ri (br : Nat) (wb W : World) (t : ByteArray) (vl : Value) (l : List S45) : Prop where
 at_ : cmd_Get.At br W t
 kq : cmd_Get.Kq br wb W
 row : k45.R 45 W wb.heap.size (fun _ => True) vl l
structure cmd_Get.Vb (br gb : Nat) (wb W : World) (t : ByteArray) (vl : Value) (l : List S45) (cs : Array Value) : Prop where
 at_ : cmd_Get.At br W t
 kq : cmd_Get.Kq br wb W
 row : k45.R 45 W wb.heap.size (fun k => k ≠ gb) vl l
 blk : W.heap[gb]? = some (.cells cs 45 (0, 0))
 ge : wb.heap.size ≤ gb
theorem cmd_Get.Ri.call {br : Nat} {wb W W' : World} {t t' : ByteArray} {vl : Value} {l : List S45} (h : cmd_Get.Ri br wb W t vl l) (ha : cmd_Get.At br W' t') (hk : cmd_Get.Kq br W W') : cmd_Get.Ri br wb W' t' vl l :=
 ⟨ha, h.kq.trans hk, hk.R h.at_ h.row (by decide)⟩
theorem cmd_Get.Ri.box {br gb : Nat} {wb W W' : World} {t : ByteArray} {vl : Value} {l : List S45} {cs : Array Value} (h : cmd_Get.Ri br wb W t vl l) (hg : gb = W.heap.size) (hb : W'.heap[gb]? = some (.cells cs 45 (0, 0))) (hw : Below W.heap.size W W') : cmd_Get.Vb br gb wb W' t vl l cs :=
 ⟨h.at_.below hw, h.kq.trans (cmd_Get.Kq.below hw), Kd.R_mono (Kd.R_below (Kd.R_elderB h.row gb (by omega)) hw) (fun _ hk => hk.2), hb, by rw [hg]; exact h.kq.size⟩
theorem cmd_Get.Vb.call {br gb : Nat} {wb W W' : World} {t t' : ByteArray} {vl : Value} {l : List S45} {cs : Array Value} (h : cmd_Get.Vb br gb wb W t vl l cs) (ha : cmd_Get.At br W' t') (hk : cmd_Get.Kq br W W') : cmd_Get.Vb br gb wb W' t' vl l cs :=
 ⟨ha, h.kq.trans hk, hk.R h.at_ h.row (by decide), (hk.block gb (blk_lt h.blk) (blk_ne h.blk h.at_ (by decide))).trans h.blk, h.ge⟩
theorem cmd_Get.Vb.put {br gb : Nat} {wb W : World} {t : ByteArray} {vl : Value} {l : List S45} {cs cs' : Array Value} (h : cmd_Get.Vb br gb wb W t vl l cs) (i : Nat) (v : Value) (e : cs.setIfInBounds i v = cs') : cmd_Get.Vb br gb wb (W.setCell ⟨gb, i, none⟩ v) t vl l cs' :=
 ⟨blk_far h.at_ (Ne.symm (blk_ne h.blk h.at_ (by decide))) _, h.kq.put h.ge v, Kd.R_far h.row (fun _ hk => hk) v, blk_put h.blk i v e, h.ge⟩
theorem cmd_Get.Vb.put4 {br gb : Nat} {wb W : World} {t : ByteArray} {vl : Value} {l : List S45} {a b c d : Value} (h : cmd_Get.Vb br gb wb W t vl l #[a, b, c, d]) (a' b' c' d' : Value) : cmd_Get.Vb br gb wb ((((W.setCell ⟨gb, 0, none⟩ a').setCell ⟨gb, 1, none⟩ b').setCell ⟨gb, 2, none⟩ c').setCell ⟨gb, 3, none⟩ d') t vl l #[a', b', c', d'] :=
 (((h.put 0 a' rfl).put 1 b' rfl).put 2 c' rfl).put 3 d' rfl
theorem cmd_Get.back1 {x s : Int} (hs : wrap64 (x - 1) = s) (h0 : 0 < x) (hl : x ≤ 1000000) : 0 ≤ s ∧ s ≤ 1000000 ∧ x.toNat = s.toNat + 1 := by
 have e : s = x - 1 := by rw [← hs]; unfold wrap64; omega
 subst e
 clear hs
 omega
def cmd_Get.Ps {α : Type} (br : Nat) (w : World) (Ret : World → α → Value → Prop) (r : Option (α × ByteArray)) (e : Ending) (w' : World) : Prop :=
 match r with
 | some x => (∃ v, e = .returned v ∧ Ret w' x.1 v) ∧ cmd_Get.At br w' x.2 ∧ cmd_Get.Kq br w w'
 | none => cmd_Get.Fail e ∧ cmd_Get.Kq br w w'
set_option maxHeartbeats 16000000 in
set_option maxRecDepth 100000 in
theorem cmd_Get.rows (t : ByteArray) (br : Nat) (w : World) (hb : cmd_Get.At br w t) (hz : t.size ≤ 1000000) (RES : Option (List (List S45) × ByteArray)) (h : cmd_Get.pRows t = RES) :
  Calls Try.prog 50 #[.pointer (some ⟨br, 0, none⟩)] w fun e w' => cmd_Get.Ps br w (fun W x v => Kd.R (Kd.slice 45 k45) 42 W w.heap.size (fun _ => True) v x) RES e w' := by
 have hu45 := Try.underlying45
 have HB := Aside0.mk hb
 have HZ := Aside0.mk hz
 cases hc : cmd_Get.pC t with
 | none =>
  have hR : RES = none := by rw [← h]; unfold cmd_Get.pRows; rw [hc]; rfl
  subst hR
  have HC := Aside0.mk hc
  clear hb hz h hc
  go_enter Try.func50, Try.ntmps50
  go_wp2_with (go_at_call 48; go_loud (refine (cmd_Get.count_n t br w HB.out HC.out).mono ?_; rintro e w1 ⟨⟨u, pv, rfl⟩, hk⟩; have HK := Aside0.mk hk; clear hk))
  exact ⟨rfl, ⟨_, _, rfl⟩, HK.out⟩
 | some xc =>
 obtain ⟨n0, t0⟩ := xc
 have HC := Aside0.mk hc
 have HR0 := Aside0.mk (show cmd_Get.gR n0.toNat [] t0 = RES by rw [← h]; unfold cmd_Get.pRows; rw [hc]; rfl)
 have HN0 := Aside0.mk (show 0 ≤ n0 ∧ n0 ≤ 1000000 ∧ t0.size ≤ 1000000 by have h1 := cmd_Get.pC_in hc; have h2 := cmd_Get.pC_size hc; omega)
 clear hb hz h hc
 go_enter Try.func50, Try.ntmps50
 go_wp2_with (go_at_call 48; go_loud (refine (cmd_Get.count t br w HB.out _ _ HC.out).mono ?_; rintro e w1 ⟨rfl, ha, hk⟩; have HA1 := Aside0.mk ha; have HK1 := Aside0.mk hk; clear ha hk))
 go_loopw [3, 4] (fun vo vn wr => ∃ (n : Int) (out : List (List S45)) (t1 : ByteArray) (Ao : Option Addr) (no co : Nat), vo = .slice Ao no co ∧ vn = .int .i64 n ∧ Aside0 (0 ≤ n ∧ n ≤ 1000000 ∧ out.length + t1.size ≤ 1000000) ∧ Aside0 (cmd_Get.gR n.toNat out t1 = RES) ∧ Aside0 (cmd_Get.At br wr t1) ∧ Aside0 (Kd.R (Kd.slice 45 k45) 42 wr w.heap.size (fun _ => True) (.slice Ao no co) out) ∧ Aside0 (cmd_Get.Kq br w wr)) (fun _ v _ => (intOf v).toNat)
 case atStart => exact ⟨n0, [], t0, none, 0, 0, rfl, rfl, ⟨HN0.out.1, HN0.out.2.1, by have := HN0.out; simp only [List.length_nil]; omega⟩, HR0, HA1, ⟨Kd.R_nil _ _ _ _ _⟩, HK1⟩
 case round =>
  obtain ⟨n, out, t1, Ao, no, co, rfl, rfl, HN, HR, HA, HO, HK⟩ := hrel
  by_cases hn : 0 < n
  rotate_left
  ·have q1 : decide (n > 0) = false := decide_eq_false hn
   have q2 : decide (0 < n) = false := q1
   have HE := Aside0.mk (show some (out, t1) = RES by have h1 := HR.out; rw [show n.toNat = 0 by omega] at h1; exact h1)
   clear hn
   go_wp2
   go_ret
   rw [← HE.out]
   exact ⟨⟨_, rfl, HO.out⟩, HA.out, HK.out⟩
  ·have q1 : decide (n > 0) = true := decide_eq_true hn
   have q2 : decide (0 < n) = true := q1
   obtain ⟨s0, hs0⟩ : ∃ s, wrap64 (n - 1) = s := ⟨_, rfl⟩
   have T0 := Aside0.mk (cmd_Get.back1 hs0 hn HN.out.2.1)
   have TN := Aside0.mk hn
   clear hn
   cases hc : cmd_Get.pC t1 with
   | none =>
    have hR : RES = none := by rw [← HR.out, T0.out.2.2]; unfold cmd_Get.gR; rw [hc]; rfl
    subst hR
    have HC1 := Aside0.mk hc
    clear hc
    go_wp2_with (go_at_call 48; go_loud (refine (cmd_Get.count_n t1 br _ HA.out HC1.out).mono ?_; rintro e w9 ⟨⟨u, pv, rfl⟩, hk⟩; have HK9 := Aside0.mk (HK.out.trans hk); clear hk))
    exact ⟨rfl, ⟨_, _, rfl⟩, HK9.out⟩
   | some xc =>
   obtain ⟨m0, t2⟩ := xc
   have HC1 := Aside0.mk hc
   have HG0 := Aside0.mk (show cmd_Get.gL cmd_Get.pV (fun l t => cmd_Get.gR s0.toNat (out ++ [l]) t) m0.toNat [] t2 = RES by rw [← HR.out, T0.out.2.2, show cmd_Get.gR (s0.toNat + 1) out t1 = ((cmd_Get.pC t1).bind fun x => cmd_Get.gL cmd_Get.pV (fun l t => cmd_Get.gR s0.toNat (out ++ [l]) t) x.1.toNat [] x.2) from rfl, hc]; rfl)
   have HM0 := Aside0.mk (show 0 ≤ m0 ∧ m0 ≤ 1000000 ∧ out.length + 1 + t2.size ≤ 1000000 by have h1 := cmd_Get.pC_in hc; have h2 := cmd_Get.pC_size hc; have h3 := HN.out; clear hs0; omega)
   clear hc
   go_wp2_with (go_at_call 48; go_loud (refine (cmd_Get.count t1 br _ HA.out _ _ HC1.out).mono ?_; rintro e wb ⟨rfl, ha, hk⟩; have HAb := Aside0.mk ha; have HKO := Aside0.mk (HK.out.trans hk); have HOb := Aside0.mk (hk.R HA.out HO.out (by decide)); clear ha hk))
   go_loopw [5, 6] (fun vl vm wr => ∃ (m : Int) (l : List S45) (t3 : ByteArray) (Al : Option Addr) (nl cl : Nat), vl = .slice Al nl cl ∧ vm = .int .i64 m ∧ Aside0 (0 ≤ m ∧ m ≤ 1000000 ∧ l.length + t3.size ≤ 1000000 ∧ out.length + 1 + t3.size ≤ 1000000) ∧ Aside0 (cmd_Get.gL cmd_Get.pV (fun l t => cmd_Get.gR s0.toNat (out ++ [l]) t) m.toNat l t3 = RES) ∧ Aside0 (cmd_Get.Ri br wb wr t3 (.slice Al nl cl) l)) (fun _ v _ => (intOf v).toNat)
   case atStart => exact ⟨m0, [], t2, none, 0, 0, rfl, rfl, ⟨by have := HM0.out; clear hs0; simp only [List.length_nil]; omega⟩, HG0, ⟨⟨HAb.out, cmd_Get.Kq.refl _ _, Kd.R_nil _ _ _ _ _⟩⟩⟩
   case round =>
    obtain ⟨m, l, t3, Al, nl, cl, rfl, rfl, HM, HG, HI⟩ := hrel
    by_cases hm : 0 < m
    rotate_left
    ·have q3 : decide (m > 0) = false := decide_eq_false hm
     have q4 : decide (0 < m) = false := q3
     have HE := Aside0.mk (show cmd_Get.gR s0.toNat (out ++ [l]) t3 = RES by have h1 := HG.out; rw [show m.toNat = 0 by omega] at h1; exact h1)
     have HO3 := Aside0.mk (HI.out.kq.R HAb.out HOb.out (by decide))
     have HLT := Aside0.mk (Kd.R_lt HOb.out)
     clear hm
     go_wp2_with (((with_reducible refine gate_builtin (b := .append) (xs := #[.tmp 37, .tmp 39]) rfl ?_); at_builtin; go_loud (refine Kd.R_append (Kd.slice 45 k45) (w0 := wr) w.heap.size rfl (.tmp 37) (.tmp 39) 25 42 (.slice none 0 0) 24 rfl Try.underlying25 cmd_Get.infS rfl (by decide) (by decide) (.slice Ao no co) out l [.slice Al nl cl] (fun _ => True) (fun k => wb.heap.size ≤ k) (by first | rfl | (go_simp; done) | (go_simp; rfl)) (by first | rfl | (go_simp; done) | (go_simp; rfl)) ⟨.slice Al nl cl, rfl, Kd.R_lower (Kd.R_mono (Kd.R_bound HI.out.row) (fun k hk => hk.2.1)) HKO.out.size⟩ (fun k hk => ⟨trivial, fun e => by have := HLT.out k e.symm; omega⟩) (fun _ _ => trivial) HO3.out (Below.refl _ _) (Nat.le_trans HKO.out.size HI.out.kq.size) (by have := HM.out; clear hs0; omega) ?_; intro v8 w8 ho hb8 hg8 hat; obtain ⟨A8, m8, c8, rfl⟩ : ∃ A m c, v8 = .slice A m c := (by obtain ⟨A, c, h⟩ := Kd.R_slice ho; exact ⟨A, _, c, h⟩); have HO8 := Aside0.mk ho; have HA8 := Aside0.mk (blk_grown HI.out.at_ hg8 (Kd.R_ne HO3.out HI.out.at_ (by decide))); have HK8 := Aside0.mk ((HKO.out.trans HI.out.kq).grown hg8 (Kd.R_base HO3.out)); clear ho hb8 hg8 hat)))
     go_roundw
     case rel => exact ⟨s0, out ++ [l], t3, _, _, _, rfl, by rw [hs0], ⟨by have := T0.out; have := HM.out; clear hs0; simp only [List.length_append, List.length_singleton]; omega⟩, HE, HA8, HO8, HK8⟩
     case measure => rw [hs0]; have := T0.out; clear hs0; show s0.toNat < n.toNat; omega
    ·have q3 : decide (m > 0) = true := decide_eq_true hm
     have q4 : decide (0 < m) = true := q3
     obtain ⟨s2, hs2⟩ : ∃ s, wrap64 (m - 1) = s := ⟨_, rfl⟩
     have T2 := Aside0.mk (cmd_Get.back1 hs2 hm HM.out.2.1)
     have HGS := Aside0.mk (show ((cmd_Get.pV t3).bind fun x => cmd_Get.gL cmd_Get.pV (fun l t => cmd_Get.gR s0.toNat (out ++ [l]) t) s2.toNat (l ++ [x.1]) x.2) = RES by rw [← HG.out, T2.out.2.2]; rfl)
     have HL := Aside0.mk (show (l.length + 1) * 40 ≤ 140737488355328 by have := HM.out; clear hs2 hs0; omega)
     clear hm
     cases h1 : cmd_Get.pN t3 with
     | none =>
      have hR : RES = none := by rw [← HGS.out]; unfold cmd_Get.pV; rw [h1]; rfl
      have P1 := Aside0.mk h1
      clear h1
      subst hR
      go_wp2_with (first | (go_at_call 47; go_loud (refine (cmd_Get.num_n t3 br _ HI.out.at_ P1.out).mono ?_; rintro e w9 ⟨⟨u, pv, rfl⟩, hk⟩; have HK9 := Aside0.mk (HKO.out.trans (HI.out.kq.trans hk)); clear hk)))
      exact ⟨rfl, ⟨_, _, rfl⟩, HK9.out⟩
     | some x1 =>
     obtain ⟨k1, t4⟩ := x1
     cases h2 : cmd_Get.pW t4 with
     | none =>
      have hR : RES = none := by rw [← HGS.out]; unfold cmd_Get.pV; rw [h1, Option.bind_some, h2]; rfl
      have P1 := Aside0.mk h1
      have P2 := Aside0.mk h2
      clear h1 h2
      subst hR
      go_wp2_with (first | (go_at_call 55; go_loud (refine (cmd_Get.word_n t4 br _ HV0.out.at_ P2.out).mono ?_; rintro e w9 ⟨⟨u, pv, rfl⟩, hk⟩; have HK9 := Aside0.mk (HKO.out.trans (HV0.out.kq.trans hk)); clear hk)) | ((with_reducible refine gate_dst (N := 7) rfl ?_); (try (refine gate_guard (by rfl) ?_; dsimp only)); go_loud (refine box_event ?hg (N := 7) ?hd (cs := #[.int .i64 0, .int .i64 0, .int .u64 0, .string (⟨#[]⟩ : ByteArray)]) (t := 45) ?hr ?_; (case hd => rfl); (case hg => rfl); (case hr => first | (go_simp; done) | (go_simp; rfl)); intro gb hg w3 hbox hb; have HV := Aside0.mk (HI1.out.box hg hbox hb); have HV0 := Aside0.mk (HV.out.put4 (.int .i64 k1) (.int .i64 0) (.int .u64 0) (.string (⟨#[]⟩ : ByteArray))); clear hbox hb hg; have c0_w3 : w3.cell? ⟨gb, 0, none⟩ = some (.int .i64 0) := (blk_cell HV.out.blk 0).trans rfl; have f0_w3 := blk_frozen HV.out.blk 0; have c1_w3 : w3.cell? ⟨gb, 1, none⟩ = some (.int .i64 0) := (blk_cell HV.out.blk 1).trans rfl; have f1_w3 := blk_frozen HV.out.blk 1; have c2_w3 : w3.cell? ⟨gb, 2, none⟩ = some (.int .u64 0) := (blk_cell HV.out.blk 2).trans rfl; have f2_w3 := blk_frozen HV.out.blk 2; have c3_w3 : w3.cell? ⟨gb, 3, none⟩ = some (.string (⟨#[]⟩ : ByteArray)) := (blk_cell HV.out.blk 3).trans rfl; have f3_w3 := blk_frozen HV.out.blk 3)) | (go_at_call 47; go_loud (refine (cmd_Get.num t3 br _ HI.out.at_ _ _ P1.out).mono ?_; rintro e w2 ⟨rfl, ha, hk⟩; have HI1 := Aside0.mk (HI.out.call ha hk); clear ha hk)))
      exact ⟨rfl, ⟨_, _, rfl⟩, HK9.out⟩
     | some x2 =>
     obtain ⟨n1, t5⟩ := x2
     cases h3 : cmd_Get.pW t5 with
     | none =>
      have hR : RES = none := by rw [← HGS.out]; unfold cmd_Get.pV; rw [h1, Option.bind_some, h2, Option.bind_some, h3]; rfl
      have P1 := Aside0.mk h1
      have P2 := Aside0.mk h2
      have P3 := Aside0.mk h3
      clear h1 h2 h3
      subst hR
      go_wp2_with (first | (go_at_call 55; go_loud (refine (cmd_Get.word_n t5 br _ HV1p.out.at_ P3.out).mono ?_; rintro e w9 ⟨⟨u, pv, rfl⟩, hk⟩; have HK9 := Aside0.mk (HKO.out.trans (HV1p.out.kq.trans hk)); clear hk)) | (go_at_call 55; go_loud (refine (cmd_Get.word t4 br _ HV0.out.at_ _ _ P2.out).mono ?_; rintro e w4 ⟨rfl, ha, hk⟩; have HV1 := Aside0.mk (HV0.out.call ha hk); clear ha hk; have c1_w4 : w4.cell? ⟨gb, 1, none⟩ = some (.int .i64 0) := (blk_cell HV1.out.blk 1).trans rfl; have f1_w4 := blk_frozen HV1.out.blk 1; have HV1p := Aside0.mk (HV1.out.put 1 (.int .i64 (wrap64 n1)) rfl))) | ((with_reducible refine gate_dst (N := 7) rfl ?_); (try (refine gate_guard (by rfl) ?_; dsimp only)); go_loud (refine box_event ?hg (N := 7) ?hd (cs := #[.int .i64 0, .int .i64 0, .int .u64 0, .string (⟨#[]⟩ : ByteArray)]) (t := 45) ?hr ?_; (case hd => rfl); (case hg => rfl); (case hr => first | (go_simp; done) | (go_simp; rfl)); intro gb hg w3 hbox hb; have HV := Aside0.mk (HI1.out.box hg hbox hb); have HV0 := Aside0.mk (HV.out.put4 (.int .i64 k1) (.int .i64 0) (.int .u64 0) (.string (⟨#[]⟩ : ByteArray))); clear hbox hb hg; have c0_w3 : w3.cell? ⟨gb, 0, none⟩ = some (.int .i64 0) := (blk_cell HV.out.blk 0).trans rfl; have f0_w3 := blk_frozen HV.out.blk 0; have c1_w3 : w3.cell? ⟨gb, 1, none⟩ = some (.int .i64 0) := (blk_cell HV.out.blk 1).trans rfl; have f1_w3 := blk_frozen HV.out.blk 1; have c2_w3 : w3.cell? ⟨gb, 2, none⟩ = some (.int .u64 0) := (blk_cell HV.out.blk 2).trans rfl; have f2_w3 := blk_frozen HV.out.blk 2; have c3_w3 : w3.cell? ⟨gb, 3, none⟩ = some (.string (⟨#[]⟩ : ByteArray)) := (blk_cell HV.out.blk 3).trans rfl; have f3_w3 := blk_frozen HV.out.blk 3)) | (go_at_call 47; go_loud (refine (cmd_Get.num t3 br _ HI.out.at_ _ _ P1.out).mono ?_; rintro e w2 ⟨rfl, ha, hk⟩; have HI1 := Aside0.mk (HI.out.call ha hk); clear ha hk)))
      exact ⟨rfl, ⟨_, _, rfl⟩, HK9.out⟩
     | some x3 =>
     obtain ⟨g1, t6⟩ := x3
     cases h4 : cmd_Get.pT t6 with
     | none =>
      have hR : RES = none := by rw [← HGS.out]; unfold cmd_Get.pV; rw [h1, Option.bind_some, h2, Option.bind_some, h3, Option.bind_some, h4]; rfl
      have P1 := Aside0.mk h1
      have P2 := Aside0.mk h2
      have P3 := Aside0.mk h3
      have P4 := Aside0.mk h4
      clear h1 h2 h3 h4
      subst hR
      go_wp2_with (first | (go_at_call 49; go_loud (refine (cmd_Get.text_n t6 br _ HV2p.out.at_ P4.out).mono ?_; rintro e w9 ⟨⟨u, pv, rfl⟩, hk⟩; have HK9 := Aside0.mk (HKO.out.trans (HV2p.out.kq.trans hk)); clear hk)) | (go_at_call 55; go_loud (refine (cmd_Get.word t5 br _ HV1p.out.at_ _ _ P3.out).mono ?_; rintro e w5 ⟨rfl, ha, hk⟩; have HV2 := Aside0.mk (HV1p.out.call ha hk); clear ha hk; have c2_w5 : w5.cell? ⟨gb, 2, none⟩ = some (.int .u64 0) := (blk_cell HV2.out.blk 2).trans rfl; have f2_w5 := blk_frozen HV2.out.blk 2; have HV2p := Aside0.mk (HV2.out.put 2 (.int .u64 g1) rfl))) | (go_at_call 55; go_loud (refine (cmd_Get.word t4 br _ HV0.out.at_ _ _ P2.out).mono ?_; rintro e w4 ⟨rfl, ha, hk⟩; have HV1 := Aside0.mk (HV0.out.call ha hk); clear ha hk; have c1_w4 : w4.cell? ⟨gb, 1, none⟩ = some (.int .i64 0) := (blk_cell HV1.out.blk 1).trans rfl; have f1_w4 := blk_frozen HV1.out.blk 1; have HV1p := Aside0.mk (HV1.out.put 1 (.int .i64 (wrap64 n1)) rfl))) | ((with_reducible refine gate_dst (N := 7) rfl ?_); (try (refine gate_guard (by rfl) ?_; dsimp only)); go_loud (refine box_event ?hg (N := 7) ?hd (cs := #[.int .i64 0, .int .i64 0, .int .u64 0, .string (⟨#[]⟩ : ByteArray)]) (t := 45) ?hr ?_; (case hd => rfl); (case hg => rfl); (case hr => first | (go_simp; done) | (go_simp; rfl)); intro gb hg w3 hbox hb; have HV := Aside0.mk (HI1.out.box hg hbox hb); have HV0 := Aside0.mk (HV.out.put4 (.int .i64 k1) (.int .i64 0) (.int .u64 0) (.string (⟨#[]⟩ : ByteArray))); clear hbox hb hg; have c0_w3 : w3.cell? ⟨gb, 0, none⟩ = some (.int .i64 0) := (blk_cell HV.out.blk 0).trans rfl; have f0_w3 := blk_frozen HV.out.blk 0; have c1_w3 : w3.cell? ⟨gb, 1, none⟩ = some (.int .i64 0) := (blk_cell HV.out.blk 1).trans rfl; have f1_w3 := blk_frozen HV.out.blk 1; have c2_w3 : w3.cell? ⟨gb, 2, none⟩ = some (.int .u64 0) := (blk_cell HV.out.blk 2).trans rfl; have f2_w3 := blk_frozen HV.out.blk 2; have c3_w3 : w3.cell? ⟨gb, 3, none⟩ = some (.string (⟨#[]⟩ : ByteArray)) := (blk_cell HV.out.blk 3).trans rfl; have f3_w3 := blk_frozen HV.out.blk 3)) | (go_at_call 47; go_loud (refine (cmd_Get.num t3 br _ HI.out.at_ _ _ P1.out).mono ?_; rintro e w2 ⟨rfl, ha, hk⟩; have HI1 := Aside0.mk (HI.out.call ha hk); clear ha hk)))
      exact ⟨rfl, ⟨_, _, rfl⟩, HK9.out⟩
     | some x4 =>
     obtain ⟨s1, t7⟩ := x4
     have HGE := Aside0.mk (show cmd_Get.gL cmd_Get.pV (fun l t => cmd_Get.gR s0.toNat (out ++ [l]) t) s2.toNat (l ++ [(⟨k1, wrap64 n1, g1, s1⟩ : S45)]) t7 = RES by rw [← HGS.out]; unfold cmd_Get.pV; rw [h1, Option.bind_some, h2, Option.bind_some, h3, Option.bind_some, h4]; rfl)
     have HZ7 := Aside0.mk (show t7.size + 8 ≤ t3.size by have e1 := cmd_Get.pN_size h1; have e2 := cmd_Get.pW_size h2; have e3 := cmd_Get.pW_size h3; have e4 := cmd_Get.pT_size h4; clear hs0 hs2; omega)
     have P1 := Aside0.mk h1
     have P2 := Aside0.mk h2
     have P3 := Aside0.mk h3
     have P4 := Aside0.mk h4
     clear h1 h2 h3 h4
     go_wp2_with (first | ((with_reducible refine gate_builtin (b := .append) (xs := #[.tmp 33, .tmp 35]) rfl ?_); at_builtin; go_loud (refine Kd.R_append k45 (w0 := w6.setCell ⟨gb, 3, none⟩ (.string s1)) wb.heap.size rfl (.tmp 33) (.tmp 35) 42 45 (.agg #[.int .i64 0, .int .i64 0, .int .u64 0, .string ⟨#[]⟩]) 40 rfl Try.underlying42 cmd_Get.infV rfl (by decide) (by decide) (.slice Al nl cl) l (⟨k1, wrap64 n1, g1, s1⟩ : S45) [.int .i64 k1, .int .i64 (wrap64 n1), .int .u64 g1, .string s1] (fun _ => True) (fun _ => False) (by first | rfl | (go_simp; done) | (go_simp; rfl)) (by first | rfl | (go_simp; done) | (go_simp; rfl)) (k45_mkM _ _ _ (⟨k1, wrap64 n1, g1, s1⟩ : S45)) (fun _ hk => hk.elim) (fun _ _ => trivial) (Kd.R_mono HV3p.out.row (fun _ _ => trivial)) (Below.refl _ _) HV3p.out.kq.size (by have := HL.out; omega) ?_; intro v8 w8 ho hb8 hg8 hat; obtain ⟨A8, m8, c8, rfl⟩ : ∃ A m c, v8 = .slice A m c := (by obtain ⟨A, c, h⟩ := Kd.R_slice ho; exact ⟨A, _, c, h⟩); have HI8 := Aside0.mk (show cmd_Get.Ri br wb w8 t7 (.slice A8 m8 c8) (l ++ [(⟨k1, wrap64 n1, g1, s1⟩ : S45)]) from ⟨blk_grown HV3p.out.at_ hg8 (Kd.R_ne HV3p.out.row HV3p.out.at_ (by decide)), HV3p.out.kq.grown hg8 (Kd.R_base HV3p.out.row), ho⟩); clear ho hb8 hg8 hat)) | (go_at_call 49; go_loud (refine (cmd_Get.text t6 br _ HV2p.out.at_ _ _ P4.out).mono ?_; rintro e w6 ⟨rfl, ha, hk⟩; have HV3 := Aside0.mk (HV2p.out.call ha hk); clear ha hk; have c0_w6 : w6.cell? ⟨gb, 0, none⟩ = some (.int .i64 k1) := (blk_cell HV3.out.blk 0).trans rfl; have f0_w6 := blk_frozen HV3.out.blk 0; have c1_w6 : w6.cell? ⟨gb, 1, none⟩ = some (.int .i64 (wrap64 n1)) := (blk_cell HV3.out.blk 1).trans rfl; have f1_w6 := blk_frozen HV3.out.blk 1; have c2_w6 : w6.cell? ⟨gb, 2, none⟩ = some (.int .u64 g1) := (blk_cell HV3.out.blk 2).trans rfl; have f2_w6 := blk_frozen HV3.out.blk 2; have c3_w6 : w6.cell? ⟨gb, 3, none⟩ = some (.string (⟨#[]⟩ : ByteArray)) := (blk_cell HV3.out.blk 3).trans rfl; have f3_w6 := blk_frozen HV3.out.blk 3; have HV3p := Aside0.mk (HV3.out.put 3 (.string s1) rfl))) | (go_at_call 55; go_loud (refine (cmd_Get.word t5 br _ HV1p.out.at_ _ _ P3.out).mono ?_; rintro e w5 ⟨rfl, ha, hk⟩; have HV2 := Aside0.mk (HV1p.out.call ha hk); clear ha hk; have c2_w5 : w5.cell? ⟨gb, 2, none⟩ = some (.int .u64 0) := (blk_cell HV2.out.blk 2).trans rfl; have f2_w5 := blk_frozen HV2.out.blk 2; have HV2p := Aside0.mk (HV2.out.put 2 (.int .u64 g1) rfl))) | (go_at_call 55; go_loud (refine (cmd_Get.word t4 br _ HV0.out.at_ _ _ P2.out).mono ?_; rintro e w4 ⟨rfl, ha, hk⟩; have HV1 := Aside0.mk (HV0.out.call ha hk); clear ha hk; have c1_w4 : w4.cell? ⟨gb, 1, none⟩ = some (.int .i64 0) := (blk_cell HV1.out.blk 1).trans rfl; have f1_w4 := blk_frozen HV1.out.blk 1; have HV1p := Aside0.mk (HV1.out.put 1 (.int .i64 (wrap64 n1)) rfl))) | ((with_reducible refine gate_dst (N := 7) rfl ?_); (try (refine gate_guard (by rfl) ?_; dsimp only)); go_loud (refine box_event ?hg (N := 7) ?hd (cs := #[.int .i64 0, .int .i64 0, .int .u64 0, .string (⟨#[]⟩ : ByteArray)]) (t := 45) ?hr ?_; (case hd => rfl); (case hg => rfl); (case hr => first | (go_simp; done) | (go_simp; rfl)); intro gb hg w3 hbox hb; have HV := Aside0.mk (HI1.out.box hg hbox hb); have HV0 := Aside0.mk (HV.out.put4 (.int .i64 k1) (.int .i64 0) (.int .u64 0) (.string (⟨#[]⟩ : ByteArray))); clear hbox hb hg; have c0_w3 : w3.cell? ⟨gb, 0, none⟩ = some (.int .i64 0) := (blk_cell HV.out.blk 0).trans rfl; have f0_w3 := blk_frozen HV.out.blk 0; have c1_w3 : w3.cell? ⟨gb, 1, none⟩ = some (.int .i64 0) := (blk_cell HV.out.blk 1).trans rfl; have f1_w3 := blk_frozen HV.out.blk 1; have c2_w3 : w3.cell? ⟨gb, 2, none⟩ = some (.int .u64 0) := (blk_cell HV.out.blk 2).trans rfl; have f2_w3 := blk_frozen HV.out.blk 2; have c3_w3 : w3.cell? ⟨gb, 3, none⟩ = some (.string (⟨#[]⟩ : ByteArray)) := (blk_cell HV.out.blk 3).trans rfl; have f3_w3 := blk_frozen HV.out.blk 3)) | (go_at_call 47; go_loud (refine (cmd_Get.num t3 br _ HI.out.at_ _ _ P1.out).mono ?_; rintro e w2 ⟨rfl, ha, hk⟩; have HI1 := Aside0.mk (HI.out.call ha hk); clear ha hk)))
     go_roundw
     case rel => exact ⟨s2, _, t7, _, _, _, rfl, by rw [hs2], ⟨by have := T2.out; have := HM.out; have := HZ7.out; clear hs0 hs2; simp only [List.length_append, List.length_singleton]; omega⟩, HGE, HI8⟩
     case measure => rw [hs2]; have := T2.out; clear hs0 hs2; show s2.toNat < m.toNat; omega
theorem cmd_Get.infR : (Try.prog.info? 50).map (fun i => (i.zero, i.size, i.bytes)) = some (some (.agg #[.string ⟨#[]⟩, .string ⟨#[]⟩]), 2, 32) := by kernel_rfl
theorem cmd_Get.infW : (Try.prog.info? 41).map (fun i => (i.zero, i.size, i.bytes)) = some (some (.agg #[.string ⟨#[]⟩, .string ⟨#[]⟩, .bool false]), 3, 40) := by kernel_rfl
theorem cmd_Get.infT : (Try.prog.info? 9).map (fun i => (i.zero, i.size, i.bytes)) = some (some (.string ⟨#[]⟩), 1, 16) := by kernel_rfl
/-- A command, as it is read. -/
structure cmd_Get.Cm where
 a0 : Int
 a1 : Int
 a2 : Int
 a3 : Int
 l4 : List ByteArray
 l5 : List S50
 l6 : List S41
 a7 : Int
 a8 : Int
 a9 : Int
 a10 : ByteArray
 a11 : Int
 l12 : List (List S45)
def cmd_Get.pRng (t : ByteArray) : Option (S50 × ByteArray) := (cmd_Get.pT t).bind fun x => (cmd_Get.pT x.2).bind fun y => some (⟨x.1, y.1⟩, y.2)
def cmd_Get.pWr (t : ByteArray) : Option (S41 × ByteArray) := (cmd_Get.pT t).bind fun x => (cmd_Get.pT x.2).bind fun y => (cmd_Get.pN y.2).bind fun z => some (⟨x.1, y.1, z.1 == 1⟩, z.2)
def cmd_Get.K6 (a0 a1 a2 a3 : Int) (l4 : List ByteArray) (l5 : List S50) (l6 : List S41) (t : ByteArray) : Option (cmd_Get.Cm × ByteArray) :=
 (cmd_Get.pN t).bind fun x7 => (cmd_Get.pN x7.2).bind fun x8 => (cmd_Get.pN x8.2).bind fun x9 => (cmd_Get.pT x9.2).bind fun x10 => (cmd_Get.pN x10.2).bind fun x11 => (cmd_Get.pRows x11.2).bind fun x12 => some (⟨a0, a1, a2, a3, l4, l5, l6, x7.1, x8.1, x9.1, x10.1, x11.1, x12.1⟩, x12.2)
def cmd_Get.K5 (a0 a1 a2 a3 : Int) (l4 : List ByteArray) (l5 : List S50) (t : ByteArray) : Option (cmd_Get.Cm × ByteArray) := (cmd_Get.pC t).bind fun m => cmd_Get.gL cmd_Get.pWr (cmd_Get.K6 a0 a1 a2 a3 l4 l5) m.1.toNat [] m.2
def cmd_Get.K4 (a0 a1 a2 a3 : Int) (l4 : List ByteArray) (t : ByteArray) : Option (cmd_Get.Cm × ByteArray) := (cmd_Get.pC t).bind fun m => cmd_Get.gL cmd_Get.pRng (cmd_Get.K5 a0 a1 a2 a3 l4) m.1.toNat [] m.2
def cmd_Get.pCmd (t : ByteArray) : Option (cmd_Get.Cm × ByteArray) :=
 (cmd_Get.pN t).bind fun x0 => (cmd_Get.pN x0.2).bind fun x1 => (cmd_Get.pN x1.2).bind fun x2 => (cmd_Get.pN x2.2).bind fun x3 => (cmd_Get.pC x3.2).bind fun m => cmd_Get.gL cmd_Get.pT (cmd_Get.K4 x0.1 x1.1 x2.1 x3.1) m.1.toNat [] m.2
/-- While a command is read: the result's block alone; then the command's block, and its rows. -/
structure cmd_Get.C0 (br rb : Nat) (w W : World) (t : ByteArray) : Prop where
 at_ : cmd_Get.At br W t
 kq : cmd_Get.Kq br w W
 rblk : W.heap[rb]? = some (.cells #[.int .i64 0, .int .i64 0, .int .i64 0, .int .i64 0, .slice none 0 0, .slice none 0 0, .slice none 0 0, .int .i64 0, .int .i64 0, .int .i64 0, .string (⟨#[]⟩ : ByteArray), .int .i64 0, .slice none 0 0] 27 (0, 0))
 rge : w.heap.size ≤ rb
structure cmd_Get.Cs (br cb rb : Nat) (w W : World) (ok : Nat → Prop) (t : ByteArray) (cs : Array Value) (v4 : Value) (l4 : List ByteArray) (v5 : Value) (l5 : List S50) (v6 : Value) (l6 : List S41) : Prop where
 at_ : cmd_Get.At br W t
 kq : cmd_Get.Kq br w W
 rblk : W.heap[rb]? = some (.cells #[.int .i64 0, .int .i64 0, .int .i64 0, .int .i64 0, .slice none 0 0, .slice none 0 0, .slice none 0 0, .int .i64 0, .int .i64 0, .int .i64 0, .string (⟨#[]⟩ : ByteArray), .int .i64 0, .slice none 0 0] 27 (0, 0))
 rge : w.heap.size ≤ rb
 blk : W.heap[cb]? = some (.cells cs 27 (0, 0))
 ge : w.heap.size ≤ cb
 ne : cb ≠ rb
 r4 : Kd.string.R 9 W w.heap.size (fun _ => True) v4 l4
 r5 : k50.R 50 W w.heap.size (fun _ => True) v5 l5
 r6 : k41.R 41 W w.heap.size ok v6 l6
theorem cmd_Get.C0.call {br rb : Nat} {w W W' : World} {t t' : ByteArray} (h : cmd_Get.C0 br rb w W t) (ha : cmd_Get.At br W' t') (hk : cmd_Get.Kq br W W') : cmd_Get.C0 br rb w W' t' :=
 ⟨ha, h.kq.trans hk, (hk.block rb (blk_lt h.rblk) (blk_ne h.rblk h.at_ (by decide))).trans h.rblk, h.rge⟩
theorem cmd_Get.C0.box {br cb rb : Nat} {w W W' : World} {t : ByteArray} {cs : Array Value} (h : cmd_Get.C0 br rb w W t) (hg : cb = W.heap.size) (hb : W'.heap[cb]? = some (.cells cs 27 (0, 0))) (hw : Below W.heap.size W W') : cmd_Get.Cs br cb rb w W' (fun _ => True) t cs (.slice none 0 0) [] (.slice none 0 0) [] (.slice none 0 0) [] :=
 ⟨h.at_.below hw, h.kq.trans (cmd_Get.Kq.below hw), yB h.rblk hw, h.rge, hb, by rw [hg]; exact h.kq.size, by have := blk_lt h.rblk; omega, Kd.R_nil _ _ _ _ _, Kd.R_nil _ _ _ _ _, Kd.R_nil _ _ _ _ _⟩
theorem cmd_Get.Cs.call {br cb rb : Nat} {w W W' : World} {ok : Nat → Prop} {t : ByteArray} {cs : Array Value} {v4 : Value} {l4 : List ByteArray} {v5 : Value} {l5 : List S50} {v6 : Value} {l6 : List S41} {t' : ByteArray} (h : cmd_Get.Cs br cb rb w W ok t cs v4 l4 v5 l5 v6 l6) (ha : cmd_Get.At br W' t') (hk : cmd_Get.Kq br W W') : cmd_Get.Cs br cb rb w W' ok t' cs v4 l4 v5 l5 v6 l6 :=
 ⟨ha, h.kq.trans hk, (hk.block rb (blk_lt h.rblk) (blk_ne h.rblk h.at_ (by decide))).trans h.rblk, h.rge, (hk.block cb (blk_lt h.blk) (blk_ne h.blk h.at_ (by decide))).trans h.blk, h.ge, h.ne, hk.R h.at_ h.r4 (by decide), hk.R h.at_ h.r5 (by decide), hk.R h.at_ h.r6 (by decide)⟩
theorem cmd_Get.Cs.put {br cb rb : Nat} {w W : World} {ok : Nat → Prop} {t : ByteArray} {cs : Array Value} {v4 : Value} {l4 : List ByteArray} {v5 : Value} {l5 : List S50} {v6 : Value} {l6 : List S41} {cs' : Array Value} (h : cmd_Get.Cs br cb rb w W ok t cs v4 l4 v5 l5 v6 l6) (i : Nat) (v : Value) (e : cs.setIfInBounds i v = cs') : cmd_Get.Cs br cb rb w (W.setCell ⟨cb, i, none⟩ v) ok t cs' v4 l4 v5 l5 v6 l6 :=
 ⟨blk_far h.at_ (Ne.symm (blk_ne h.blk h.at_ (by decide))) _, h.kq.put h.ge v, blk_far h.rblk (Ne.symm h.ne) _, h.rge, blk_put h.blk i v e, h.ge, h.ne, Kd.R_set h.r4 h.blk (by decide) i v, Kd.R_set h.r5 h.blk (by decide) i v, Kd.R_set h.r6 h.blk (by decide) i v⟩
theorem cmd_Get.Cs.app4 {br cb rb : Nat} {w W W' : World} {ok : Nat → Prop} {t : ByteArray} {cs : Array Value} {v4 : Value} {l4 : List ByteArray} {v5 : Value} {l5 : List S50} {v6 : Value} {l6 : List S41} {v4' : Value} {l4' : List ByteArray} (h : cmd_Get.Cs br cb rb w W ok t cs v4 l4 v5 l5 v6 l6) (ho : Kd.string.R 9 W' w.heap.size (fun _ => True) v4' l4') (hg : W.grownBy W' v4.ownBlock) : cmd_Get.Cs br cb rb w W' ok t cs v4' l4' v5 l5 v6 l6 :=
 ⟨blk_grown h.at_ hg (Kd.R_ne h.r4 h.at_ (by decide)), h.kq.grown hg (Kd.R_base h.r4), blk_grown h.rblk hg (Kd.R_ne h.r4 h.rblk (by decide)), h.rge, blk_grown h.blk hg (Kd.R_ne h.r4 h.blk (by decide)), h.ge, h.ne, ho, Kd.R_over h.r5 h.r4 (by decide) hg, Kd.R_over h.r6 h.r4 (by decide) hg⟩
theorem cmd_Get.Cs.app5 {br cb rb : Nat} {w W W' : World} {ok : Nat → Prop} {t : ByteArray} {cs : Array Value} {v4 : Value} {l4 : List ByteArray} {v5 : Value} {l5 : List S50} {v6 : Value} {l6 : List S41} {v5' : Value} {l5' : List S50} (h : cmd_Get.Cs br cb rb w W ok t cs v4 l4 v5 l5 v6 l6) (ho : k50.R 50 W' w.heap.size (fun _ => True) v5' l5') (hg : W.grownBy W' v5.ownBlock) : cmd_Get.Cs br cb rb w W' ok t cs v4 l4 v5' l5' v6 l6 :=
 ⟨blk_grown h.at_ hg (Kd.R_ne h.r5 h.at_ (by decide)), h.kq.grown hg (Kd.R_base h.r5), blk_grown h.rblk hg (Kd.R_ne h.r5 h.rblk (by decide)), h.rge, blk_grown h.blk hg (Kd.R_ne h.r5 h.blk (by decide)), h.ge, h.ne, Kd.R_over h.r4 h.r5 (by decide) hg, ho, Kd.R_over h.r6 h.r5 (by decide) hg⟩
theorem cmd_Get.Cs.app6 {br cb rb : Nat} {w W W' : World} {ok ok' : Nat → Prop} {t : ByteArray} {cs : Array Value} {v4 : Value} {l4 : List ByteArray} {v5 : Value} {l5 : List S50} {v6 : Value} {l6 : List S41} {v6' : Value} {l6' : List S41} (h : cmd_Get.Cs br cb rb w W ok t cs v4 l4 v5 l5 v6 l6) (ho : k41.R 41 W' w.heap.size ok' v6' l6') (hg : W.grownBy W' v6.ownBlock) : cmd_Get.Cs br cb rb w W' ok' t cs v4 l4 v5 l5 v6' l6' :=
 ⟨blk_grown h.at_ hg (Kd.R_ne h.r6 h.at_ (by decide)), h.kq.grown hg (Kd.R_base h.r6), blk_grown h.rblk hg (Kd.R_ne h.r6 h.rblk (by decide)), h.rge, blk_grown h.blk hg (Kd.R_ne h.r6 h.blk (by decide)), h.ge, h.ne, Kd.R_over h.r4 h.r6 (by decide) hg, Kd.R_over h.r5 h.r6 (by decide) hg, ho⟩
/-- While a write is read: its own block beside. -/
structure cmd_Get.Cg (br cb rb gb : Nat) (w W : World) (gs : Array Value) (t : ByteArray) (cs : Array Value) (v4 : Value) (l4 : List ByteArray) (v5 : Value) (l5 : List S50) (v6 : Value) (l6 : List S41) : Prop where
 cs_ : cmd_Get.Cs br cb rb w W (fun k => k ≠ gb) t cs v4 l4 v5 l5 v6 l6
 gblk : W.heap[gb]? = some (.cells gs 41 (0, 0))
 gge : w.heap.size ≤ gb
theorem cmd_Get.Cs.boxw {br cb rb gb : Nat} {w W W' : World} {gs : Array Value} {t : ByteArray} {cs : Array Value} {v4 : Value} {l4 : List ByteArray} {v5 : Value} {l5 : List S50} {v6 : Value} {l6 : List S41} (h : cmd_Get.Cs br cb rb w W (fun _ => True) t cs v4 l4 v5 l5 v6 l6) (hg : gb = W.heap.size) (hb : W'.heap[gb]? = some (.cells gs 41 (0, 0))) (hw : Below W.heap.size W W') : cmd_Get.Cg br cb rb gb w W' gs t cs v4 l4 v5 l5 v6 l6 :=
 ⟨⟨h.at_.below hw, h.kq.trans (cmd_Get.Kq.below hw), yB h.rblk hw, h.rge, yB h.blk hw, h.ge, h.ne, Kd.R_below h.r4 hw, Kd.R_below h.r5 hw, Kd.R_mono (Kd.R_below (Kd.R_elderB h.r6 gb (by omega)) hw) (fun _ hk => hk.2)⟩, hb, by rw [hg]; exact h.kq.size⟩
theorem cmd_Get.Cg.call {br cb rb gb : Nat} {w W W' : World} {gs : Array Value} {t : ByteArray} {cs : Array Value} {v4 : Value} {l4 : List ByteArray} {v5 : Value} {l5 : List S50} {v6 : Value} {l6 : List S41} {t' : ByteArray} (h : cmd_Get.Cg br cb rb gb w W gs t cs v4 l4 v5 l5 v6 l6) (ha : cmd_Get.At br W' t') (hk : cmd_Get.Kq br W W') : cmd_Get.Cg br cb rb gb w W' gs t' cs v4 l4 v5 l5 v6 l6 :=
 ⟨h.cs_.call ha hk, (hk.block gb (blk_lt h.gblk) (blk_ne h.gblk h.cs_.at_ (by decide))).trans h.gblk, h.gge⟩
theorem cmd_Get.Cg.put {br cb rb gb : Nat} {w W : World} {gs gs' : Array Value} {t : ByteArray} {cs : Array Value} {v4 : Value} {l4 : List ByteArray} {v5 : Value} {l5 : List S50} {v6 : Value} {l6 : List S41} (h : cmd_Get.Cg br cb rb gb w W gs t cs v4 l4 v5 l5 v6 l6) (i : Nat) (v : Value) (e : gs.setIfInBounds i v = gs') : cmd_Get.Cg br cb rb gb w (W.setCell ⟨gb, i, none⟩ v) gs' t cs v4 l4 v5 l5 v6 l6 :=
 ⟨⟨blk_far h.cs_.at_ (Ne.symm (blk_ne h.gblk h.cs_.at_ (by decide))) _, h.cs_.kq.put h.gge v, blk_far h.cs_.rblk (Ne.symm (blk_ne h.gblk h.cs_.rblk (by decide))) _, h.cs_.rge, blk_far h.cs_.blk (Ne.symm (blk_ne h.gblk h.cs_.blk (by decide))) _, h.cs_.ge, h.cs_.ne, Kd.R_set h.cs_.r4 h.gblk (by decide) i v, Kd.R_set h.cs_.r5 h.gblk (by decide) i v, Kd.R_far h.cs_.r6 (fun _ hk => hk) v⟩, blk_put h.gblk i v e, h.gge⟩
theorem cmd_Get.Cs.put13 {br cb rb : Nat} {w W : World} {ok : Nat → Prop} {t : ByteArray} {v4 : Value} {l4 : List ByteArray} {v5 : Value} {l5 : List S50} {v6 : Value} {l6 : List S41} {a0 a1 a2 a3 a4 a5 a6 a7 a8 a9 a10 a11 a12 : Value} (h : cmd_Get.Cs br cb rb w W ok t #[a0, a1, a2, a3, a4, a5, a6, a7, a8, a9, a10, a11, a12] v4 l4 v5 l5 v6 l6) (b0 b1 b2 b3 b4 b5 b6 b7 b8 b9 b10 b11 b12 : Value) : cmd_Get.Cs br cb rb w (((((((((((((W.setCell ⟨cb, 0, none⟩ b0).setCell ⟨cb, 1, none⟩ b1).setCell ⟨cb, 2, none⟩ b2).setCell ⟨cb, 3, none⟩ b3).setCell ⟨cb, 4, none⟩ b4).setCell ⟨cb, 5, none⟩ b5).setCell ⟨cb, 6, none⟩ b6).setCell ⟨cb, 7, none⟩ b7).setCell ⟨cb, 8, none⟩ b8).setCell ⟨cb, 9, none⟩ b9).setCell ⟨cb, 10, none⟩ b10).setCell ⟨cb, 11, none⟩ b11).setCell ⟨cb, 12, none⟩ b12) ok t #[b0, b1, b2, b3, b4, b5, b6, b7, b8, b9, b10, b11, b12] v4 l4 v5 l5 v6 l6 := by
 replace h := h.put 0 b0 (cs' := #[b0, a1, a2, a3, a4, a5, a6, a7, a8, a9, a10, a11, a12]) rfl
 replace h := h.put 1 b1 (cs' := #[b0, b1, a2, a3, a4, a5, a6, a7, a8, a9, a10, a11, a12]) rfl
 replace h := h.put 2 b2 (cs' := #[b0, b1, b2, a3, a4, a5, a6, a7, a8, a9, a10, a11, a12]) rfl
 replace h := h.put 3 b3 (cs' := #[b0, b1, b2, b3, a4, a5, a6, a7, a8, a9, a10, a11, a12]) rfl
 replace h := h.put 4 b4 (cs' := #[b0, b1, b2, b3, b4, a5, a6, a7, a8, a9, a10, a11, a12]) rfl
 replace h := h.put 5 b5 (cs' := #[b0, b1, b2, b3, b4, b5, a6, a7, a8, a9, a10, a11, a12]) rfl
 replace h := h.put 6 b6 (cs' := #[b0, b1, b2, b3, b4, b5, b6, a7, a8, a9, a10, a11, a12]) rfl
 replace h := h.put 7 b7 (cs' := #[b0, b1, b2, b3, b4, b5, b6, b7, a8, a9, a10, a11, a12]) rfl
 replace h := h.put 8 b8 (cs' := #[b0, b1, b2, b3, b4, b5, b6, b7, b8, a9, a10, a11, a12]) rfl
 replace h := h.put 9 b9 (cs' := #[b0, b1, b2, b3, b4, b5, b6, b7, b8, b9, a10, a11, a12]) rfl
 replace h := h.put 10 b10 (cs' := #[b0, b1, b2, b3, b4, b5, b6, b7, b8, b9, b10, a11, a12]) rfl
 replace h := h.put 11 b11 (cs' := #[b0, b1, b2, b3, b4, b5, b6, b7, b8, b9, b10, b11, a12]) rfl
 replace h := h.put 12 b12 (cs' := #[b0, b1, b2, b3, b4, b5, b6, b7, b8, b9, b10, b11, b12]) rfl
 exact h
theorem cmd_Get.out13 {W : World} {g t : Nat} {a0 a1 a2 a3 a4 a5 a6 a7 a8 a9 a10 a11 a12 : Value} (h : W.heap[g]? = some (.cells #[a0, a1, a2, a3, a4, a5, a6, a7, a8, a9, a10, a11, a12] t (0, 0))) (b0 b1 b2 b3 b4 b5 b6 b7 b8 b9 b10 b11 b12 : Value) : (((((((((((((W.setCell ⟨g, 0, none⟩ b0).setCell ⟨g, 1, none⟩ b1).setCell ⟨g, 2, none⟩ b2).setCell ⟨g, 3, none⟩ b3).setCell ⟨g, 4, none⟩ b4).setCell ⟨g, 5, none⟩ b5).setCell ⟨g, 6, none⟩ b6).setCell ⟨g, 7, none⟩ b7).setCell ⟨g, 8, none⟩ b8).setCell ⟨g, 9, none⟩ b9).setCell ⟨g, 10, none⟩ b10).setCell ⟨g, 11, none⟩ b11).setCell ⟨g, 12, none⟩ b12).heap[g]? = some (.cells #[b0, b1, b2, b3, b4, b5, b6, b7, b8, b9, b10, b11, b12] t (0, 0)) := by
 replace h := blk_put (cs' := #[b0, a1, a2, a3, a4, a5, a6, a7, a8, a9, a10, a11, a12]) h 0 b0 rfl
 replace h := blk_put (cs' := #[b0, b1, a2, a3, a4, a5, a6, a7, a8, a9, a10, a11, a12]) h 1 b1 rfl
 replace h := blk_put (cs' := #[b0, b1, b2, a3, a4, a5, a6, a7, a8, a9, a10, a11, a12]) h 2 b2 rfl
 replace h := blk_put (cs' := #[b0, b1, b2, b3, a4, a5, a6, a7, a8, a9, a10, a11, a12]) h 3 b3 rfl
 replace h := blk_put (cs' := #[b0, b1, b2, b3, b4, a5, a6, a7, a8, a9, a10, a11, a12]) h 4 b4 rfl
 replace h := blk_put (cs' := #[b0, b1, b2, b3, b4, b5, a6, a7, a8, a9, a10, a11, a12]) h 5 b5 rfl
 replace h := blk_put (cs' := #[b0, b1, b2, b3, b4, b5, b6, a7, a8, a9, a10, a11, a12]) h 6 b6 rfl
 replace h := blk_put (cs' := #[b0, b1, b2, b3, b4, b5, b6, b7, a8, a9, a10, a11, a12]) h 7 b7 rfl
 replace h := blk_put (cs' := #[b0, b1, b2, b3, b4, b5, b6, b7, b8, a9, a10, a11, a12]) h 8 b8 rfl
 replace h := blk_put (cs' := #[b0, b1, b2, b3, b4, b5, b6, b7, b8, b9, a10, a11, a12]) h 9 b9 rfl
 replace h := blk_put (cs' := #[b0, b1, b2, b3, b4, b5, b6, b7, b8, b9, b10, a11, a12]) h 10 b10 rfl
 replace h := blk_put (cs' := #[b0, b1, b2, b3, b4, b5, b6, b7, b8, b9, b10, b11, a12]) h 11 b11 rfl
 replace h := blk_put (cs' := #[b0, b1, b2, b3, b4, b5, b6, b7, b8, b9, b10, b11, b12]) h 12 b12 rfl
 exact h
theorem cmd_Get.far13 {α : Type} {d : Kd α} {e base g tt : Nat} {W : World} {ok : Nat → Prop} {v : Value} {xs : List α} {cells : Array Value} (h : d.R e W base ok v xs) (hb : W.heap[g]? = some (.cells cells tt (0, 0))) (ht : ∀ q, q ∈ e :: d.E → q ≠ tt) (b0 b1 b2 b3 b4 b5 b6 b7 b8 b9 b10 b11 b12 : Value) : d.R e (((((((((((((W.setCell ⟨g, 0, none⟩ b0).setCell ⟨g, 1, none⟩ b1).setCell ⟨g, 2, none⟩ b2).setCell ⟨g, 3, none⟩ b3).setCell ⟨g, 4, none⟩ b4).setCell ⟨g, 5, none⟩ b5).setCell ⟨g, 6, none⟩ b6).setCell ⟨g, 7, none⟩ b7).setCell ⟨g, 8, none⟩ b8).setCell ⟨g, 9, none⟩ b9).setCell ⟨g, 10, none⟩ b10).setCell ⟨g, 11, none⟩ b11).setCell ⟨g, 12, none⟩ b12) base ok v xs := by
 replace h := Kd.R_types h hb ht
 replace h := Kd.R_far (p := ⟨g, 0, none⟩) h (fun _ hk => hk.2) b0
 replace h := Kd.R_far (p := ⟨g, 1, none⟩) h (fun _ hk => hk.2) b1
 replace h := Kd.R_far (p := ⟨g, 2, none⟩) h (fun _ hk => hk.2) b2
 replace h := Kd.R_far (p := ⟨g, 3, none⟩) h (fun _ hk => hk.2) b3
 replace h := Kd.R_far (p := ⟨g, 4, none⟩) h (fun _ hk => hk.2) b4
 replace h := Kd.R_far (p := ⟨g, 5, none⟩) h (fun _ hk => hk.2) b5
 replace h := Kd.R_far (p := ⟨g, 6, none⟩) h (fun _ hk => hk.2) b6
 replace h := Kd.R_far (p := ⟨g, 7, none⟩) h (fun _ hk => hk.2) b7
 replace h := Kd.R_far (p := ⟨g, 8, none⟩) h (fun _ hk => hk.2) b8
 replace h := Kd.R_far (p := ⟨g, 9, none⟩) h (fun _ hk => hk.2) b9
 replace h := Kd.R_far (p := ⟨g, 10, none⟩) h (fun _ hk => hk.2) b10
 replace h := Kd.R_far (p := ⟨g, 11, none⟩) h (fun _ hk => hk.2) b11
 replace h := Kd.R_far (p := ⟨g, 12, none⟩) h (fun _ hk => hk.2) b12
 exact Kd.R_mono h (fun _ hk => hk.1)
theorem cmd_Get.Cg.put3 {br cb rb gb : Nat} {w W : World} {a b c : Value} {t : ByteArray} {cs : Array Value} {v4 : Value} {l4 : List ByteArray} {v5 : Value} {l5 : List S50} {v6 : Value} {l6 : List S41} (h : cmd_Get.Cg br cb rb gb w W #[a, b, c] t cs v4 l4 v5 l5 v6 l6) (a' b' c' : Value) : cmd_Get.Cg br cb rb gb w (((W.setCell ⟨gb, 0, none⟩ a').setCell ⟨gb, 1, none⟩ b').setCell ⟨gb, 2, none⟩ c') #[a', b', c'] t cs v4 l4 v5 l5 v6 l6 :=
 ((h.put 0 a' (gs' := #[a', b, c]) rfl).put 1 b' (gs' := #[a', b', c]) rfl).put 2 c' rfl
def cmd_Get.RetC (B : Nat) (W : World) (c : cmd_Get.Cm) (v : Value) : Prop := ∃ v4 v5 v6 v12, v = .agg #[.int .i64 c.a0, .int .i64 c.a1, .int .i64 c.a2, .int .i64 c.a3, v4, v5, v6, .int .i64 c.a7, .int .i64 c.a8, .int .i64 c.a9, .string c.a10, .int .i64 c.a11, v12] ∧
 Kd.string.R 9 W B (fun _ => True) v4 c.l4 ∧ k50.R 50 W B (fun _ => True) v5 c.l5 ∧ k41.R 41 W B (fun _ => True) v6 c.l6 ∧ Kd.R (Kd.slice 45 k45) 42 W B (fun _ => True) v12 c.l12
set_option maxHeartbeats 32000000 in
set_option maxRecDepth 100000 in
theorem cmd_Get.command (t : ByteArray) (br : Nat) (w : World) (hb : cmd_Get.At br w t) (hz : t.size ≤ 1000000) (RES : Option (cmd_Get.Cm × ByteArray)) (h : cmd_Get.pCmd t = RES) :
  Calls Try.prog 33 #[.pointer (some ⟨br, 0, none⟩)] w fun e w' => cmd_Get.Ps br w (cmd_Get.RetC w.heap.size) RES e w' := by
 have hu27 := Try.underlying27
 have hu50 := Try.underlying50
 have hu41 := Try.underlying41
 have HB := Aside0.mk hb
 have HZ := Aside0.mk hz
 have HRES := Aside0.mk h
 clear hb hz h
 cases h1 : cmd_Get.pN t with
 | none =>
  have hR : RES = none := by rw [← HRES.out]; unfold cmd_Get.pCmd; rw [h1]; rfl
  have P1 := Aside0.mk h1
  clear h1
  subst hR
  go_enter Try.func33, Try.ntmps33
  go_wp2_with (first | (go_at_call 47; go_loud (refine (cmd_Get.num_n t br _ S0.out.at_ P1.out).mono ?_; rintro e w9 ⟨⟨u, pv, rfl⟩, hk⟩; have HK9 := Aside0.mk (S0.out.kq.trans hk); clear hk)) | ((with_reducible refine gate_dst (N := 2) rfl ?_); (try (refine gate_guard (by rfl) ?_; dsimp only)); go_loud (refine box_event ?hg (N := 2) ?hd (cs := #[.int .i64 0, .int .i64 0, .int .i64 0, .int .i64 0, .slice none 0 0, .slice none 0 0, .slice none 0 0, .int .i64 0, .int .i64 0, .int .i64 0, .string (⟨#[]⟩ : ByteArray), .int .i64 0, .slice none 0 0]) (t := 27) ?hr ?_; (case hd => rfl); (case hg => rfl); (case hr => first | (go_simp; done) | (go_simp; rfl)); intro rb hg wr0 hbox hb; have S0 := Aside0.mk (show cmd_Get.C0 br rb w wr0 t from ⟨HB.out.below hb, cmd_Get.Kq.below hb, hbox, by rw [hg]; exact Nat.le_refl _⟩); clear hbox hb hg)))
  exact ⟨rfl, ⟨_, _, rfl⟩, HK9.out⟩
 | some x1 =>
 obtain ⟨k0, t1⟩ := x1
 cases h2 : cmd_Get.pN t1 with
 | none =>
  have hR : RES = none := by rw [← HRES.out]; unfold cmd_Get.pCmd; rw [h1, Option.bind_some, h2]; rfl
  have P1 := Aside0.mk h1
  have P2 := Aside0.mk h2
  clear h1 h2
  subst hR
  go_enter Try.func33, Try.ntmps33
  go_wp2_with (first | (go_at_call 47; go_loud (refine (cmd_Get.num_n t1 br _ S1.out.at_ P2.out).mono ?_; rintro e w9 ⟨⟨u, pv, rfl⟩, hk⟩; have HK9 := Aside0.mk (S1.out.kq.trans hk); clear hk)) | (go_at_call 47; go_loud (refine (cmd_Get.num t br _ S0.out.at_ _ _ P1.out).mono ?_; rintro e wn1 ⟨rfl, ha, hk⟩; have S1 := Aside0.mk (S0.out.call ha hk); clear ha hk)) | ((with_reducible refine gate_dst (N := 2) rfl ?_); (try (refine gate_guard (by rfl) ?_; dsimp only)); go_loud (refine box_event ?hg (N := 2) ?hd (cs := #[.int .i64 0, .int .i64 0, .int .i64 0, .int .i64 0, .slice none 0 0, .slice none 0 0, .slice none 0 0, .int .i64 0, .int .i64 0, .int .i64 0, .string (⟨#[]⟩ : ByteArray), .int .i64 0, .slice none 0 0]) (t := 27) ?hr ?_; (case hd => rfl); (case hg => rfl); (case hr => first | (go_simp; done) | (go_simp; rfl)); intro rb hg wr0 hbox hb; have S0 := Aside0.mk (show cmd_Get.C0 br rb w wr0 t from ⟨HB.out.below hb, cmd_Get.Kq.below hb, hbox, by rw [hg]; exact Nat.le_refl _⟩); clear hbox hb hg)))
  exact ⟨rfl, ⟨_, _, rfl⟩, HK9.out⟩
 | some x2 =>
 obtain ⟨k1, t2⟩ := x2
 cases h3 : cmd_Get.pN t2 with
 | none =>
  have hR : RES = none := by rw [← HRES.out]; unfold cmd_Get.pCmd; rw [h1, Option.bind_some, h2, Option.bind_some, h3]; rfl
  have P1 := Aside0.mk h1
  have P2 := Aside0.mk h2
  have P3 := Aside0.mk h3
  clear h1 h2 h3
  subst hR
  go_enter Try.func33, Try.ntmps33
  go_wp2_with (first | (go_at_call 47; go_loud (refine (cmd_Get.num_n t2 br _ S2.out.at_ P3.out).mono ?_; rintro e w9 ⟨⟨u, pv, rfl⟩, hk⟩; have HK9 := Aside0.mk (S2.out.kq.trans hk); clear hk)) | (go_at_call 47; go_loud (refine (cmd_Get.num t1 br _ S1.out.at_ _ _ P2.out).mono ?_; rintro e wn2 ⟨rfl, ha, hk⟩; have S2 := Aside0.mk (S1.out.call ha hk); clear ha hk)) | (go_at_call 47; go_loud (refine (cmd_Get.num t br _ S0.out.at_ _ _ P1.out).mono ?_; rintro e wn1 ⟨rfl, ha, hk⟩; have S1 := Aside0.mk (S0.out.call ha hk); clear ha hk)) | ((with_reducible refine gate_dst (N := 2) rfl ?_); (try (refine gate_guard (by rfl) ?_; dsimp only)); go_loud (refine box_event ?hg (N := 2) ?hd (cs := #[.int .i64 0, .int .i64 0, .int .i64 0, .int .i64 0, .slice none 0 0, .slice none 0 0, .slice none 0 0, .int .i64 0, .int .i64 0, .int .i64 0, .string (⟨#[]⟩ : ByteArray), .int .i64 0, .slice none 0 0]) (t := 27) ?hr ?_; (case hd => rfl); (case hg => rfl); (case hr => first | (go_simp; done) | (go_simp; rfl)); intro rb hg wr0 hbox hb; have S0 := Aside0.mk (show cmd_Get.C0 br rb w wr0 t from ⟨HB.out.below hb, cmd_Get.Kq.below hb, hbox, by rw [hg]; exact Nat.le_refl _⟩); clear hbox hb hg)))
  exact ⟨rfl, ⟨_, _, rfl⟩, HK9.out⟩
 | some x3 =>
 obtain ⟨k2, t3⟩ := x3
 cases h4 : cmd_Get.pN t3 with
 | none =>
  have hR : RES = none := by rw [← HRES.out]; unfold cmd_Get.pCmd; rw [h1, Option.bind_some, h2, Option.bind_some, h3, Option.bind_some, h4]; rfl
  have P1 := Aside0.mk h1
  have P2 := Aside0.mk h2
  have P3 := Aside0.mk h3
  have P4 := Aside0.mk h4
  clear h1 h2 h3 h4
  subst hR
  go_enter Try.func33, Try.ntmps33
  go_wp2_with (first | (go_at_call 47; go_loud (refine (cmd_Get.num_n t3 br _ S3.out.at_ P4.out).mono ?_; rintro e w9 ⟨⟨u, pv, rfl⟩, hk⟩; have HK9 := Aside0.mk (S3.out.kq.trans hk); clear hk)) | (go_at_call 47; go_loud (refine (cmd_Get.num t2 br _ S2.out.at_ _ _ P3.out).mono ?_; rintro e wn3 ⟨rfl, ha, hk⟩; have S3 := Aside0.mk (S2.out.call ha hk); clear ha hk)) | (go_at_call 47; go_loud (refine (cmd_Get.num t1 br _ S1.out.at_ _ _ P2.out).mono ?_; rintro e wn2 ⟨rfl, ha, hk⟩; have S2 := Aside0.mk (S1.out.call ha hk); clear ha hk)) | (go_at_call 47; go_loud (refine (cmd_Get.num t br _ S0.out.at_ _ _ P1.out).mono ?_; rintro e wn1 ⟨rfl, ha, hk⟩; have S1 := Aside0.mk (S0.out.call ha hk); clear ha hk)) | ((with_reducible refine gate_dst (N := 2) rfl ?_); (try (refine gate_guard (by rfl) ?_; dsimp only)); go_loud (refine box_event ?hg (N := 2) ?hd (cs := #[.int .i64 0, .int .i64 0, .int .i64 0, .int .i64 0, .slice none 0 0, .slice none 0 0, .slice none 0 0, .int .i64 0, .int .i64 0, .int .i64 0, .string (⟨#[]⟩ : ByteArray), .int .i64 0, .slice none 0 0]) (t := 27) ?hr ?_; (case hd => rfl); (case hg => rfl); (case hr => first | (go_simp; done) | (go_simp; rfl)); intro rb hg wr0 hbox hb; have S0 := Aside0.mk (show cmd_Get.C0 br rb w wr0 t from ⟨HB.out.below hb, cmd_Get.Kq.below hb, hbox, by rw [hg]; exact Nat.le_refl _⟩); clear hbox hb hg)))
  exact ⟨rfl, ⟨_, _, rfl⟩, HK9.out⟩
 | some x4 =>
 obtain ⟨k3, t4⟩ := x4
 cases h5 : cmd_Get.pC t4 with
 | none =>
  have hR : RES = none := by rw [← HRES.out]; unfold cmd_Get.pCmd; rw [h1, Option.bind_some, h2, Option.bind_some, h3, Option.bind_some, h4, Option.bind_some, h5]; rfl
  have P1 := Aside0.mk h1
  have P2 := Aside0.mk h2
  have P3 := Aside0.mk h3
  have P4 := Aside0.mk h4
  have P5 := Aside0.mk h5
  clear h1 h2 h3 h4 h5
  subst hR
  go_enter Try.func33, Try.ntmps33
  go_wp2_with (first | (go_at_call 48; go_loud (refine (cmd_Get.count_n t4 br _ S6.out.at_ P5.out).mono ?_; rintro e w9 ⟨⟨u, pv, rfl⟩, hk⟩; have HK9 := Aside0.mk (S6.out.kq.trans hk); clear hk)) | ((with_reducible refine gate_dst (N := 3) rfl ?_); (try (refine gate_guard (by rfl) ?_; dsimp only)); go_loud (refine box_event ?hg (N := 3) ?hd (cs := #[.int .i64 0, .int .i64 0, .int .i64 0, .int .i64 0, .slice none 0 0, .slice none 0 0, .slice none 0 0, .int .i64 0, .int .i64 0, .int .i64 0, .string (⟨#[]⟩ : ByteArray), .int .i64 0, .slice none 0 0]) (t := 27) ?hr ?_; (case hd => rfl); (case hg => rfl); (case hr => first | (go_simp; done) | (go_simp; rfl)); intro cb hg wc hbox hb; have S5 := Aside0.mk (S4.out.box hg hbox hb); have S6 := Aside0.mk (S5.out.put13 (.int .i64 k0) (.int .i64 k1) (.int .i64 k2) (.int .i64 k3) (.slice none 0 0) (.slice none 0 0) (.slice none 0 0) (.int .i64 0) (.int .i64 0) (.int .i64 0) (.string (⟨#[]⟩ : ByteArray)) (.int .i64 0) (.slice none 0 0)); clear hbox hb hg; have c0_wc : wc.cell? ⟨cb, 0, none⟩ = some (.int .i64 0) := (blk_cell S5.out.blk 0).trans rfl; have f0_wc := blk_frozen S5.out.blk 0; have c1_wc : wc.cell? ⟨cb, 1, none⟩ = some (.int .i64 0) := (blk_cell S5.out.blk 1).trans rfl; have f1_wc := blk_frozen S5.out.blk 1; have c2_wc : wc.cell? ⟨cb, 2, none⟩ = some (.int .i64 0) := (blk_cell S5.out.blk 2).trans rfl; have f2_wc := blk_frozen S5.out.blk 2; have c3_wc : wc.cell? ⟨cb, 3, none⟩ = some (.int .i64 0) := (blk_cell S5.out.blk 3).trans rfl; have f3_wc := blk_frozen S5.out.blk 3; have c4_wc : wc.cell? ⟨cb, 4, none⟩ = some (.slice none 0 0) := (blk_cell S5.out.blk 4).trans rfl; have f4_wc := blk_frozen S5.out.blk 4; have c5_wc : wc.cell? ⟨cb, 5, none⟩ = some (.slice none 0 0) := (blk_cell S5.out.blk 5).trans rfl; have f5_wc := blk_frozen S5.out.blk 5; have c6_wc : wc.cell? ⟨cb, 6, none⟩ = some (.slice none 0 0) := (blk_cell S5.out.blk 6).trans rfl; have f6_wc := blk_frozen S5.out.blk 6; have c7_wc : wc.cell? ⟨cb, 7, none⟩ = some (.int .i64 0) := (blk_cell S5.out.blk 7).trans rfl; have f7_wc := blk_frozen S5.out.blk 7; have c8_wc : wc.cell? ⟨cb, 8, none⟩ = some (.int .i64 0) := (blk_cell S5.out.blk 8).trans rfl; have f8_wc := blk_frozen S5.out.blk 8; have c9_wc : wc.cell? ⟨cb, 9, none⟩ = some (.int .i64 0) := (blk_cell S5.out.blk 9).trans rfl; have f9_wc := blk_frozen S5.out.blk 9; have c10_wc : wc.cell? ⟨cb, 10, none⟩ = some (.string (⟨#[]⟩ : ByteArray)) := (blk_cell S5.out.blk 10).trans rfl; have f10_wc := blk_frozen S5.out.blk 10; have c11_wc : wc.cell? ⟨cb, 11, none⟩ = some (.int .i64 0) := (blk_cell S5.out.blk 11).trans rfl; have f11_wc := blk_frozen S5.out.blk 11; have c12_wc : wc.cell? ⟨cb, 12, none⟩ = some (.slice none 0 0) := (blk_cell S5.out.blk 12).trans rfl; have f12_wc := blk_frozen S5.out.blk 12)) | (go_at_call 47; go_loud (refine (cmd_Get.num t3 br _ S3.out.at_ _ _ P4.out).mono ?_; rintro e wn4 ⟨rfl, ha, hk⟩; have S4 := Aside0.mk (S3.out.call ha hk); clear ha hk)) | (go_at_call 47; go_loud (refine (cmd_Get.num t2 br _ S2.out.at_ _ _ P3.out).mono ?_; rintro e wn3 ⟨rfl, ha, hk⟩; have S3 := Aside0.mk (S2.out.call ha hk); clear ha hk)) | (go_at_call 47; go_loud (refine (cmd_Get.num t1 br _ S1.out.at_ _ _ P2.out).mono ?_; rintro e wn2 ⟨rfl, ha, hk⟩; have S2 := Aside0.mk (S1.out.call ha hk); clear ha hk)) | (go_at_call 47; go_loud (refine (cmd_Get.num t br _ S0.out.at_ _ _ P1.out).mono ?_; rintro e wn1 ⟨rfl, ha, hk⟩; have S1 := Aside0.mk (S0.out.call ha hk); clear ha hk)) | ((with_reducible refine gate_dst (N := 2) rfl ?_); (try (refine gate_guard (by rfl) ?_; dsimp only)); go_loud (refine box_event ?hg (N := 2) ?hd (cs := #[.int .i64 0, .int .i64 0, .int .i64 0, .int .i64 0, .slice none 0 0, .slice none 0 0, .slice none 0 0, .int .i64 0, .int .i64 0, .int .i64 0, .string (⟨#[]⟩ : ByteArray), .int .i64 0, .slice none 0 0]) (t := 27) ?hr ?_; (case hd => rfl); (case hg => rfl); (case hr => first | (go_simp; done) | (go_simp; rfl)); intro rb hg wr0 hbox hb; have S0 := Aside0.mk (show cmd_Get.C0 br rb w wr0 t from ⟨HB.out.below hb, cmd_Get.Kq.below hb, hbox, by rw [hg]; exact Nat.le_refl _⟩); clear hbox hb hg)))
  exact ⟨rfl, ⟨_, _, rfl⟩, HK9.out⟩
 | some x5 =>
 obtain ⟨m4, t5⟩ := x5
 have HG4 := Aside0.mk (show cmd_Get.gL cmd_Get.pT (cmd_Get.K4 k0 k1 k2 k3) m4.toNat [] t5 = RES by rw [← HRES.out]; unfold cmd_Get.pCmd; rw [h1, Option.bind_some, h2, Option.bind_some, h3, Option.bind_some, h4, Option.bind_some, h5]; rfl)
 have HN4 := Aside0.mk (show 0 ≤ m4 ∧ m4 ≤ 1000000 ∧ t5.size ≤ 1000000 by have e1 := cmd_Get.pN_size h1; have e2 := cmd_Get.pN_size h2; have e3 := cmd_Get.pN_size h3; have e4 := cmd_Get.pN_size h4; have e5 := cmd_Get.pC_size h5; have e6 := cmd_Get.pC_in h5; have := HZ.out; omega)
 have P1 := Aside0.mk h1
 have P2 := Aside0.mk h2
 have P3 := Aside0.mk h3
 have P4 := Aside0.mk h4
 have P5 := Aside0.mk h5
 clear h1 h2 h3 h4 h5
 go_enter Try.func33, Try.ntmps33
 go_wp2_with (first | (go_at_call 48; go_loud (refine (cmd_Get.count t4 br _ S6.out.at_ _ _ P5.out).mono ?_; rintro e wn5 ⟨rfl, ha, hk⟩; have S7 := Aside0.mk (S6.out.call ha hk); clear ha hk)) | ((with_reducible refine gate_dst (N := 3) rfl ?_); (try (refine gate_guard (by rfl) ?_; dsimp only)); go_loud (refine box_event ?hg (N := 3) ?hd (cs := #[.int .i64 0, .int .i64 0, .int .i64 0, .int .i64 0, .slice none 0 0, .slice none 0 0, .slice none 0 0, .int .i64 0, .int .i64 0, .int .i64 0, .string (⟨#[]⟩ : ByteArray), .int .i64 0, .slice none 0 0]) (t := 27) ?hr ?_; (case hd => rfl); (case hg => rfl); (case hr => first | (go_simp; done) | (go_simp; rfl)); intro cb hg wc hbox hb; have S5 := Aside0.mk (S4.out.box hg hbox hb); have S6 := Aside0.mk (S5.out.put13 (.int .i64 k0) (.int .i64 k1) (.int .i64 k2) (.int .i64 k3) (.slice none 0 0) (.slice none 0 0) (.slice none 0 0) (.int .i64 0) (.int .i64 0) (.int .i64 0) (.string (⟨#[]⟩ : ByteArray)) (.int .i64 0) (.slice none 0 0)); clear hbox hb hg; have c0_wc : wc.cell? ⟨cb, 0, none⟩ = some (.int .i64 0) := (blk_cell S5.out.blk 0).trans rfl; have f0_wc := blk_frozen S5.out.blk 0; have c1_wc : wc.cell? ⟨cb, 1, none⟩ = some (.int .i64 0) := (blk_cell S5.out.blk 1).trans rfl; have f1_wc := blk_frozen S5.out.blk 1; have c2_wc : wc.cell? ⟨cb, 2, none⟩ = some (.int .i64 0) := (blk_cell S5.out.blk 2).trans rfl; have f2_wc := blk_frozen S5.out.blk 2; have c3_wc : wc.cell? ⟨cb, 3, none⟩ = some (.int .i64 0) := (blk_cell S5.out.blk 3).trans rfl; have f3_wc := blk_frozen S5.out.blk 3; have c4_wc : wc.cell? ⟨cb, 4, none⟩ = some (.slice none 0 0) := (blk_cell S5.out.blk 4).trans rfl; have f4_wc := blk_frozen S5.out.blk 4; have c5_wc : wc.cell? ⟨cb, 5, none⟩ = some (.slice none 0 0) := (blk_cell S5.out.blk 5).trans rfl; have f5_wc := blk_frozen S5.out.blk 5; have c6_wc : wc.cell? ⟨cb, 6, none⟩ = some (.slice none 0 0) := (blk_cell S5.out.blk 6).trans rfl; have f6_wc := blk_frozen S5.out.blk 6; have c7_wc : wc.cell? ⟨cb, 7, none⟩ = some (.int .i64 0) := (blk_cell S5.out.blk 7).trans rfl; have f7_wc := blk_frozen S5.out.blk 7; have c8_wc : wc.cell? ⟨cb, 8, none⟩ = some (.int .i64 0) := (blk_cell S5.out.blk 8).trans rfl; have f8_wc := blk_frozen S5.out.blk 8; have c9_wc : wc.cell? ⟨cb, 9, none⟩ = some (.int .i64 0) := (blk_cell S5.out.blk 9).trans rfl; have f9_wc := blk_frozen S5.out.blk 9; have c10_wc : wc.cell? ⟨cb, 10, none⟩ = some (.string (⟨#[]⟩ : ByteArray)) := (blk_cell S5.out.blk 10).trans rfl; have f10_wc := blk_frozen S5.out.blk 10; have c11_wc : wc.cell? ⟨cb, 11, none⟩ = some (.int .i64 0) := (blk_cell S5.out.blk 11).trans rfl; have f11_wc := blk_frozen S5.out.blk 11; have c12_wc : wc.cell? ⟨cb, 12, none⟩ = some (.slice none 0 0) := (blk_cell S5.out.blk 12).trans rfl; have f12_wc := blk_frozen S5.out.blk 12)) | (go_at_call 47; go_loud (refine (cmd_Get.num t3 br _ S3.out.at_ _ _ P4.out).mono ?_; rintro e wn4 ⟨rfl, ha, hk⟩; have S4 := Aside0.mk (S3.out.call ha hk); clear ha hk)) | (go_at_call 47; go_loud (refine (cmd_Get.num t2 br _ S2.out.at_ _ _ P3.out).mono ?_; rintro e wn3 ⟨rfl, ha, hk⟩; have S3 := Aside0.mk (S2.out.call ha hk); clear ha hk)) | (go_at_call 47; go_loud (refine (cmd_Get.num t1 br _ S1.out.at_ _ _ P2.out).mono ?_; rintro e wn2 ⟨rfl, ha, hk⟩; have S2 := Aside0.mk (S1.out.call ha hk); clear ha hk)) | (go_at_call 47; go_loud (refine (cmd_Get.num t br _ S0.out.at_ _ _ P1.out).mono ?_; rintro e wn1 ⟨rfl, ha, hk⟩; have S1 := Aside0.mk (S0.out.call ha hk); clear ha hk)) | ((with_reducible refine gate_dst (N := 2) rfl ?_); (try (refine gate_guard (by rfl) ?_; dsimp only)); go_loud (refine box_event ?hg (N := 2) ?hd (cs := #[.int .i64 0, .int .i64 0, .int .i64 0, .int .i64 0, .slice none 0 0, .slice none 0 0, .slice none 0 0, .int .i64 0, .int .i64 0, .int .i64 0, .string (⟨#[]⟩ : ByteArray), .int .i64 0, .slice none 0 0]) (t := 27) ?hr ?_; (case hd => rfl); (case hg => rfl); (case hr => first | (go_simp; done) | (go_simp; rfl)); intro rb hg wr0 hbox hb; have S0 := Aside0.mk (show cmd_Get.C0 br rb w wr0 t from ⟨HB.out.below hb, cmd_Get.Kq.below hb, hbox, by rw [hg]; exact Nat.le_refl _⟩); clear hbox hb hg)))
 go_loopw [4] (fun vn wr => ∃ (n : Int) (l4 : List ByteArray) (u : ByteArray) (A4 : Option Addr) (q4 c4 : Nat), vn = .int .i64 n ∧ Aside0 (0 ≤ n ∧ n ≤ 1000000 ∧ l4.length + u.size ≤ 1000000) ∧ Aside0 (cmd_Get.gL cmd_Get.pT (cmd_Get.K4 k0 k1 k2 k3) n.toNat l4 u = RES) ∧ Aside0 (cmd_Get.Cs br cb rb w wr (fun _ => True) u #[.int .i64 k0, .int .i64 k1, .int .i64 k2, .int .i64 k3, .slice A4 q4 c4, .slice none 0 0, .slice none 0 0, .int .i64 0, .int .i64 0, .int .i64 0, .string (⟨#[]⟩ : ByteArray), .int .i64 0, .slice none 0 0] (.slice A4 q4 c4) l4 (.slice none 0 0) [] (.slice none 0 0) [])) (fun v _ => (intOf v).toNat)
 case atStart => exact ⟨m4, [], t5, none, 0, 0, rfl, ⟨by have := HN4.out; simp only [List.length_nil]; omega⟩, HG4, S7⟩
 case round =>
  obtain ⟨n, l4, u, A4, q4, c4, rfl, HN, HG, HS⟩ := hrel
  by_cases hn : 0 < n
  ·have q1 : decide (n > 0) = true := decide_eq_true hn
   have q2 : decide (0 < n) = true := q1
   obtain ⟨s0, hs0⟩ : ∃ s, wrap64 (n - 1) = s := ⟨_, rfl⟩
   have T0 := Aside0.mk (cmd_Get.back1 hs0 hn HN.out.2.1)
   have HGS := Aside0.mk (show ((cmd_Get.pT u).bind fun x => cmd_Get.gL cmd_Get.pT (cmd_Get.K4 k0 k1 k2 k3) s0.toNat (l4 ++ [x.1]) x.2) = RES by rw [← HG.out, T0.out.2.2]; rfl)
   have HL := Aside0.mk (show (l4.length + 1) * 16 ≤ 140737488355328 by have := HN.out; clear hs0; omega)
   have c4_wr : wr.cell? ⟨cb, 4, none⟩ = some (.slice A4 q4 c4) := (blk_cell HS.out.blk 4).trans rfl
   have f4_wr := blk_frozen HS.out.blk 4
   have HSD := Aside0.mk (show cmd_Get.Cs br cb rb w wr.drew (fun _ => True) u #[.int .i64 k0, .int .i64 k1, .int .i64 k2, .int .i64 k3, .slice A4 q4 c4, .slice none 0 0, .slice none 0 0, .int .i64 0, .int .i64 0, .int .i64 0, .string (⟨#[]⟩ : ByteArray), .int .i64 0, .slice none 0 0] (.slice A4 q4 c4) l4 (.slice none 0 0) [] (.slice none 0 0) [] from HS.out.call HS.out.at_ (cmd_Get.Kq.drew br wr))
   clear hn
   cases h1 : cmd_Get.pT u with
   | none =>
    have hR : RES = none := by rw [← HGS.out]; rw [h1]; rfl
    have P1 := Aside0.mk h1
    clear h1
    subst hR
    go_wp2
    refine wp_region_any (by kernel_rfl) ?_
    try (change wpAny _ _ _ _ _ _ _ (World.drew _))
    refine wpAny_take (i := 0) (v := ?_) rfl (by kernel_rfl) (by kernel_rfl) (by kernel_rfl) (fun _ _ _ h => h) (Or.inl ⟨by rfl, ?_⟩) ?_
    rotate_left
    ·intro w; first | (go_simp; done) | (go_simp; with_reducible rfl)
    refine wpAny_take (i := 2) (v := ?_) rfl (by kernel_rfl) (by kernel_rfl) (by kernel_rfl) (fun _ _ _ h => h) (Or.inl ⟨by rfl, ?_⟩) ?_
    rotate_left
    ·intro w; first | (go_simp; done) | (go_simp; with_reducible rfl)
    refine wpAny_ready (rs := [1, 3]) (by kernel_rfl) (by simp) ?_
    refine AllReady.cons rfl (fun K hK => ?_) (AllReady.cons rfl (fun K hK => ?_) (AllReady.nil))
    focus
     go_simp
     refine hK _ _ ?_
     clear hK K
     refine wpAny_ready (rs := [3]) (by kernel_rfl) (by simp) ?_
     refine AllReady.cons rfl (fun K hK => ?_) (AllReady.nil)
     go_simp
     go_at_call 49
     refine (cmd_Get.text_n u br wr.drew HSD.out.at_ P1.out).mono ?_
     rintro e w9 ⟨⟨uu, pv, rfl⟩, hk⟩
     exact ⟨rfl, ⟨_, _, rfl⟩, HSD.out.kq.trans hk⟩
    focus
     go_simp
     go_at_call 49
     refine (cmd_Get.text_n u br wr.drew HSD.out.at_ P1.out).mono ?_
     rintro e w9 ⟨⟨uu, pv, rfl⟩, hk⟩
     exact ⟨rfl, ⟨_, _, rfl⟩, HSD.out.kq.trans hk⟩
   | some x1 =>
   obtain ⟨s, u1⟩ := x1
   have HGE := Aside0.mk (show cmd_Get.gL cmd_Get.pT (cmd_Get.K4 k0 k1 k2 k3) s0.toNat (l4 ++ [s]) u1 = RES by rw [← HGS.out, h1]; rfl)
   have HZ7 := Aside0.mk (cmd_Get.pT_size h1)
   have P1 := Aside0.mk h1
   clear h1
   go_wp2
   refine wp_region_any (by kernel_rfl) ?_
   try (change wpAny _ _ _ _ _ _ _ (World.drew _))
   refine wpAny_take (i := 0) (v := ?_) rfl (by kernel_rfl) (by kernel_rfl) (by kernel_rfl) (fun _ _ _ h => h) (Or.inl ⟨by rfl, ?_⟩) ?_
   rotate_left
   ·intro w; first | (go_simp; done) | (go_simp; with_reducible rfl)
   refine wpAny_take (i := 2) (v := ?_) rfl (by kernel_rfl) (by kernel_rfl) (by kernel_rfl) (fun _ _ _ h => h) (Or.inl ⟨by rfl, ?_⟩) ?_
   rotate_left
   ·intro w; first | (go_simp; done) | (go_simp; with_reducible rfl)
   refine wpAny_ready (rs := [1, 3]) (by kernel_rfl) (by simp) ?_
   refine AllReady.cons rfl (fun K hK => ?_) (AllReady.cons rfl (fun K hK => ?_) (AllReady.nil))
   focus
    go_simp
    refine hK _ _ ?_
    clear hK K
    refine wpAny_ready (rs := [3]) (by kernel_rfl) (by simp) ?_
    refine AllReady.cons rfl (fun K hK => ?_) (AllReady.nil)
    go_simp
    go_at_call 49
    refine (cmd_Get.text u br wr.drew HSD.out.at_ _ _ P1.out).mono ?_
    rintro e w1 ⟨rfl, ha, hk⟩
    dsimp only
    refine hK _ _ ?_
    clear hK K
    have HS1 := Aside0.mk (HSD.out.call ha hk)
    have y1 : w1.cell? ⟨cb, 4, none⟩ = some (.slice A4 q4 c4) := (blk_cell HS1.out.blk 4).trans rfl
    have y2 : (w1.alloc (.cells #[.string s] 9)).cell? ⟨cb, 4, none⟩ = some (.slice A4 q4 c4) := (blk_cell (yA HS1.out.blk _) 4).trans rfl
    clear ha hk
    refine wpAny_ready (rs := [4]) (by kernel_rfl) (by simp) ?_
    refine AllReady.cons rfl (fun K hK => ?_) (AllReady.nil)
    go_simp
    refine hK _ _ ?_
    clear hK K
    refine wpAny_ready (rs := [5]) (by kernel_rfl) (by simp) ?_
    refine AllReady.cons rfl (fun K hK => ?_) (AllReady.nil)
    refine Kd.R_append_step Kd.string (w0 := w1) w.heap.size rfl (.tmp 25) (.tmp 28) 22 9 (.string ⟨#[]⟩) 16 rfl Try.underlying22 cmd_Get.infT rfl (by decide) (by decide) (.slice A4 q4 c4) l4 s [.string s] (fun _ => True) (fun _ => False) (by first | rfl | (go_simp; done)) (by first | rfl | (go_simp; done)) rfl (fun _ hk => hk.elim) (fun _ _ => trivial) HS1.out.r4 (Below.refl _ _) HS1.out.kq.size HL.out ?_
    intro v2 w2 ho hb hg hat
    obtain ⟨A2, m2, c2, rfl⟩ : ∃ A m c, v2 = .slice A m c := (by obtain ⟨A, c, h⟩ := Kd.R_slice ho; exact ⟨A, _, c, h⟩)
    refine hK _ _ ?_
    clear hK K
    have HS2 := Aside0.mk (HS1.out.app4 ho hg)
    have z0 : w2.cell? ⟨cb, 4, none⟩ = some (.slice A4 q4 c4) := (blk_cell HS2.out.blk 4).trans rfl
    have z1 := blk_frozen HS2.out.blk 4
    clear ho hb hg hat
    refine wpAny_take (i := 6) (v := ?_) rfl (by kernel_rfl) (by kernel_rfl) (by kernel_rfl) (fun _ _ _ h => h) (Or.inl ⟨by rfl, ?_⟩) ?_
    rotate_left
    ·intro w; first | (go_simp; done) | (go_simp; with_reducible rfl)
    refine wpAny_ready (rs := [7]) (by kernel_rfl) (by simp) ?_
    refine AllReady.cons rfl (fun K hK => ?_) (AllReady.nil)
    go_simp
    refine hK _ _ ?_
    clear hK K
    refine wpAny_done (by kernel_rfl) ?_ _
   rotate_left 1
   focus
    go_simp
    go_at_call 49
    refine (cmd_Get.text u br wr.drew HSD.out.at_ _ _ P1.out).mono ?_
    rintro e w1 ⟨rfl, ha, hk⟩
    dsimp only
    refine hK _ _ ?_
    clear hK K
    have HS1 := Aside0.mk (HSD.out.call ha hk)
    have y1 : w1.cell? ⟨cb, 4, none⟩ = some (.slice A4 q4 c4) := (blk_cell HS1.out.blk 4).trans rfl
    have y2 : (w1.alloc (.cells #[.string s] 9)).cell? ⟨cb, 4, none⟩ = some (.slice A4 q4 c4) := (blk_cell (yA HS1.out.blk _) 4).trans rfl
    clear ha hk
    refine wpAny_ready (rs := [1, 4]) (by kernel_rfl) (by simp) ?_
    refine AllReady.cons rfl (fun K hK => ?_) (AllReady.cons rfl (fun K hK => ?_) (AllReady.nil))
    focus
     go_simp
     refine hK _ _ ?_
     clear hK K
     refine wpAny_ready (rs := [4]) (by kernel_rfl) (by simp) ?_
     refine AllReady.cons rfl (fun K hK => ?_) (AllReady.nil)
     go_simp
     refine hK _ _ ?_
     clear hK K
     refine wpAny_ready (rs := [5]) (by kernel_rfl) (by simp) ?_
     refine AllReady.cons rfl (fun K hK => ?_) (AllReady.nil)
     refine Kd.R_append_step Kd.string (w0 := w1) w.heap.size rfl (.tmp 25) (.tmp 28) 22 9 (.string ⟨#[]⟩) 16 rfl Try.underlying22 cmd_Get.infT rfl (by decide) (by decide) (.slice A4 q4 c4) l4 s [.string s] (fun _ => True) (fun _ => False) (by first | rfl | (go_simp; done)) (by first | rfl | (go_simp; done)) rfl (fun _ hk => hk.elim) (fun _ _ => trivial) HS1.out.r4 (Below.refl _ _) HS1.out.kq.size HL.out ?_
     intro v2 w2 ho hb hg hat
     obtain ⟨A2, m2, c2, rfl⟩ : ∃ A m c, v2 = .slice A m c := (by obtain ⟨A, c, h⟩ := Kd.R_slice ho; exact ⟨A, _, c, h⟩)
     refine hK _ _ ?_
     clear hK K
     have HS2 := Aside0.mk (HS1.out.app4 ho hg)
     have z0 : w2.cell? ⟨cb, 4, none⟩ = some (.slice A4 q4 c4) := (blk_cell HS2.out.blk 4).trans rfl
     have z1 := blk_frozen HS2.out.blk 4
     clear ho hb hg hat
     refine wpAny_take (i := 6) (v := ?_) rfl (by kernel_rfl) (by kernel_rfl) (by kernel_rfl) (fun _ _ _ h => h) (Or.inl ⟨by rfl, ?_⟩) ?_
     rotate_left
     ·intro w; first | (go_simp; done) | (go_simp; with_reducible rfl)
     refine wpAny_ready (rs := [7]) (by kernel_rfl) (by simp) ?_
     refine AllReady.cons rfl (fun K hK => ?_) (AllReady.nil)
     go_simp
     refine hK _ _ ?_
     clear hK K
     refine wpAny_done (by kernel_rfl) ?_ _
    rotate_left 1
    focus
     go_simp
     refine hK _ _ ?_
     clear hK K
     refine wpAny_ready (rs := [1]) (by kernel_rfl) (by simp) ?_
     refine AllReady.cons rfl (fun K hK => ?_) (AllReady.nil)
     go_simp
     refine hK _ _ ?_
     clear hK K
     refine wpAny_ready (rs := [5]) (by kernel_rfl) (by simp) ?_
     refine AllReady.cons rfl (fun K hK => ?_) (AllReady.nil)
     refine Kd.R_append_step Kd.string (w0 := w1) w.heap.size rfl (.tmp 25) (.tmp 28) 22 9 (.string ⟨#[]⟩) 16 rfl Try.underlying22 cmd_Get.infT rfl (by decide) (by decide) (.slice A4 q4 c4) l4 s [.string s] (fun _ => True) (fun _ => False) (by first | rfl | (go_simp; done)) (by first | rfl | (go_simp; done)) rfl (fun _ hk => hk.elim) (fun _ _ => trivial) HS1.out.r4 (Below.refl _ _) HS1.out.kq.size HL.out ?_
     intro v2 w2 ho hb hg hat
     obtain ⟨A2, m2, c2, rfl⟩ : ∃ A m c, v2 = .slice A m c := (by obtain ⟨A, c, h⟩ := Kd.R_slice ho; exact ⟨A, _, c, h⟩)
     refine hK _ _ ?_
     clear hK K
     have HS2 := Aside0.mk (HS1.out.app4 ho hg)
     have z0 : w2.cell? ⟨cb, 4, none⟩ = some (.slice A4 q4 c4) := (blk_cell HS2.out.blk 4).trans rfl
     have z1 := blk_frozen HS2.out.blk 4
     clear ho hb hg hat
     refine wpAny_take (i := 6) (v := ?_) rfl (by kernel_rfl) (by kernel_rfl) (by kernel_rfl) (fun _ _ _ h => h) (Or.inl ⟨by rfl, ?_⟩) ?_
     rotate_left
     ·intro w; first | (go_simp; done) | (go_simp; with_reducible rfl)
     refine wpAny_ready (rs := [7]) (by kernel_rfl) (by simp) ?_
     refine AllReady.cons rfl (fun K hK => ?_) (AllReady.nil)
     go_simp
     refine hK _ _ ?_
     clear hK K
     refine wpAny_done (by kernel_rfl) ?_ _
   all_goals
    have HS3 := Aside0.mk (HS2.out.put 4 (.slice A2 m2 c2) rfl)
    go_wp2
    go_roundw
    case rel => exact ⟨s0, _, u1, _, _, _, by rw [hs0], ⟨by have := T0.out; have := HN.out; have := HZ7.out; clear hs0; simp only [List.length_append, List.length_singleton]; omega⟩, HGE, HS3⟩
    case measure => rw [hs0]; have := T0.out; clear hs0; show s0.toNat < n.toNat; omega
  ·have q1 : decide (n > 0) = false := decide_eq_false hn
   have q2 : decide (0 < n) = false := q1
   have HE := Aside0.mk (show cmd_Get.K4 k0 k1 k2 k3 l4 u = RES by have h1 := HG.out; rw [show n.toNat = 0 by omega] at h1; exact h1)
   clear hn
   cases h1 : cmd_Get.pC u with
   | none =>
    have hR : RES = none := by rw [← HE.out]; unfold cmd_Get.K4; rw [h1]; rfl
    have P1 := Aside0.mk h1
    clear h1
    subst hR
    go_wp2_with (first | (go_at_call 48; go_loud (refine (cmd_Get.count_n u br _ HS.out.at_ P1.out).mono ?_; rintro e w9 ⟨⟨u, pv, rfl⟩, hk⟩; have HK9 := Aside0.mk (HS.out.kq.trans hk); clear hk)))
    exact ⟨rfl, ⟨_, _, rfl⟩, HK9.out⟩
   | some x1 =>
   obtain ⟨m5, t6⟩ := x1
   have HG5 := Aside0.mk (show cmd_Get.gL cmd_Get.pRng (cmd_Get.K5 k0 k1 k2 k3 l4) m5.toNat [] t6 = RES by rw [← HE.out]; unfold cmd_Get.K4; rw [h1]; rfl)
   have HN5 := Aside0.mk (show 0 ≤ m5 ∧ m5 ≤ 1000000 ∧ t6.size ≤ 1000000 by have e5 := cmd_Get.pC_size h1; have e6 := cmd_Get.pC_in h1; have := HN.out; omega)
   have P1 := Aside0.mk h1
   clear h1
   go_wp2_with (first | (go_at_call 48; go_loud (refine (cmd_Get.count u br _ HS.out.at_ _ _ P1.out).mono ?_; rintro e wn6 ⟨rfl, ha, hk⟩; have S8 := Aside0.mk (HS.out.call ha hk); clear ha hk)))
   clear q1 q2
   go_loopw [5] (fun vn wr => ∃ (n : Int) (l5 : List S50) (u : ByteArray) (A5 : Option Addr) (q5 c5 : Nat), vn = .int .i64 n ∧ Aside0 (0 ≤ n ∧ n ≤ 1000000 ∧ l5.length + u.size ≤ 1000000) ∧ Aside0 (cmd_Get.gL cmd_Get.pRng (cmd_Get.K5 k0 k1 k2 k3 l4) n.toNat l5 u = RES) ∧ Aside0 (cmd_Get.Cs br cb rb w wr (fun _ => True) u #[.int .i64 k0, .int .i64 k1, .int .i64 k2, .int .i64 k3, .slice A4 q4 c4, .slice A5 q5 c5, .slice none 0 0, .int .i64 0, .int .i64 0, .int .i64 0, .string (⟨#[]⟩ : ByteArray), .int .i64 0, .slice none 0 0] (.slice A4 q4 c4) l4 (.slice A5 q5 c5) l5 (.slice none 0 0) [])) (fun v _ => (intOf v).toNat)
   case atStart => exact ⟨m5, [], t6, none, 0, 0, rfl, ⟨by have := HN5.out; simp only [List.length_nil]; omega⟩, HG5, S8⟩
   case round =>
    obtain ⟨n, l5, u, A5, q5, c5, rfl, HN, HG, HS⟩ := hrel
    by_cases hn : 0 < n
    ·have q1 : decide (n > 0) = true := decide_eq_true hn
     have q2 : decide (0 < n) = true := q1
     obtain ⟨s0, hs0⟩ : ∃ s, wrap64 (n - 1) = s := ⟨_, rfl⟩
     have T0 := Aside0.mk (cmd_Get.back1 hs0 hn HN.out.2.1)
     have HGS := Aside0.mk (show ((cmd_Get.pRng u).bind fun x => cmd_Get.gL cmd_Get.pRng (cmd_Get.K5 k0 k1 k2 k3 l4) s0.toNat (l5 ++ [x.1]) x.2) = RES by rw [← HG.out, T0.out.2.2]; rfl)
     have HL := Aside0.mk (show (l5.length + 1) * 32 ≤ 140737488355328 by have := HN.out; clear hs0; omega)
     clear hn
     cases h1 : cmd_Get.pT u with
     | none =>
      have hR : RES = none := by rw [← HGS.out]; unfold cmd_Get.pRng; rw [h1]; rfl
      have P1 := Aside0.mk h1
      clear h1
      subst hR
      go_wp2_with (first | (go_at_call 49; go_loud (refine (cmd_Get.text_n u br _ HS.out.at_ P1.out).mono ?_; rintro e w9 ⟨⟨u, pv, rfl⟩, hk⟩; have HK9 := Aside0.mk (HS.out.kq.trans hk); clear hk)))
      exact ⟨rfl, ⟨_, _, rfl⟩, HK9.out⟩
     | some x1 =>
     obtain ⟨s, u1⟩ := x1
     cases h2 : cmd_Get.pT u1 with
     | none =>
      have hR : RES = none := by rw [← HGS.out]; unfold cmd_Get.pRng; rw [h1, Option.bind_some, h2]; rfl
      have P1 := Aside0.mk h1
      have P2 := Aside0.mk h2
      clear h1 h2
      subst hR
      go_wp2_with (first | (go_at_call 49; go_loud (refine (cmd_Get.text u br _ HS.out.at_ _ _ P1.out).mono ?_; rintro e wt ⟨rfl, ha, hk⟩; have HSt := Aside0.mk (HS.out.call ha hk); clear ha hk; have c5_wt : wt.cell? ⟨cb, 5, none⟩ = some (.slice A5 q5 c5) := (blk_cell HSt.out.blk 5).trans rfl; have f5_wt := blk_frozen HSt.out.blk 5; have HSD := Aside0.mk (show cmd_Get.Cs br cb rb w wt.drew (fun _ => True) u1 #[.int .i64 k0, .int .i64 k1, .int .i64 k2, .int .i64 k3, .slice A4 q4 c4, .slice A5 q5 c5, .slice none 0 0, .int .i64 0, .int .i64 0, .int .i64 0, .string (⟨#[]⟩ : ByteArray), .int .i64 0, .slice none 0 0] (.slice A4 q4 c4) l4 (.slice A5 q5 c5) l5 (.slice none 0 0) [] from HSt.out.call HSt.out.at_ (cmd_Get.Kq.drew br wt)))))
      refine wp_region_any (by kernel_rfl) ?_
      try (change wpAny _ _ _ _ _ _ _ (World.drew _))
      refine wpAny_take (i := 0) (v := ?_) rfl (by kernel_rfl) (by kernel_rfl) (by kernel_rfl) (fun _ _ _ h => h) (Or.inl ⟨by rfl, ?_⟩) ?_
      rotate_left
      ·intro w; first | (go_simp; done) | (go_simp; with_reducible rfl)
      refine wpAny_take (i := 2) (v := ?_) rfl (by kernel_rfl) (by kernel_rfl) (by kernel_rfl) (fun _ _ _ h => h) (Or.inl ⟨by rfl, ?_⟩) ?_
      rotate_left
      ·intro w; first | (go_simp; done) | (go_simp; with_reducible rfl)
      refine wpAny_take (i := 3) (v := ?_) rfl (by kernel_rfl) (by kernel_rfl) (by kernel_rfl) (fun _ _ _ h => h) (Or.inl ⟨by rfl, ?_⟩) ?_
      rotate_left
      ·intro w; first | (go_simp; done) | (go_simp; with_reducible rfl)
      refine wpAny_ready (rs := [1, 4]) (by kernel_rfl) (by simp) ?_
      refine AllReady.cons rfl (fun K hK => ?_) (AllReady.cons rfl (fun K hK => ?_) (AllReady.nil))
      focus
       go_simp
       refine hK _ _ ?_
       clear hK K
       refine wpAny_ready (rs := [4]) (by kernel_rfl) (by simp) ?_
       refine AllReady.cons rfl (fun K hK => ?_) (AllReady.nil)
       go_simp
       go_at_call 49
       refine (cmd_Get.text_n u1 br wt.drew HSD.out.at_ P2.out).mono ?_
       rintro e w9 ⟨⟨uu, pv, rfl⟩, hk⟩
       exact ⟨rfl, ⟨_, _, rfl⟩, HSD.out.kq.trans hk⟩
      focus
       go_simp
       go_at_call 49
       refine (cmd_Get.text_n u1 br wt.drew HSD.out.at_ P2.out).mono ?_
       rintro e w9 ⟨⟨uu, pv, rfl⟩, hk⟩
       exact ⟨rfl, ⟨_, _, rfl⟩, HSD.out.kq.trans hk⟩
     | some x2 =>
     obtain ⟨s2, u2⟩ := x2
     have HGE := Aside0.mk (show cmd_Get.gL cmd_Get.pRng (cmd_Get.K5 k0 k1 k2 k3 l4) s0.toNat (l5 ++ [(⟨s, s2⟩ : S50)]) u2 = RES by rw [← HGS.out]; unfold cmd_Get.pRng; rw [h1, Option.bind_some, h2]; rfl)
     have HZ7 := Aside0.mk (show u2.size + 8 ≤ u.size by have e1 := cmd_Get.pT_size h1; have e2 := cmd_Get.pT_size h2; clear hs0; omega)
     have P1 := Aside0.mk h1
     have P2 := Aside0.mk h2
     clear h1 h2
     go_wp2_with (first | (go_at_call 49; go_loud (refine (cmd_Get.text u br _ HS.out.at_ _ _ P1.out).mono ?_; rintro e wt ⟨rfl, ha, hk⟩; have HSt := Aside0.mk (HS.out.call ha hk); clear ha hk; have c5_wt : wt.cell? ⟨cb, 5, none⟩ = some (.slice A5 q5 c5) := (blk_cell HSt.out.blk 5).trans rfl; have f5_wt := blk_frozen HSt.out.blk 5; have HSD := Aside0.mk (show cmd_Get.Cs br cb rb w wt.drew (fun _ => True) u1 #[.int .i64 k0, .int .i64 k1, .int .i64 k2, .int .i64 k3, .slice A4 q4 c4, .slice A5 q5 c5, .slice none 0 0, .int .i64 0, .int .i64 0, .int .i64 0, .string (⟨#[]⟩ : ByteArray), .int .i64 0, .slice none 0 0] (.slice A4 q4 c4) l4 (.slice A5 q5 c5) l5 (.slice none 0 0) [] from HSt.out.call HSt.out.at_ (cmd_Get.Kq.drew br wt)))))
     refine wp_region_any (by kernel_rfl) ?_
     try (change wpAny _ _ _ _ _ _ _ (World.drew _))
     refine wpAny_take (i := 0) (v := ?_) rfl (by kernel_rfl) (by kernel_rfl) (by kernel_rfl) (fun _ _ _ h => h) (Or.inl ⟨by rfl, ?_⟩) ?_
     rotate_left
     ·intro w; first | (go_simp; done) | (go_simp; with_reducible rfl)
     refine wpAny_take (i := 2) (v := ?_) rfl (by kernel_rfl) (by kernel_rfl) (by kernel_rfl) (fun _ _ _ h => h) (Or.inl ⟨by rfl, ?_⟩) ?_
     rotate_left
     ·intro w; first | (go_simp; done) | (go_simp; with_reducible rfl)
     refine wpAny_take (i := 3) (v := ?_) rfl (by kernel_rfl) (by kernel_rfl) (by kernel_rfl) (fun _ _ _ h => h) (Or.inl ⟨by rfl, ?_⟩) ?_
     rotate_left
     ·intro w; first | (go_simp; done) | (go_simp; with_reducible rfl)
     refine wpAny_ready (rs := [1, 4]) (by kernel_rfl) (by simp) ?_
     refine AllReady.cons rfl (fun K hK => ?_) (AllReady.cons rfl (fun K hK => ?_) (AllReady.nil))
     focus
      go_simp
      refine hK _ _ ?_
      clear hK K
      refine wpAny_ready (rs := [4]) (by kernel_rfl) (by simp) ?_
      refine AllReady.cons rfl (fun K hK => ?_) (AllReady.nil)
      go_simp
      go_at_call 49
      refine (cmd_Get.text u1 br wt.drew HSD.out.at_ _ _ P2.out).mono ?_
      rintro e w1 ⟨rfl, ha, hk⟩
      dsimp only
      refine hK _ _ ?_
      clear hK K
      have HS1 := Aside0.mk (HSD.out.call ha hk)
      have y1 : w1.cell? ⟨cb, 5, none⟩ = some (.slice A5 q5 c5) := (blk_cell HS1.out.blk 5).trans rfl
      have y2 : (w1.alloc (.cells #[.string s, .string s2] 50)).cell? ⟨cb, 5, none⟩ = some (.slice A5 q5 c5) := (blk_cell (yA HS1.out.blk _) 5).trans rfl
      clear ha hk
      refine wpAny_take (i := 5) (v := ?_) rfl (by kernel_rfl) (by kernel_rfl) (by kernel_rfl) (fun _ _ _ h => h) (Or.inl ⟨by rfl, ?_⟩) ?_
      rotate_left
      ·intro w; first | (go_simp; done) | (go_simp; with_reducible rfl)
      refine wpAny_ready (rs := [6]) (by kernel_rfl) (by simp) ?_
      refine AllReady.cons rfl (fun K hK => ?_) (AllReady.nil)
      go_simp
      refine hK _ _ ?_
      clear hK K
      refine wpAny_ready (rs := [7]) (by kernel_rfl) (by simp) ?_
      refine AllReady.cons rfl (fun K hK => ?_) (AllReady.nil)
      refine Kd.R_append_step k50 (w0 := w1) w.heap.size rfl (.tmp 40) (.tmp 45) 23 50 (.agg #[.string ⟨#[]⟩, .string ⟨#[]⟩]) 32 rfl Try.underlying23 cmd_Get.infR rfl (by decide) (by decide) (.slice A5 q5 c5) l5 (⟨s, s2⟩ : S50) [.string s, .string s2] (fun _ => True) (fun _ => False) (by first | rfl | (go_simp; done)) (by first | rfl | (go_simp; done)) (k50_mkM _ _ _ (⟨s, s2⟩ : S50)) (fun _ hk => hk.elim) (fun _ _ => trivial) HS1.out.r5 (Below.refl _ _) HS1.out.kq.size HL.out ?_
      intro v2 w2 ho hb hg hat
      obtain ⟨A2, m2, c2, rfl⟩ : ∃ A m c, v2 = .slice A m c := (by obtain ⟨A, c, h⟩ := Kd.R_slice ho; exact ⟨A, _, c, h⟩)
      refine hK _ _ ?_
      clear hK K
      have HS2 := Aside0.mk (HS1.out.app5 ho hg)
      have z0 : w2.cell? ⟨cb, 5, none⟩ = some (.slice A5 q5 c5) := (blk_cell HS2.out.blk 5).trans rfl
      have z1 := blk_frozen HS2.out.blk 5
      clear ho hb hg hat
      refine wpAny_take (i := 8) (v := ?_) rfl (by kernel_rfl) (by kernel_rfl) (by kernel_rfl) (fun _ _ _ h => h) (Or.inl ⟨by rfl, ?_⟩) ?_
      rotate_left
      ·intro w; first | (go_simp; done) | (go_simp; with_reducible rfl)
      refine wpAny_ready (rs := [9]) (by kernel_rfl) (by simp) ?_
      refine AllReady.cons rfl (fun K hK => ?_) (AllReady.nil)
      go_simp
      refine hK _ _ ?_
      clear hK K
      refine wpAny_done (by kernel_rfl) ?_ _
     rotate_left 1
     focus
      go_simp
      go_at_call 49
      refine (cmd_Get.text u1 br wt.drew HSD.out.at_ _ _ P2.out).mono ?_
      rintro e w1 ⟨rfl, ha, hk⟩
      dsimp only
      refine hK _ _ ?_
      clear hK K
      have HS1 := Aside0.mk (HSD.out.call ha hk)
      have y1 : w1.cell? ⟨cb, 5, none⟩ = some (.slice A5 q5 c5) := (blk_cell HS1.out.blk 5).trans rfl
      have y2 : (w1.alloc (.cells #[.string s, .string s2] 50)).cell? ⟨cb, 5, none⟩ = some (.slice A5 q5 c5) := (blk_cell (yA HS1.out.blk _) 5).trans rfl
      clear ha hk
      refine wpAny_take (i := 5) (v := ?_) rfl (by kernel_rfl) (by kernel_rfl) (by kernel_rfl) (fun _ _ _ h => h) (Or.inl ⟨by rfl, ?_⟩) ?_
      rotate_left
      ·intro w; first | (go_simp; done) | (go_simp; with_reducible rfl)
      refine wpAny_ready (rs := [1, 6]) (by kernel_rfl) (by simp) ?_
      refine AllReady.cons rfl (fun K hK => ?_) (AllReady.cons rfl (fun K hK => ?_) (AllReady.nil))
      focus
       go_simp
       refine hK _ _ ?_
       clear hK K
       refine wpAny_ready (rs := [6]) (by kernel_rfl) (by simp) ?_
       refine AllReady.cons rfl (fun K hK => ?_) (AllReady.nil)
       go_simp
       refine hK _ _ ?_
       clear hK K
       refine wpAny_ready (rs := [7]) (by kernel_rfl) (by simp) ?_
       refine AllReady.cons rfl (fun K hK => ?_) (AllReady.nil)
       refine Kd.R_append_step k50 (w0 := w1) w.heap.size rfl (.tmp 40) (.tmp 45) 23 50 (.agg #[.string ⟨#[]⟩, .string ⟨#[]⟩]) 32 rfl Try.underlying23 cmd_Get.infR rfl (by decide) (by decide) (.slice A5 q5 c5) l5 (⟨s, s2⟩ : S50) [.string s, .string s2] (fun _ => True) (fun _ => False) (by first | rfl | (go_simp; done)) (by first | rfl | (go_simp; done)) (k50_mkM _ _ _ (⟨s, s2⟩ : S50)) (fun _ hk => hk.elim) (fun _ _ => trivial) HS1.out.r5 (Below.refl _ _) HS1.out.kq.size HL.out ?_
       intro v2 w2 ho hb hg hat
       obtain ⟨A2, m2, c2, rfl⟩ : ∃ A m c, v2 = .slice A m c := (by obtain ⟨A, c, h⟩ := Kd.R_slice ho; exact ⟨A, _, c, h⟩)
       refine hK _ _ ?_
       clear hK K
       have HS2 := Aside0.mk (HS1.out.app5 ho hg)
       have z0 : w2.cell? ⟨cb, 5, none⟩ = some (.slice A5 q5 c5) := (blk_cell HS2.out.blk 5).trans rfl
       have z1 := blk_frozen HS2.out.blk 5
       clear ho hb hg hat
       refine wpAny_take (i := 8) (v := ?_) rfl (by kernel_rfl) (by kernel_rfl) (by kernel_rfl) (fun _ _ _ h => h) (Or.inl ⟨by rfl, ?_⟩) ?_
       rotate_left
       ·intro w; first | (go_simp; done) | (go_simp; with_reducible rfl)
       refine wpAny_ready (rs := [9]) (by kernel_rfl) (by simp) ?_
       refine AllReady.cons rfl (fun K hK => ?_) (AllReady.nil)
       go_simp
       refine hK _ _ ?_
       clear hK K
       refine wpAny_done (by kernel_rfl) ?_ _
      rotate_left 1
      focus
       go_simp
       refine hK _ _ ?_
       clear hK K
       refine wpAny_ready (rs := [1]) (by kernel_rfl) (by simp) ?_
       refine AllReady.cons rfl (fun K hK => ?_) (AllReady.nil)
       go_simp
       refine hK _ _ ?_
       clear hK K
       refine wpAny_ready (rs := [7]) (by kernel_rfl) (by simp) ?_
       refine AllReady.cons rfl (fun K hK => ?_) (AllReady.nil)
       refine Kd.R_append_step k50 (w0 := w1) w.heap.size rfl (.tmp 40) (.tmp 45) 23 50 (.agg #[.string ⟨#[]⟩, .string ⟨#[]⟩]) 32 rfl Try.underlying23 cmd_Get.infR rfl (by decide) (by decide) (.slice A5 q5 c5) l5 (⟨s, s2⟩ : S50) [.string s, .string s2] (fun _ => True) (fun _ => False) (by first | rfl | (go_simp; done)) (by first | rfl | (go_simp; done)) (k50_mkM _ _ _ (⟨s, s2⟩ : S50)) (fun _ hk => hk.elim) (fun _ _ => trivial) HS1.out.r5 (Below.refl _ _) HS1.out.kq.size HL.out ?_
       intro v2 w2 ho hb hg hat
       obtain ⟨A2, m2, c2, rfl⟩ : ∃ A m c, v2 = .slice A m c := (by obtain ⟨A, c, h⟩ := Kd.R_slice ho; exact ⟨A, _, c, h⟩)
       refine hK _ _ ?_
       clear hK K
       have HS2 := Aside0.mk (HS1.out.app5 ho hg)
       have z0 : w2.cell? ⟨cb, 5, none⟩ = some (.slice A5 q5 c5) := (blk_cell HS2.out.blk 5).trans rfl
       have z1 := blk_frozen HS2.out.blk 5
       clear ho hb hg hat
       refine wpAny_take (i := 8) (v := ?_) rfl (by kernel_rfl) (by kernel_rfl) (by kernel_rfl) (fun _ _ _ h => h) (Or.inl ⟨by rfl, ?_⟩) ?_
       rotate_left
       ·intro w; first | (go_simp; done) | (go_simp; with_reducible rfl)
       refine wpAny_ready (rs := [9]) (by kernel_rfl) (by simp) ?_
       refine AllReady.cons rfl (fun K hK => ?_) (AllReady.nil)
       go_simp
       refine hK _ _ ?_
       clear hK K
       refine wpAny_done (by kernel_rfl) ?_ _
     all_goals
      have HS3 := Aside0.mk (HS2.out.put 5 (.slice A2 m2 c2) rfl)
      go_wp2
      go_roundw
      case rel => exact ⟨s0, _, u2, _, _, _, by rw [hs0], ⟨by have := T0.out; have := HN.out; have := HZ7.out; clear hs0; simp only [List.length_append, List.length_singleton]; omega⟩, HGE, HS3⟩
      case measure => rw [hs0]; have := T0.out; clear hs0; show s0.toNat < n.toNat; omega
    ·have q1 : decide (n > 0) = false := decide_eq_false hn
     have q2 : decide (0 < n) = false := q1
     have HE := Aside0.mk (show cmd_Get.K5 k0 k1 k2 k3 l4 l5 u = RES by have h1 := HG.out; rw [show n.toNat = 0 by omega] at h1; exact h1)
     clear hn
     cases h1 : cmd_Get.pC u with
     | none =>
      have hR : RES = none := by rw [← HE.out]; unfold cmd_Get.K5; rw [h1]; rfl
      have P1 := Aside0.mk h1
      clear h1
      subst hR
      go_wp2_with (first | (go_at_call 48; go_loud (refine (cmd_Get.count_n u br _ HS.out.at_ P1.out).mono ?_; rintro e w9 ⟨⟨u, pv, rfl⟩, hk⟩; have HK9 := Aside0.mk (HS.out.kq.trans hk); clear hk)))
      exact ⟨rfl, ⟨_, _, rfl⟩, HK9.out⟩
     | some x1 =>
     obtain ⟨m6, t7⟩ := x1
     have HG6 := Aside0.mk (show cmd_Get.gL cmd_Get.pWr (cmd_Get.K6 k0 k1 k2 k3 l4 l5) m6.toNat [] t7 = RES by rw [← HE.out]; unfold cmd_Get.K5; rw [h1]; rfl)
     have HN6 := Aside0.mk (show 0 ≤ m6 ∧ m6 ≤ 1000000 ∧ t7.size ≤ 1000000 by have e5 := cmd_Get.pC_size h1; have e6 := cmd_Get.pC_in h1; have := HN.out; omega)
     have P1 := Aside0.mk h1
     clear h1
     go_wp2_with (first | (go_at_call 48; go_loud (refine (cmd_Get.count u br _ HS.out.at_ _ _ P1.out).mono ?_; rintro e wn7 ⟨rfl, ha, hk⟩; have S9 := Aside0.mk (HS.out.call ha hk); clear ha hk)))
     clear q1 q2
     go_loopw [7] (fun vn wr => ∃ (n : Int) (l6 : List S41) (u : ByteArray) (A6 : Option Addr) (q6 c6 : Nat), vn = .int .i64 n ∧ Aside0 (0 ≤ n ∧ n ≤ 1000000 ∧ l6.length + u.size ≤ 1000000) ∧ Aside0 (cmd_Get.gL cmd_Get.pWr (cmd_Get.K6 k0 k1 k2 k3 l4 l5) n.toNat l6 u = RES) ∧ Aside0 (cmd_Get.Cs br cb rb w wr (fun _ => True) u #[.int .i64 k0, .int .i64 k1, .int .i64 k2, .int .i64 k3, .slice A4 q4 c4, .slice A5 q5 c5, .slice A6 q6 c6, .int .i64 0, .int .i64 0, .int .i64 0, .string (⟨#[]⟩ : ByteArray), .int .i64 0, .slice none 0 0] (.slice A4 q4 c4) l4 (.slice A5 q5 c5) l5 (.slice A6 q6 c6) l6)) (fun v _ => (intOf v).toNat)
     case atStart => exact ⟨m6, [], t7, none, 0, 0, rfl, ⟨by have := HN6.out; simp only [List.length_nil]; omega⟩, HG6, S9⟩
     case round =>
      obtain ⟨n, l6, u, A6, q6, c6, rfl, HN, HG, HS⟩ := hrel
      by_cases hn : 0 < n
      ·have q1 : decide (n > 0) = true := decide_eq_true hn
       have q2 : decide (0 < n) = true := q1
       obtain ⟨s0, hs0⟩ : ∃ s, wrap64 (n - 1) = s := ⟨_, rfl⟩
       have T0 := Aside0.mk (cmd_Get.back1 hs0 hn HN.out.2.1)
       have HGS := Aside0.mk (show ((cmd_Get.pWr u).bind fun x => cmd_Get.gL cmd_Get.pWr (cmd_Get.K6 k0 k1 k2 k3 l4 l5) s0.toNat (l6 ++ [x.1]) x.2) = RES by rw [← HG.out, T0.out.2.2]; rfl)
       have HL := Aside0.mk (show (l6.length + 1) * 40 ≤ 140737488355328 by have := HN.out; clear hs0; omega)
       clear hn
       cases h1 : cmd_Get.pT u with
       | none =>
        have hR : RES = none := by rw [← HGS.out]; unfold cmd_Get.pWr; rw [h1]; rfl
        have P1 := Aside0.mk h1
        clear h1
        subst hR
        go_wp2_with (first | (go_at_call 49; go_loud (refine (cmd_Get.text_n u br _ HS.out.at_ P1.out).mono ?_; rintro e w9 ⟨⟨u, pv, rfl⟩, hk⟩; have HK9 := Aside0.mk (HS.out.kq.trans hk); clear hk)))
        exact ⟨rfl, ⟨_, _, rfl⟩, HK9.out⟩
       | some x1 =>
       obtain ⟨s, u1⟩ := x1
       cases h2 : cmd_Get.pT u1 with
       | none =>
        have hR : RES = none := by rw [← HGS.out]; unfold cmd_Get.pWr; rw [h1, Option.bind_some, h2]; rfl
        have P1 := Aside0.mk h1
        have P2 := Aside0.mk h2
        clear h1 h2
        subst hR
        go_wp2_with (first | (go_at_call 49; go_loud (refine (cmd_Get.text_n u1 br _ HG0.out.cs_.at_ P2.out).mono ?_; rintro e w9 ⟨⟨u, pv, rfl⟩, hk⟩; have HK9 := Aside0.mk (HG0.out.cs_.kq.trans hk); clear hk)) | ((with_reducible refine gate_dst (N := 8) rfl ?_); (try (refine gate_guard (by rfl) ?_; dsimp only)); go_loud (refine box_event ?hg (N := 8) ?hd (cs := #[.string (⟨#[]⟩ : ByteArray), .string (⟨#[]⟩ : ByteArray), .bool false]) (t := 41) ?hr ?_; (case hd => rfl); (case hg => rfl); (case hr => first | (go_simp; done) | (go_simp; rfl)); intro gb hg wx hbox hb; have HGb := Aside0.mk (HS1.out.boxw hg hbox hb); have HG0 := Aside0.mk (HGb.out.put3 (.string s) (.string ⟨#[]⟩) (.bool false)); clear hbox hb hg; have g0_wx : wx.cell? ⟨gb, 0, none⟩ = some (.string (⟨#[]⟩ : ByteArray)) := (blk_cell HGb.out.gblk 0).trans rfl; have h0_wx := blk_frozen HGb.out.gblk 0; have g1_wx : wx.cell? ⟨gb, 1, none⟩ = some (.string (⟨#[]⟩ : ByteArray)) := (blk_cell HGb.out.gblk 1).trans rfl; have h1_wx := blk_frozen HGb.out.gblk 1; have g2_wx : wx.cell? ⟨gb, 2, none⟩ = some (.bool false) := (blk_cell HGb.out.gblk 2).trans rfl; have h2_wx := blk_frozen HGb.out.gblk 2)) | (go_at_call 49; go_loud (refine (cmd_Get.text u br _ HS.out.at_ _ _ P1.out).mono ?_; rintro e w2 ⟨rfl, ha, hk⟩; have HS1 := Aside0.mk (HS.out.call ha hk); clear ha hk)))
        exact ⟨rfl, ⟨_, _, rfl⟩, HK9.out⟩
       | some x2 =>
       obtain ⟨s2, u2⟩ := x2
       cases h3 : cmd_Get.pN u2 with
       | none =>
        have hR : RES = none := by rw [← HGS.out]; unfold cmd_Get.pWr; rw [h1, Option.bind_some, h2, Option.bind_some, h3]; rfl
        have P1 := Aside0.mk h1
        have P2 := Aside0.mk h2
        have P3 := Aside0.mk h3
        clear h1 h2 h3
        subst hR
        go_wp2_with (first | (go_at_call 47; go_loud (refine (cmd_Get.num_n u2 br _ HG1p.out.cs_.at_ P3.out).mono ?_; rintro e w9 ⟨⟨u, pv, rfl⟩, hk⟩; have HK9 := Aside0.mk (HG1p.out.cs_.kq.trans hk); clear hk)) | (go_at_call 49; go_loud (refine (cmd_Get.text u1 br _ HG0.out.cs_.at_ _ _ P2.out).mono ?_; rintro e w4 ⟨rfl, ha, hk⟩; have HG1 := Aside0.mk (HG0.out.call ha hk); clear ha hk; have g1_w4 : w4.cell? ⟨gb, 1, none⟩ = some (.string (⟨#[]⟩ : ByteArray)) := (blk_cell HG1.out.gblk 1).trans rfl; have h1_w4 := blk_frozen HG1.out.gblk 1; have HG1p := Aside0.mk (HG1.out.put 1 (.string s2) rfl))) | ((with_reducible refine gate_dst (N := 8) rfl ?_); (try (refine gate_guard (by rfl) ?_; dsimp only)); go_loud (refine box_event ?hg (N := 8) ?hd (cs := #[.string (⟨#[]⟩ : ByteArray), .string (⟨#[]⟩ : ByteArray), .bool false]) (t := 41) ?hr ?_; (case hd => rfl); (case hg => rfl); (case hr => first | (go_simp; done) | (go_simp; rfl)); intro gb hg wx hbox hb; have HGb := Aside0.mk (HS1.out.boxw hg hbox hb); have HG0 := Aside0.mk (HGb.out.put3 (.string s) (.string ⟨#[]⟩) (.bool false)); clear hbox hb hg; have g0_wx : wx.cell? ⟨gb, 0, none⟩ = some (.string (⟨#[]⟩ : ByteArray)) := (blk_cell HGb.out.gblk 0).trans rfl; have h0_wx := blk_frozen HGb.out.gblk 0; have g1_wx : wx.cell? ⟨gb, 1, none⟩ = some (.string (⟨#[]⟩ : ByteArray)) := (blk_cell HGb.out.gblk 1).trans rfl; have h1_wx := blk_frozen HGb.out.gblk 1; have g2_wx : wx.cell? ⟨gb, 2, none⟩ = some (.bool false) := (blk_cell HGb.out.gblk 2).trans rfl; have h2_wx := blk_frozen HGb.out.gblk 2)) | (go_at_call 49; go_loud (refine (cmd_Get.text u br _ HS.out.at_ _ _ P1.out).mono ?_; rintro e w2 ⟨rfl, ha, hk⟩; have HS1 := Aside0.mk (HS.out.call ha hk); clear ha hk)))
        exact ⟨rfl, ⟨_, _, rfl⟩, HK9.out⟩
       | some x3 =>
       obtain ⟨d, u3⟩ := x3
       have HGE := Aside0.mk (show cmd_Get.gL cmd_Get.pWr (cmd_Get.K6 k0 k1 k2 k3 l4 l5) s0.toNat (l6 ++ [(⟨s, s2, d == 1⟩ : S41)]) u3 = RES by rw [← HGS.out]; unfold cmd_Get.pWr; rw [h1, Option.bind_some, h2, Option.bind_some, h3]; rfl)
       have HZ7 := Aside0.mk (show u3.size + 8 ≤ u.size by have e1 := cmd_Get.pT_size h1; have e2 := cmd_Get.pT_size h2; have e3 := cmd_Get.pN_size h3; clear hs0; omega)
       have P1 := Aside0.mk h1
       have P2 := Aside0.mk h2
       have P3 := Aside0.mk h3
       clear h1 h2 h3
       go_wp2_with (first | ((with_reducible refine gate_builtin (b := .append) (xs := #[.tmp 65, .tmp 67]) rfl ?_); at_builtin; go_loud (refine Kd.R_append k41 (w0 := w5.setCell ⟨gb, 2, none⟩ (.bool (d == 1))) w.heap.size rfl (.tmp 65) (.tmp 67) 24 41 (.agg #[.string ⟨#[]⟩, .string ⟨#[]⟩, .bool false]) 40 rfl Try.underlying24 cmd_Get.infW rfl (by decide) (by decide) (.slice A6 q6 c6) l6 (⟨s, s2, d == 1⟩ : S41) [.string s, .string s2, .bool (d == 1)] (fun _ => True) (fun _ => False) (by first | rfl | (go_simp; done) | (go_simp; rfl)) (by first | rfl | (go_simp; done) | (go_simp; rfl)) (k41_mkM _ _ _ (⟨s, s2, d == 1⟩ : S41)) (fun _ hk => hk.elim) (fun _ _ => trivial) (Kd.R_mono HG2p.out.cs_.r6 (fun _ _ => trivial)) (Below.refl _ _) HG2p.out.cs_.kq.size HL.out ?_; intro v8 w8 ho hb8 hg8 hat; obtain ⟨A8, m8, c8, rfl⟩ : ∃ A m c, v8 = .slice A m c := (by obtain ⟨A, c, h⟩ := Kd.R_slice ho; exact ⟨A, _, c, h⟩); have HS8 := Aside0.mk (HG2p.out.cs_.app6 ho hg8); have z0 : w8.cell? ⟨cb, 6, none⟩ = some (.slice A6 q6 c6) := (blk_cell HS8.out.blk 6).trans rfl; have z1 := blk_frozen HS8.out.blk 6; clear ho hb8 hg8 hat)) | (go_at_call 47; go_loud (refine (cmd_Get.num u2 br _ HG1p.out.cs_.at_ _ _ P3.out).mono ?_; rintro e w5 ⟨rfl, ha, hk⟩; have HG2 := Aside0.mk (HG1p.out.call ha hk); clear ha hk; have g0_w5 : w5.cell? ⟨gb, 0, none⟩ = some (.string s) := (blk_cell HG2.out.gblk 0).trans rfl; have h0_w5 := blk_frozen HG2.out.gblk 0; have g1_w5 : w5.cell? ⟨gb, 1, none⟩ = some (.string s2) := (blk_cell HG2.out.gblk 1).trans rfl; have h1_w5 := blk_frozen HG2.out.gblk 1; have g2_w5 : w5.cell? ⟨gb, 2, none⟩ = some (.bool false) := (blk_cell HG2.out.gblk 2).trans rfl; have h2_w5 := blk_frozen HG2.out.gblk 2; have HG2p := Aside0.mk (HG2.out.put 2 (.bool (d == 1)) rfl); have c6_w5 : w5.cell? ⟨cb, 6, none⟩ = some (.slice A6 q6 c6) := (blk_cell HG2.out.cs_.blk 6).trans rfl)) | (go_at_call 49; go_loud (refine (cmd_Get.text u1 br _ HG0.out.cs_.at_ _ _ P2.out).mono ?_; rintro e w4 ⟨rfl, ha, hk⟩; have HG1 := Aside0.mk (HG0.out.call ha hk); clear ha hk; have g1_w4 : w4.cell? ⟨gb, 1, none⟩ = some (.string (⟨#[]⟩ : ByteArray)) := (blk_cell HG1.out.gblk 1).trans rfl; have h1_w4 := blk_frozen HG1.out.gblk 1; have HG1p := Aside0.mk (HG1.out.put 1 (.string s2) rfl))) | ((with_reducible refine gate_dst (N := 8) rfl ?_); (try (refine gate_guard (by rfl) ?_; dsimp only)); go_loud (refine box_event ?hg (N := 8) ?hd (cs := #[.string (⟨#[]⟩ : ByteArray), .string (⟨#[]⟩ : ByteArray), .bool false]) (t := 41) ?hr ?_; (case hd => rfl); (case hg => rfl); (case hr => first | (go_simp; done) | (go_simp; rfl)); intro gb hg wx hbox hb; have HGb := Aside0.mk (HS1.out.boxw hg hbox hb); have HG0 := Aside0.mk (HGb.out.put3 (.string s) (.string ⟨#[]⟩) (.bool false)); clear hbox hb hg; have g0_wx : wx.cell? ⟨gb, 0, none⟩ = some (.string (⟨#[]⟩ : ByteArray)) := (blk_cell HGb.out.gblk 0).trans rfl; have h0_wx := blk_frozen HGb.out.gblk 0; have g1_wx : wx.cell? ⟨gb, 1, none⟩ = some (.string (⟨#[]⟩ : ByteArray)) := (blk_cell HGb.out.gblk 1).trans rfl; have h1_wx := blk_frozen HGb.out.gblk 1; have g2_wx : wx.cell? ⟨gb, 2, none⟩ = some (.bool false) := (blk_cell HGb.out.gblk 2).trans rfl; have h2_wx := blk_frozen HGb.out.gblk 2)) | (go_at_call 49; go_loud (refine (cmd_Get.text u br _ HS.out.at_ _ _ P1.out).mono ?_; rintro e w2 ⟨rfl, ha, hk⟩; have HS1 := Aside0.mk (HS.out.call ha hk); clear ha hk)))
       have HS9 := Aside0.mk (HS8.out.put 6 (.slice A8 m8 c8) rfl)
       go_roundw
       case rel => exact ⟨s0, _, u3, _, _, _, by rw [hs0], ⟨by have := T0.out; have := HN.out; have := HZ7.out; clear hs0; simp only [List.length_append, List.length_singleton]; omega⟩, HGE, HS9⟩
       case measure => rw [hs0]; have := T0.out; clear hs0; show s0.toNat < n.toNat; omega
      ·have q1 : decide (n > 0) = false := decide_eq_false hn
       have q2 : decide (0 < n) = false := q1
       have HE := Aside0.mk (show cmd_Get.K6 k0 k1 k2 k3 l4 l5 l6 u = RES by have h1 := HG.out; rw [show n.toNat = 0 by omega] at h1; exact h1)
       clear hn
       cases h1 : cmd_Get.pN u with
       | none =>
        have hR : RES = none := by rw [← HE.out]; unfold cmd_Get.K6; rw [h1]; rfl
        have P1 := Aside0.mk h1
        clear h1
        subst hR
        go_wp2_with (first | (go_at_call 47; go_loud (refine (cmd_Get.num_n u br _ HS.out.at_ P1.out).mono ?_; rintro e w9 ⟨⟨u, pv, rfl⟩, hk⟩; have HK9 := Aside0.mk (HS.out.kq.trans hk); clear hk)))
        exact ⟨rfl, ⟨_, _, rfl⟩, HK9.out⟩
       | some x1 =>
       obtain ⟨k7, u1⟩ := x1
       cases h2 : cmd_Get.pN u1 with
       | none =>
        have hR : RES = none := by rw [← HE.out]; unfold cmd_Get.K6; rw [h1, Option.bind_some, h2]; rfl
        have P1 := Aside0.mk h1
        have P2 := Aside0.mk h2
        clear h1 h2
        subst hR
        go_wp2_with (first | (go_at_call 47; go_loud (refine (cmd_Get.num_n u1 br _ E1.out.at_ P2.out).mono ?_; rintro e w9 ⟨⟨u, pv, rfl⟩, hk⟩; have HK9 := Aside0.mk (E1.out.kq.trans hk); clear hk)) | (go_at_call 47; go_loud (refine (cmd_Get.num u br _ HS.out.at_ _ _ P1.out).mono ?_; rintro e x1w ⟨rfl, ha, hk⟩; have E1 := Aside0.mk (HS.out.call ha hk); clear ha hk)))
        exact ⟨rfl, ⟨_, _, rfl⟩, HK9.out⟩
       | some x2 =>
       obtain ⟨k8, u2⟩ := x2
       cases h3 : cmd_Get.pN u2 with
       | none =>
        have hR : RES = none := by rw [← HE.out]; unfold cmd_Get.K6; rw [h1, Option.bind_some, h2, Option.bind_some, h3]; rfl
        have P1 := Aside0.mk h1
        have P2 := Aside0.mk h2
        have P3 := Aside0.mk h3
        clear h1 h2 h3
        subst hR
        go_wp2_with (first | (go_at_call 47; go_loud (refine (cmd_Get.num_n u2 br _ E2.out.at_ P3.out).mono ?_; rintro e w9 ⟨⟨u, pv, rfl⟩, hk⟩; have HK9 := Aside0.mk (E2.out.kq.trans hk); clear hk)) | (go_at_call 47; go_loud (refine (cmd_Get.num u1 br _ E1.out.at_ _ _ P2.out).mono ?_; rintro e x2w ⟨rfl, ha, hk⟩; have E2 := Aside0.mk (E1.out.call ha hk); clear ha hk)) | (go_at_call 47; go_loud (refine (cmd_Get.num u br _ HS.out.at_ _ _ P1.out).mono ?_; rintro e x1w ⟨rfl, ha, hk⟩; have E1 := Aside0.mk (HS.out.call ha hk); clear ha hk)))
        exact ⟨rfl, ⟨_, _, rfl⟩, HK9.out⟩
       | some x3 =>
       obtain ⟨k9, u3⟩ := x3
       cases h4 : cmd_Get.pT u3 with
       | none =>
        have hR : RES = none := by rw [← HE.out]; unfold cmd_Get.K6; rw [h1, Option.bind_some, h2, Option.bind_some, h3, Option.bind_some, h4]; rfl
        have P1 := Aside0.mk h1
        have P2 := Aside0.mk h2
        have P3 := Aside0.mk h3
        have P4 := Aside0.mk h4
        clear h1 h2 h3 h4
        subst hR
        go_wp2_with (first | (go_at_call 49; go_loud (refine (cmd_Get.text_n u3 br _ E3p.out.at_ P4.out).mono ?_; rintro e w9 ⟨⟨u, pv, rfl⟩, hk⟩; have HK9 := Aside0.mk (E3p.out.kq.trans hk); clear hk)) | (go_at_call 47; go_loud (refine (cmd_Get.num u2 br _ E2.out.at_ _ _ P3.out).mono ?_; rintro e x3w ⟨rfl, ha, hk⟩; have E3 := Aside0.mk (E2.out.call ha hk); clear ha hk; have c7_x3w : x3w.cell? ⟨cb, 7, none⟩ = some (.int .i64 0) := (blk_cell E3.out.blk 7).trans rfl; have f7_x3w := blk_frozen E3.out.blk 7; have c8_x3w : x3w.cell? ⟨cb, 8, none⟩ = some (.int .i64 0) := (blk_cell E3.out.blk 8).trans rfl; have f8_x3w := blk_frozen E3.out.blk 8; have c9_x3w : x3w.cell? ⟨cb, 9, none⟩ = some (.int .i64 0) := (blk_cell E3.out.blk 9).trans rfl; have f9_x3w := blk_frozen E3.out.blk 9; have E3p := Aside0.mk (((E3.out.put 7 (.int .i64 k7) (cs' := #[.int .i64 k0, .int .i64 k1, .int .i64 k2, .int .i64 k3, .slice A4 q4 c4, .slice A5 q5 c5, .slice A6 q6 c6, .int .i64 k7, .int .i64 0, .int .i64 0, .string (⟨#[]⟩ : ByteArray), .int .i64 0, .slice none 0 0]) rfl).put 8 (.int .i64 k8) (cs' := #[.int .i64 k0, .int .i64 k1, .int .i64 k2, .int .i64 k3, .slice A4 q4 c4, .slice A5 q5 c5, .slice A6 q6 c6, .int .i64 k7, .int .i64 k8, .int .i64 0, .string (⟨#[]⟩ : ByteArray), .int .i64 0, .slice none 0 0]) rfl).put 9 (.int .i64 k9) (cs' := #[.int .i64 k0, .int .i64 k1, .int .i64 k2, .int .i64 k3, .slice A4 q4 c4, .slice A5 q5 c5, .slice A6 q6 c6, .int .i64 k7, .int .i64 k8, .int .i64 k9, .string (⟨#[]⟩ : ByteArray), .int .i64 0, .slice none 0 0]) rfl))) | (go_at_call 47; go_loud (refine (cmd_Get.num u1 br _ E1.out.at_ _ _ P2.out).mono ?_; rintro e x2w ⟨rfl, ha, hk⟩; have E2 := Aside0.mk (E1.out.call ha hk); clear ha hk)) | (go_at_call 47; go_loud (refine (cmd_Get.num u br _ HS.out.at_ _ _ P1.out).mono ?_; rintro e x1w ⟨rfl, ha, hk⟩; have E1 := Aside0.mk (HS.out.call ha hk); clear ha hk)))
        exact ⟨rfl, ⟨_, _, rfl⟩, HK9.out⟩
       | some x4 =>
       obtain ⟨s10, u4⟩ := x4
       cases h5 : cmd_Get.pN u4 with
       | none =>
        have hR : RES = none := by rw [← HE.out]; unfold cmd_Get.K6; rw [h1, Option.bind_some, h2, Option.bind_some, h3, Option.bind_some, h4, Option.bind_some, h5]; rfl
        have P1 := Aside0.mk h1
        have P2 := Aside0.mk h2
        have P3 := Aside0.mk h3
        have P4 := Aside0.mk h4
        have P5 := Aside0.mk h5
        clear h1 h2 h3 h4 h5
        subst hR
        go_wp2_with (first | (go_at_call 47; go_loud (refine (cmd_Get.num_n u4 br _ E4p.out.at_ P5.out).mono ?_; rintro e w9 ⟨⟨u, pv, rfl⟩, hk⟩; have HK9 := Aside0.mk (E4p.out.kq.trans hk); clear hk)) | (go_at_call 49; go_loud (refine (cmd_Get.text u3 br _ E3p.out.at_ _ _ P4.out).mono ?_; rintro e x4w ⟨rfl, ha, hk⟩; have E4 := Aside0.mk (E3p.out.call ha hk); clear ha hk; have c10_x4w : x4w.cell? ⟨cb, 10, none⟩ = some (.string (⟨#[]⟩ : ByteArray)) := (blk_cell E4.out.blk 10).trans rfl; have f10_x4w := blk_frozen E4.out.blk 10; have E4p := Aside0.mk (E4.out.put 10 (.string s10) (cs' := #[.int .i64 k0, .int .i64 k1, .int .i64 k2, .int .i64 k3, .slice A4 q4 c4, .slice A5 q5 c5, .slice A6 q6 c6, .int .i64 k7, .int .i64 k8, .int .i64 k9, .string s10, .int .i64 0, .slice none 0 0]) rfl))) | (go_at_call 47; go_loud (refine (cmd_Get.num u2 br _ E2.out.at_ _ _ P3.out).mono ?_; rintro e x3w ⟨rfl, ha, hk⟩; have E3 := Aside0.mk (E2.out.call ha hk); clear ha hk; have c7_x3w : x3w.cell? ⟨cb, 7, none⟩ = some (.int .i64 0) := (blk_cell E3.out.blk 7).trans rfl; have f7_x3w := blk_frozen E3.out.blk 7; have c8_x3w : x3w.cell? ⟨cb, 8, none⟩ = some (.int .i64 0) := (blk_cell E3.out.blk 8).trans rfl; have f8_x3w := blk_frozen E3.out.blk 8; have c9_x3w : x3w.cell? ⟨cb, 9, none⟩ = some (.int .i64 0) := (blk_cell E3.out.blk 9).trans rfl; have f9_x3w := blk_frozen E3.out.blk 9; have E3p := Aside0.mk (((E3.out.put 7 (.int .i64 k7) (cs' := #[.int .i64 k0, .int .i64 k1, .int .i64 k2, .int .i64 k3, .slice A4 q4 c4, .slice A5 q5 c5, .slice A6 q6 c6, .int .i64 k7, .int .i64 0, .int .i64 0, .string (⟨#[]⟩ : ByteArray), .int .i64 0, .slice none 0 0]) rfl).put 8 (.int .i64 k8) (cs' := #[.int .i64 k0, .int .i64 k1, .int .i64 k2, .int .i64 k3, .slice A4 q4 c4, .slice A5 q5 c5, .slice A6 q6 c6, .int .i64 k7, .int .i64 k8, .int .i64 0, .string (⟨#[]⟩ : ByteArray), .int .i64 0, .slice none 0 0]) rfl).put 9 (.int .i64 k9) (cs' := #[.int .i64 k0, .int .i64 k1, .int .i64 k2, .int .i64 k3, .slice A4 q4 c4, .slice A5 q5 c5, .slice A6 q6 c6, .int .i64 k7, .int .i64 k8, .int .i64 k9, .string (⟨#[]⟩ : ByteArray), .int .i64 0, .slice none 0 0]) rfl))) | (go_at_call 47; go_loud (refine (cmd_Get.num u1 br _ E1.out.at_ _ _ P2.out).mono ?_; rintro e x2w ⟨rfl, ha, hk⟩; have E2 := Aside0.mk (E1.out.call ha hk); clear ha hk)) | (go_at_call 47; go_loud (refine (cmd_Get.num u br _ HS.out.at_ _ _ P1.out).mono ?_; rintro e x1w ⟨rfl, ha, hk⟩; have E1 := Aside0.mk (HS.out.call ha hk); clear ha hk)))
        exact ⟨rfl, ⟨_, _, rfl⟩, HK9.out⟩
       | some x5 =>
       obtain ⟨k11, u5⟩ := x5
       have HZR := Aside0.mk (show u5.size ≤ 1000000 by have e1 := cmd_Get.pN_size h1; have e2 := cmd_Get.pN_size h2; have e3 := cmd_Get.pN_size h3; have e4 := cmd_Get.pT_size h4; have e5 := cmd_Get.pN_size h5; have := HN.out; omega)
       cases h6 : cmd_Get.pRows u5 with
       | none =>
        have hR : RES = none := by rw [← HE.out]; unfold cmd_Get.K6; rw [h1, Option.bind_some, h2, Option.bind_some, h3, Option.bind_some, h4, Option.bind_some, h5, Option.bind_some, h6]; rfl
        have P1 := Aside0.mk h1
        have P2 := Aside0.mk h2
        have P3 := Aside0.mk h3
        have P4 := Aside0.mk h4
        have P5 := Aside0.mk h5
        have P6 := Aside0.mk h6
        clear h1 h2 h3 h4 h5 h6
        subst hR
        go_wp2_with (first | (go_at_call 50; go_loud (refine (cmd_Get.rows u5 br _ E5p.out.at_ HZR.out _ P6.out).mono ?_; rintro e w9 ⟨⟨u, pv, rfl⟩, hk⟩; have HK9 := Aside0.mk (E5p.out.kq.trans hk); clear hk)) | (go_at_call 47; go_loud (refine (cmd_Get.num u4 br _ E4p.out.at_ _ _ P5.out).mono ?_; rintro e x5w ⟨rfl, ha, hk⟩; have E5 := Aside0.mk (E4p.out.call ha hk); clear ha hk; have c11_x5w : x5w.cell? ⟨cb, 11, none⟩ = some (.int .i64 0) := (blk_cell E5.out.blk 11).trans rfl; have f11_x5w := blk_frozen E5.out.blk 11; have E5p := Aside0.mk (E5.out.put 11 (.int .i64 k11) (cs' := #[.int .i64 k0, .int .i64 k1, .int .i64 k2, .int .i64 k3, .slice A4 q4 c4, .slice A5 q5 c5, .slice A6 q6 c6, .int .i64 k7, .int .i64 k8, .int .i64 k9, .string s10, .int .i64 k11, .slice none 0 0]) rfl))) | (go_at_call 49; go_loud (refine (cmd_Get.text u3 br _ E3p.out.at_ _ _ P4.out).mono ?_; rintro e x4w ⟨rfl, ha, hk⟩; have E4 := Aside0.mk (E3p.out.call ha hk); clear ha hk; have c10_x4w : x4w.cell? ⟨cb, 10, none⟩ = some (.string (⟨#[]⟩ : ByteArray)) := (blk_cell E4.out.blk 10).trans rfl; have f10_x4w := blk_frozen E4.out.blk 10; have E4p := Aside0.mk (E4.out.put 10 (.string s10) (cs' := #[.int .i64 k0, .int .i64 k1, .int .i64 k2, .int .i64 k3, .slice A4 q4 c4, .slice A5 q5 c5, .slice A6 q6 c6, .int .i64 k7, .int .i64 k8, .int .i64 k9, .string s10, .int .i64 0, .slice none 0 0]) rfl))) | (go_at_call 47; go_loud (refine (cmd_Get.num u2 br _ E2.out.at_ _ _ P3.out).mono ?_; rintro e x3w ⟨rfl, ha, hk⟩; have E3 := Aside0.mk (E2.out.call ha hk); clear ha hk; have c7_x3w : x3w.cell? ⟨cb, 7, none⟩ = some (.int .i64 0) := (blk_cell E3.out.blk 7).trans rfl; have f7_x3w := blk_frozen E3.out.blk 7; have c8_x3w : x3w.cell? ⟨cb, 8, none⟩ = some (.int .i64 0) := (blk_cell E3.out.blk 8).trans rfl; have f8_x3w := blk_frozen E3.out.blk 8; have c9_x3w : x3w.cell? ⟨cb, 9, none⟩ = some (.int .i64 0) := (blk_cell E3.out.blk 9).trans rfl; have f9_x3w := blk_frozen E3.out.blk 9; have E3p := Aside0.mk (((E3.out.put 7 (.int .i64 k7) (cs' := #[.int .i64 k0, .int .i64 k1, .int .i64 k2, .int .i64 k3, .slice A4 q4 c4, .slice A5 q5 c5, .slice A6 q6 c6, .int .i64 k7, .int .i64 0, .int .i64 0, .string (⟨#[]⟩ : ByteArray), .int .i64 0, .slice none 0 0]) rfl).put 8 (.int .i64 k8) (cs' := #[.int .i64 k0, .int .i64 k1, .int .i64 k2, .int .i64 k3, .slice A4 q4 c4, .slice A5 q5 c5, .slice A6 q6 c6, .int .i64 k7, .int .i64 k8, .int .i64 0, .string (⟨#[]⟩ : ByteArray), .int .i64 0, .slice none 0 0]) rfl).put 9 (.int .i64 k9) (cs' := #[.int .i64 k0, .int .i64 k1, .int .i64 k2, .int .i64 k3, .slice A4 q4 c4, .slice A5 q5 c5, .slice A6 q6 c6, .int .i64 k7, .int .i64 k8, .int .i64 k9, .string (⟨#[]⟩ : ByteArray), .int .i64 0, .slice none 0 0]) rfl))) | (go_at_call 47; go_loud (refine (cmd_Get.num u1 br _ E1.out.at_ _ _ P2.out).mono ?_; rintro e x2w ⟨rfl, ha, hk⟩; have E2 := Aside0.mk (E1.out.call ha hk); clear ha hk)) | (go_at_call 47; go_loud (refine (cmd_Get.num u br _ HS.out.at_ _ _ P1.out).mono ?_; rintro e x1w ⟨rfl, ha, hk⟩; have E1 := Aside0.mk (HS.out.call ha hk); clear ha hk)))
        exact ⟨rfl, ⟨_, _, rfl⟩, HK9.out⟩
       | some x6 =>
       obtain ⟨rows, u6⟩ := x6
       have hR : RES = some (⟨k0, k1, k2, k3, l4, l5, l6, k7, k8, k9, s10, k11, rows⟩, u6) := by rw [← HE.out]; unfold cmd_Get.K6; rw [h1, Option.bind_some, h2, Option.bind_some, h3, Option.bind_some, h4, Option.bind_some, h5, Option.bind_some, h6]; rfl
       have P1 := Aside0.mk h1
       have P2 := Aside0.mk h2
       have P3 := Aside0.mk h3
       have P4 := Aside0.mk h4
       have P5 := Aside0.mk h5
       have P6 := Aside0.mk h6
       clear h1 h2 h3 h4 h5 h6
       subst hR
       go_wp2_with (first | (go_at_call 50; go_loud (refine (cmd_Get.rows u5 br _ E5p.out.at_ HZR.out _ P6.out).mono ?_; rintro e x6w ⟨⟨v12, rfl, hr⟩, ha, hk⟩; have E6 := Aside0.mk (E5p.out.call ha hk); have HR12 := Aside0.mk (Kd.R_lower hr E5p.out.kq.size); clear ha hk hr; obtain ⟨A12, m12, c12, rfl⟩ : ∃ A m c, v12 = .slice A m c := (by obtain ⟨A, c, h⟩ := Kd.R_slice HR12.out; exact ⟨A, _, c, h⟩); have c12_x6w : x6w.cell? ⟨cb, 12, none⟩ = some (.slice none 0 0) := (blk_cell E6.out.blk 12).trans rfl; have f12_x6w := blk_frozen E6.out.blk 12; have E6p := Aside0.mk (E6.out.put 12 (.slice A12 m12 c12) (cs' := #[.int .i64 k0, .int .i64 k1, .int .i64 k2, .int .i64 k3, .slice A4 q4 c4, .slice A5 q5 c5, .slice A6 q6 c6, .int .i64 k7, .int .i64 k8, .int .i64 k9, .string s10, .int .i64 k11, .slice A12 m12 c12]) rfl); have o0 : (x6w.setCell ⟨cb, 12, none⟩ (.slice A12 m12 c12)).cell? ⟨cb, 0, none⟩ = some (.int .i64 k0) := (blk_cell E6p.out.blk 0).trans rfl; have r0 : (x6w.setCell ⟨cb, 12, none⟩ (.slice A12 m12 c12)).cell? ⟨rb, 0, none⟩ = some (.int .i64 0) := (blk_cell E6p.out.rblk 0).trans rfl; have z0 := blk_frozen E6p.out.rblk 0; have o1 : (x6w.setCell ⟨cb, 12, none⟩ (.slice A12 m12 c12)).cell? ⟨cb, 1, none⟩ = some (.int .i64 k1) := (blk_cell E6p.out.blk 1).trans rfl; have r1 : (x6w.setCell ⟨cb, 12, none⟩ (.slice A12 m12 c12)).cell? ⟨rb, 1, none⟩ = some (.int .i64 0) := (blk_cell E6p.out.rblk 1).trans rfl; have z1 := blk_frozen E6p.out.rblk 1; have o2 : (x6w.setCell ⟨cb, 12, none⟩ (.slice A12 m12 c12)).cell? ⟨cb, 2, none⟩ = some (.int .i64 k2) := (blk_cell E6p.out.blk 2).trans rfl; have r2 : (x6w.setCell ⟨cb, 12, none⟩ (.slice A12 m12 c12)).cell? ⟨rb, 2, none⟩ = some (.int .i64 0) := (blk_cell E6p.out.rblk 2).trans rfl; have z2 := blk_frozen E6p.out.rblk 2; have o3 : (x6w.setCell ⟨cb, 12, none⟩ (.slice A12 m12 c12)).cell? ⟨cb, 3, none⟩ = some (.int .i64 k3) := (blk_cell E6p.out.blk 3).trans rfl; have r3 : (x6w.setCell ⟨cb, 12, none⟩ (.slice A12 m12 c12)).cell? ⟨rb, 3, none⟩ = some (.int .i64 0) := (blk_cell E6p.out.rblk 3).trans rfl; have z3 := blk_frozen E6p.out.rblk 3; have o4 : (x6w.setCell ⟨cb, 12, none⟩ (.slice A12 m12 c12)).cell? ⟨cb, 4, none⟩ = some (.slice A4 q4 c4) := (blk_cell E6p.out.blk 4).trans rfl; have r4 : (x6w.setCell ⟨cb, 12, none⟩ (.slice A12 m12 c12)).cell? ⟨rb, 4, none⟩ = some (.slice none 0 0) := (blk_cell E6p.out.rblk 4).trans rfl; have z4 := blk_frozen E6p.out.rblk 4; have o5 : (x6w.setCell ⟨cb, 12, none⟩ (.slice A12 m12 c12)).cell? ⟨cb, 5, none⟩ = some (.slice A5 q5 c5) := (blk_cell E6p.out.blk 5).trans rfl; have r5 : (x6w.setCell ⟨cb, 12, none⟩ (.slice A12 m12 c12)).cell? ⟨rb, 5, none⟩ = some (.slice none 0 0) := (blk_cell E6p.out.rblk 5).trans rfl; have z5 := blk_frozen E6p.out.rblk 5; have o6 : (x6w.setCell ⟨cb, 12, none⟩ (.slice A12 m12 c12)).cell? ⟨cb, 6, none⟩ = some (.slice A6 q6 c6) := (blk_cell E6p.out.blk 6).trans rfl; have r6 : (x6w.setCell ⟨cb, 12, none⟩ (.slice A12 m12 c12)).cell? ⟨rb, 6, none⟩ = some (.slice none 0 0) := (blk_cell E6p.out.rblk 6).trans rfl; have z6 := blk_frozen E6p.out.rblk 6; have o7 : (x6w.setCell ⟨cb, 12, none⟩ (.slice A12 m12 c12)).cell? ⟨cb, 7, none⟩ = some (.int .i64 k7) := (blk_cell E6p.out.blk 7).trans rfl; have r7 : (x6w.setCell ⟨cb, 12, none⟩ (.slice A12 m12 c12)).cell? ⟨rb, 7, none⟩ = some (.int .i64 0) := (blk_cell E6p.out.rblk 7).trans rfl; have z7 := blk_frozen E6p.out.rblk 7; have o8 : (x6w.setCell ⟨cb, 12, none⟩ (.slice A12 m12 c12)).cell? ⟨cb, 8, none⟩ = some (.int .i64 k8) := (blk_cell E6p.out.blk 8).trans rfl; have r8 : (x6w.setCell ⟨cb, 12, none⟩ (.slice A12 m12 c12)).cell? ⟨rb, 8, none⟩ = some (.int .i64 0) := (blk_cell E6p.out.rblk 8).trans rfl; have z8 := blk_frozen E6p.out.rblk 8; have o9 : (x6w.setCell ⟨cb, 12, none⟩ (.slice A12 m12 c12)).cell? ⟨cb, 9, none⟩ = some (.int .i64 k9) := (blk_cell E6p.out.blk 9).trans rfl; have r9 : (x6w.setCell ⟨cb, 12, none⟩ (.slice A12 m12 c12)).cell? ⟨rb, 9, none⟩ = some (.int .i64 0) := (blk_cell E6p.out.rblk 9).trans rfl; have z9 := blk_frozen E6p.out.rblk 9; have o10 : (x6w.setCell ⟨cb, 12, none⟩ (.slice A12 m12 c12)).cell? ⟨cb, 10, none⟩ = some (.string s10) := (blk_cell E6p.out.blk 10).trans rfl; have r10 : (x6w.setCell ⟨cb, 12, none⟩ (.slice A12 m12 c12)).cell? ⟨rb, 10, none⟩ = some (.string (⟨#[]⟩ : ByteArray)) := (blk_cell E6p.out.rblk 10).trans rfl; have z10 := blk_frozen E6p.out.rblk 10; have o11 : (x6w.setCell ⟨cb, 12, none⟩ (.slice A12 m12 c12)).cell? ⟨cb, 11, none⟩ = some (.int .i64 k11) := (blk_cell E6p.out.blk 11).trans rfl; have r11 : (x6w.setCell ⟨cb, 12, none⟩ (.slice A12 m12 c12)).cell? ⟨rb, 11, none⟩ = some (.int .i64 0) := (blk_cell E6p.out.rblk 11).trans rfl; have z11 := blk_frozen E6p.out.rblk 11; have o12 : (x6w.setCell ⟨cb, 12, none⟩ (.slice A12 m12 c12)).cell? ⟨cb, 12, none⟩ = some (.slice A12 m12 c12) := (blk_cell E6p.out.blk 12).trans rfl; have r12 : (x6w.setCell ⟨cb, 12, none⟩ (.slice A12 m12 c12)).cell? ⟨rb, 12, none⟩ = some (.slice none 0 0) := (blk_cell E6p.out.rblk 12).trans rfl; have z12 := blk_frozen E6p.out.rblk 12)) | (go_at_call 47; go_loud (refine (cmd_Get.num u4 br _ E4p.out.at_ _ _ P5.out).mono ?_; rintro e x5w ⟨rfl, ha, hk⟩; have E5 := Aside0.mk (E4p.out.call ha hk); clear ha hk; have c11_x5w : x5w.cell? ⟨cb, 11, none⟩ = some (.int .i64 0) := (blk_cell E5.out.blk 11).trans rfl; have f11_x5w := blk_frozen E5.out.blk 11; have E5p := Aside0.mk (E5.out.put 11 (.int .i64 k11) (cs' := #[.int .i64 k0, .int .i64 k1, .int .i64 k2, .int .i64 k3, .slice A4 q4 c4, .slice A5 q5 c5, .slice A6 q6 c6, .int .i64 k7, .int .i64 k8, .int .i64 k9, .string s10, .int .i64 k11, .slice none 0 0]) rfl))) | (go_at_call 49; go_loud (refine (cmd_Get.text u3 br _ E3p.out.at_ _ _ P4.out).mono ?_; rintro e x4w ⟨rfl, ha, hk⟩; have E4 := Aside0.mk (E3p.out.call ha hk); clear ha hk; have c10_x4w : x4w.cell? ⟨cb, 10, none⟩ = some (.string (⟨#[]⟩ : ByteArray)) := (blk_cell E4.out.blk 10).trans rfl; have f10_x4w := blk_frozen E4.out.blk 10; have E4p := Aside0.mk (E4.out.put 10 (.string s10) (cs' := #[.int .i64 k0, .int .i64 k1, .int .i64 k2, .int .i64 k3, .slice A4 q4 c4, .slice A5 q5 c5, .slice A6 q6 c6, .int .i64 k7, .int .i64 k8, .int .i64 k9, .string s10, .int .i64 0, .slice none 0 0]) rfl))) | (go_at_call 47; go_loud (refine (cmd_Get.num u2 br _ E2.out.at_ _ _ P3.out).mono ?_; rintro e x3w ⟨rfl, ha, hk⟩; have E3 := Aside0.mk (E2.out.call ha hk); clear ha hk; have c7_x3w : x3w.cell? ⟨cb, 7, none⟩ = some (.int .i64 0) := (blk_cell E3.out.blk 7).trans rfl; have f7_x3w := blk_frozen E3.out.blk 7; have c8_x3w : x3w.cell? ⟨cb, 8, none⟩ = some (.int .i64 0) := (blk_cell E3.out.blk 8).trans rfl; have f8_x3w := blk_frozen E3.out.blk 8; have c9_x3w : x3w.cell? ⟨cb, 9, none⟩ = some (.int .i64 0) := (blk_cell E3.out.blk 9).trans rfl; have f9_x3w := blk_frozen E3.out.blk 9; have E3p := Aside0.mk (((E3.out.put 7 (.int .i64 k7) (cs' := #[.int .i64 k0, .int .i64 k1, .int .i64 k2, .int .i64 k3, .slice A4 q4 c4, .slice A5 q5 c5, .slice A6 q6 c6, .int .i64 k7, .int .i64 0, .int .i64 0, .string (⟨#[]⟩ : ByteArray), .int .i64 0, .slice none 0 0]) rfl).put 8 (.int .i64 k8) (cs' := #[.int .i64 k0, .int .i64 k1, .int .i64 k2, .int .i64 k3, .slice A4 q4 c4, .slice A5 q5 c5, .slice A6 q6 c6, .int .i64 k7, .int .i64 k8, .int .i64 0, .string (⟨#[]⟩ : ByteArray), .int .i64 0, .slice none 0 0]) rfl).put 9 (.int .i64 k9) (cs' := #[.int .i64 k0, .int .i64 k1, .int .i64 k2, .int .i64 k3, .slice A4 q4 c4, .slice A5 q5 c5, .slice A6 q6 c6, .int .i64 k7, .int .i64 k8, .int .i64 k9, .string (⟨#[]⟩ : ByteArray), .int .i64 0, .slice none 0 0]) rfl))) | (go_at_call 47; go_loud (refine (cmd_Get.num u1 br _ E1.out.at_ _ _ P2.out).mono ?_; rintro e x2w ⟨rfl, ha, hk⟩; have E2 := Aside0.mk (E1.out.call ha hk); clear ha hk)) | (go_at_call 47; go_loud (refine (cmd_Get.num u br _ HS.out.at_ _ _ P1.out).mono ?_; rintro e x1w ⟨rfl, ha, hk⟩; have E1 := Aside0.mk (HS.out.call ha hk); clear ha hk)))
       have hout := cmd_Get.out13 E6p.out.rblk (.int .i64 k0) (.int .i64 k1) (.int .i64 k2) (.int .i64 k3) (.slice A4 q4 c4) (.slice A5 q5 c5) (.slice A6 q6 c6) (.int .i64 k7) (.int .i64 k8) (.int .i64 k9) (.string s10) (.int .i64 k11) (.slice A12 m12 c12)
       have hkk : cmd_Get.Kq br w ((((((((((((((x6w.setCell ⟨cb, 12, none⟩ (.slice A12 m12 c12)).setCell ⟨rb, 0, none⟩ (.int .i64 k0)).setCell ⟨rb, 1, none⟩ (.int .i64 k1)).setCell ⟨rb, 2, none⟩ (.int .i64 k2)).setCell ⟨rb, 3, none⟩ (.int .i64 k3)).setCell ⟨rb, 4, none⟩ (.slice A4 q4 c4)).setCell ⟨rb, 5, none⟩ (.slice A5 q5 c5)).setCell ⟨rb, 6, none⟩ (.slice A6 q6 c6)).setCell ⟨rb, 7, none⟩ (.int .i64 k7)).setCell ⟨rb, 8, none⟩ (.int .i64 k8)).setCell ⟨rb, 9, none⟩ (.int .i64 k9)).setCell ⟨rb, 10, none⟩ (.string s10)).setCell ⟨rb, 11, none⟩ (.int .i64 k11)).setCell ⟨rb, 12, none⟩ (.slice A12 m12 c12)) := ((((((((((((((E6p.out.kq.put (i := 0) E6p.out.rge _).put (i := 1) E6p.out.rge _).put (i := 2) E6p.out.rge _).put (i := 3) E6p.out.rge _).put (i := 4) E6p.out.rge _).put (i := 5) E6p.out.rge _).put (i := 6) E6p.out.rge _).put (i := 7) E6p.out.rge _).put (i := 8) E6p.out.rge _).put (i := 9) E6p.out.rge _).put (i := 10) E6p.out.rge _).put (i := 11) E6p.out.rge _).put (i := 12) E6p.out.rge _))
       have haa : cmd_Get.At br ((((((((((((((x6w.setCell ⟨cb, 12, none⟩ (.slice A12 m12 c12)).setCell ⟨rb, 0, none⟩ (.int .i64 k0)).setCell ⟨rb, 1, none⟩ (.int .i64 k1)).setCell ⟨rb, 2, none⟩ (.int .i64 k2)).setCell ⟨rb, 3, none⟩ (.int .i64 k3)).setCell ⟨rb, 4, none⟩ (.slice A4 q4 c4)).setCell ⟨rb, 5, none⟩ (.slice A5 q5 c5)).setCell ⟨rb, 6, none⟩ (.slice A6 q6 c6)).setCell ⟨rb, 7, none⟩ (.int .i64 k7)).setCell ⟨rb, 8, none⟩ (.int .i64 k8)).setCell ⟨rb, 9, none⟩ (.int .i64 k9)).setCell ⟨rb, 10, none⟩ (.string s10)).setCell ⟨rb, 11, none⟩ (.int .i64 k11)).setCell ⟨rb, 12, none⟩ (.slice A12 m12 c12)) u6 := blk_far (blk_far (blk_far (blk_far (blk_far (blk_far (blk_far (blk_far (blk_far (blk_far (blk_far (blk_far (blk_far (E6p.out.at_) (Ne.symm (blk_ne E6p.out.rblk E6p.out.at_ (by decide))) _) (Ne.symm (blk_ne E6p.out.rblk E6p.out.at_ (by decide))) _) (Ne.symm (blk_ne E6p.out.rblk E6p.out.at_ (by decide))) _) (Ne.symm (blk_ne E6p.out.rblk E6p.out.at_ (by decide))) _) (Ne.symm (blk_ne E6p.out.rblk E6p.out.at_ (by decide))) _) (Ne.symm (blk_ne E6p.out.rblk E6p.out.at_ (by decide))) _) (Ne.symm (blk_ne E6p.out.rblk E6p.out.at_ (by decide))) _) (Ne.symm (blk_ne E6p.out.rblk E6p.out.at_ (by decide))) _) (Ne.symm (blk_ne E6p.out.rblk E6p.out.at_ (by decide))) _) (Ne.symm (blk_ne E6p.out.rblk E6p.out.at_ (by decide))) _) (Ne.symm (blk_ne E6p.out.rblk E6p.out.at_ (by decide))) _) (Ne.symm (blk_ne E6p.out.rblk E6p.out.at_ (by decide))) _) (Ne.symm (blk_ne E6p.out.rblk E6p.out.at_ (by decide))) _
       have r4f := cmd_Get.far13 E6p.out.r4 E6p.out.rblk (by decide) (.int .i64 k0) (.int .i64 k1) (.int .i64 k2) (.int .i64 k3) (.slice A4 q4 c4) (.slice A5 q5 c5) (.slice A6 q6 c6) (.int .i64 k7) (.int .i64 k8) (.int .i64 k9) (.string s10) (.int .i64 k11) (.slice A12 m12 c12)
       have r5f := cmd_Get.far13 E6p.out.r5 E6p.out.rblk (by decide) (.int .i64 k0) (.int .i64 k1) (.int .i64 k2) (.int .i64 k3) (.slice A4 q4 c4) (.slice A5 q5 c5) (.slice A6 q6 c6) (.int .i64 k7) (.int .i64 k8) (.int .i64 k9) (.string s10) (.int .i64 k11) (.slice A12 m12 c12)
       have r6f := cmd_Get.far13 E6p.out.r6 E6p.out.rblk (by decide) (.int .i64 k0) (.int .i64 k1) (.int .i64 k2) (.int .i64 k3) (.slice A4 q4 c4) (.slice A5 q5 c5) (.slice A6 q6 c6) (.int .i64 k7) (.int .i64 k8) (.int .i64 k9) (.string s10) (.int .i64 k11) (.slice A12 m12 c12)
       have r12f := cmd_Get.far13 (Kd.R_set HR12.out E6.out.blk (by decide) 12 (.slice A12 m12 c12)) E6p.out.rblk (by decide) (.int .i64 k0) (.int .i64 k1) (.int .i64 k2) (.int .i64 k3) (.slice A4 q4 c4) (.slice A5 q5 c5) (.slice A6 q6 c6) (.int .i64 k7) (.int .i64 k8) (.int .i64 k9) (.string s10) (.int .i64 k11) (.slice A12 m12 c12)
       obtain ⟨Wf, hW⟩ : ∃ W, ((((((((((((((x6w.setCell ⟨cb, 12, none⟩ (.slice A12 m12 c12)).setCell ⟨rb, 0, none⟩ (.int .i64 k0)).setCell ⟨rb, 1, none⟩ (.int .i64 k1)).setCell ⟨rb, 2, none⟩ (.int .i64 k2)).setCell ⟨rb, 3, none⟩ (.int .i64 k3)).setCell ⟨rb, 4, none⟩ (.slice A4 q4 c4)).setCell ⟨rb, 5, none⟩ (.slice A5 q5 c5)).setCell ⟨rb, 6, none⟩ (.slice A6 q6 c6)).setCell ⟨rb, 7, none⟩ (.int .i64 k7)).setCell ⟨rb, 8, none⟩ (.int .i64 k8)).setCell ⟨rb, 9, none⟩ (.int .i64 k9)).setCell ⟨rb, 10, none⟩ (.string s10)).setCell ⟨rb, 11, none⟩ (.int .i64 k11)).setCell ⟨rb, 12, none⟩ (.slice A12 m12 c12)) = W := ⟨_, rfl⟩
       rw [hW] at hout hkk haa r4f r5f r6f r12f
       rw [hW]
       clear hW
       have b0 : Wf.cell? ⟨rb, 0, none⟩ = some (.int .i64 k0) := (blk_cell hout 0).trans rfl
       have b1 : Wf.cell? ⟨rb, 1, none⟩ = some (.int .i64 k1) := (blk_cell hout 1).trans rfl
       have b2 : Wf.cell? ⟨rb, 2, none⟩ = some (.int .i64 k2) := (blk_cell hout 2).trans rfl
       have b3 : Wf.cell? ⟨rb, 3, none⟩ = some (.int .i64 k3) := (blk_cell hout 3).trans rfl
       have b4 : Wf.cell? ⟨rb, 4, none⟩ = some (.slice A4 q4 c4) := (blk_cell hout 4).trans rfl
       have b5 : Wf.cell? ⟨rb, 5, none⟩ = some (.slice A5 q5 c5) := (blk_cell hout 5).trans rfl
       have b6 : Wf.cell? ⟨rb, 6, none⟩ = some (.slice A6 q6 c6) := (blk_cell hout 6).trans rfl
       have b7 : Wf.cell? ⟨rb, 7, none⟩ = some (.int .i64 k7) := (blk_cell hout 7).trans rfl
       have b8 : Wf.cell? ⟨rb, 8, none⟩ = some (.int .i64 k8) := (blk_cell hout 8).trans rfl
       have b9 : Wf.cell? ⟨rb, 9, none⟩ = some (.int .i64 k9) := (blk_cell hout 9).trans rfl
       have b10 : Wf.cell? ⟨rb, 10, none⟩ = some (.string s10) := (blk_cell hout 10).trans rfl
       have b11 : Wf.cell? ⟨rb, 11, none⟩ = some (.int .i64 k11) := (blk_cell hout 11).trans rfl
       have b12 : Wf.cell? ⟨rb, 12, none⟩ = some (.slice A12 m12 c12) := (blk_cell hout 12).trans rfl
       refine bodyPost_ret (v := .agg #[.int .i64 k0, .int .i64 k1, .int .i64 k2, .int .i64 k3, .slice A4 q4 c4, .slice A5 q5 c5, .slice A6 q6 c6, .int .i64 k7, .int .i64 k8, .int .i64 k9, .string s10, .int .i64 k11, .slice A12 m12 c12]) ?_ rfl ⟨⟨_, rfl, _, _, _, _, rfl, r4f, r5f, r6f, r12f⟩, haa, hkk⟩
       simp [results, Try.results33, go_sem, b0, b1, b2, b3, b4, b5, b6, b7, b8, b9, b10, b11, b12]
/-- The command without anything, in a block. -/
def cmd_Get.zw (g : Nat) (W : World) : World := (((((((((((((W.setCell ⟨g, 0, none⟩ (.int .i64 0)).setCell ⟨g, 1, none⟩ (.int .i64 0)).setCell ⟨g, 2, none⟩ (.int .i64 0)).setCell ⟨g, 3, none⟩ (.int .i64 0)).setCell ⟨g, 4, none⟩ (.slice none 0 0)).setCell ⟨g, 5, none⟩ (.slice none 0 0)).setCell ⟨g, 6, none⟩ (.slice none 0 0)).setCell ⟨g, 7, none⟩ (.int .i64 0)).setCell ⟨g, 8, none⟩ (.int .i64 0)).setCell ⟨g, 9, none⟩ (.int .i64 0)).setCell ⟨g, 10, none⟩ (.string (⟨#[]⟩ : ByteArray))).setCell ⟨g, 11, none⟩ (.int .i64 0)).setCell ⟨g, 12, none⟩ (.slice none 0 0))
theorem cmd_Get.zw_blk {W : World} {g : Nat} {a0 a1 a2 a3 a4 a5 a6 a7 a8 a9 a10 a11 a12 : Value} (h : W.heap[g]? = some (.cells #[a0, a1, a2, a3, a4, a5, a6, a7, a8, a9, a10, a11, a12] 27 (0, 0))) : (cmd_Get.zw g W).heap[g]? = some (.cells #[.int .i64 0, .int .i64 0, .int .i64 0, .int .i64 0, .slice none 0 0, .slice none 0 0, .slice none 0 0, .int .i64 0, .int .i64 0, .int .i64 0, .string (⟨#[]⟩ : ByteArray), .int .i64 0, .slice none 0 0] 27 (0, 0)) := cmd_Get.out13 h (.int .i64 0) (.int .i64 0) (.int .i64 0) (.int .i64 0) (.slice none 0 0) (.slice none 0 0) (.slice none 0 0) (.int .i64 0) (.int .i64 0) (.int .i64 0) (.string (⟨#[]⟩ : ByteArray)) (.int .i64 0) (.slice none 0 0)
theorem cmd_Get.zw_far {W : World} {g k t : Nat} {cells : Array Value} (h : W.heap[k]? = some (.cells cells t (0, 0))) (hne : k ≠ g) : (cmd_Get.zw g W).heap[k]? = some (.cells cells t (0, 0)) := by
 unfold cmd_Get.zw
 replace h := blk_far (p := ⟨g, 0, none⟩) h hne (.int .i64 0); replace h := blk_far (p := ⟨g, 1, none⟩) h hne (.int .i64 0); replace h := blk_far (p := ⟨g, 2, none⟩) h hne (.int .i64 0); replace h := blk_far (p := ⟨g, 3, none⟩) h hne (.int .i64 0); replace h := blk_far (p := ⟨g, 4, none⟩) h hne (.slice none 0 0); replace h := blk_far (p := ⟨g, 5, none⟩) h hne (.slice none 0 0); replace h := blk_far (p := ⟨g, 6, none⟩) h hne (.slice none 0 0); replace h := blk_far (p := ⟨g, 7, none⟩) h hne (.int .i64 0); replace h := blk_far (p := ⟨g, 8, none⟩) h hne (.int .i64 0); replace h := blk_far (p := ⟨g, 9, none⟩) h hne (.int .i64 0); replace h := blk_far (p := ⟨g, 10, none⟩) h hne (.string (⟨#[]⟩ : ByteArray)); replace h := blk_far (p := ⟨g, 11, none⟩) h hne (.int .i64 0); replace h := blk_far (p := ⟨g, 12, none⟩) h hne (.slice none 0 0)
 exact h
theorem cmd_Get.zw_below {w W : World} {g : Nat} (h : Below w.heap.size w W) (hg : w.heap.size ≤ g) : Below w.heap.size w (cmd_Get.zw g W) := below_set (below_set (below_set (below_set (below_set (below_set (below_set (below_set (below_set (below_set (below_set (below_set (below_set h hg) hg) hg) hg) hg) hg) hg) hg) hg) hg) hg) hg) hg
set_option maxHeartbeats 4000000 in
set_option maxRecDepth 100000 in
theorem cmd_Get.catch_panicking (B B2 : Nat) (u : TypeId) (pv : Value) (older : List PanicEntry) (W : World) (a0 a1 a2 a3 a4 a5 a6 a7 a8 a9 a10 a11 a12 : Value) (y : Int) (c1 : W.heap[B]? = some (.cells #[a0, a1, a2, a3, a4, a5, a6, a7, a8, a9, a10, a11, a12] 27 (0, 0))) (c2 : W.heap[B2]? = some (.cells #[.int .i64 y] 30 (0, 0))) (hne : B2 ≠ B) :
  CallsD Try.prog 32 #[.pointer (some ⟨B, 0, none⟩), .pointer (some ⟨B2, 0, none⟩)] (.panicking ({ v := .iface u pv, recovered := false } :: older)) W fun e u' w' =>
   e = .returned (.tuple #[]) ∧ u' = .panicking ({ v := .iface u pv, recovered := true } :: older) ∧ w' = (cmd_Get.zw B W).setCell ⟨B2, 0, none⟩ (.int .i64 3) := by
 have hu27 := Try.underlying27
 refine callsD_of_wpS Try.func32 rfl fun c₀ cs hu => ?_
 apply wpS_seq
 apply wpS_region
 simp [wpOpsS, go_sem, recoverD, hu, Try.ntmps32, Exit.thenS]
 refine wpS_cond (t := true) (by simp [Act.eval, Array.replicate]) ?_
 simp only [if_true]
 apply wpS_region
 have k0 : W.cell? ⟨B, 0, none⟩ = some a0 := (blk_cell c1 0).trans rfl
 have f0 := blk_frozen c1 0
 have k1 : W.cell? ⟨B, 1, none⟩ = some a1 := (blk_cell c1 1).trans rfl
 have f1 := blk_frozen c1 1
 have k2 : W.cell? ⟨B, 2, none⟩ = some a2 := (blk_cell c1 2).trans rfl
 have f2 := blk_frozen c1 2
 have k3 : W.cell? ⟨B, 3, none⟩ = some a3 := (blk_cell c1 3).trans rfl
 have f3 := blk_frozen c1 3
 have k4 : W.cell? ⟨B, 4, none⟩ = some a4 := (blk_cell c1 4).trans rfl
 have f4 := blk_frozen c1 4
 have k5 : W.cell? ⟨B, 5, none⟩ = some a5 := (blk_cell c1 5).trans rfl
 have f5 := blk_frozen c1 5
 have k6 : W.cell? ⟨B, 6, none⟩ = some a6 := (blk_cell c1 6).trans rfl
 have f6 := blk_frozen c1 6
 have k7 : W.cell? ⟨B, 7, none⟩ = some a7 := (blk_cell c1 7).trans rfl
 have f7 := blk_frozen c1 7
 have k8 : W.cell? ⟨B, 8, none⟩ = some a8 := (blk_cell c1 8).trans rfl
 have f8 := blk_frozen c1 8
 have k9 : W.cell? ⟨B, 9, none⟩ = some a9 := (blk_cell c1 9).trans rfl
 have f9 := blk_frozen c1 9
 have k10 : W.cell? ⟨B, 10, none⟩ = some a10 := (blk_cell c1 10).trans rfl
 have f10 := blk_frozen c1 10
 have k11 : W.cell? ⟨B, 11, none⟩ = some a11 := (blk_cell c1 11).trans rfl
 have f11 := blk_frozen c1 11
 have k12 : W.cell? ⟨B, 12, none⟩ = some a12 := (blk_cell c1 12).trans rfl
 have f12 := blk_frozen c1 12
 have h3 : (cmd_Get.zw B W).cell? ⟨B2, 0, none⟩ = some (.int .i64 y) := (blk_cell (cmd_Get.zw_far c2 hne) 0).trans rfl
 have h4 := blk_frozen (cmd_Get.zw_far c2 hne) 0
 unfold cmd_Get.zw at h3 h4 ⊢
 simp [wpOpsS, go_sem, k0, f0, k1, f1, k2, f2, k3, f3, k4, f4, k5, f5, k6, f6, k7, f7, k8, f8, k9, f9, k10, f10, k11, f11, k12, f12, h3, h4, bodyPostS, results, Try.results32]
theorem cmd_Get.catch_idle (p q : Addr) (w : World) :
  CallsD Try.prog 32 #[.pointer (some p), .pointer (some q)] .returning w fun e u' w' => e = .returned (.tuple #[]) ∧ u' = .returning ∧ w' = w := by
 refine callsD_of_wpS Try.func32 rfl fun c₀ cs hu => ?_
 apply wpS_seq
 apply wpS_region
 simp [wpOpsS, go_sem, recoverD, hu, Try.ntmps32, Exit.thenS]
 refine wpS_cond (t := false) (by simp [Act.eval, Array.replicate]) ?_
 simp only [Bool.false_eq_true, if_false]
 refine wpS_of_wp (wp_skip ?_)
 cases c₀
 simp_all [bodyPostS, results, Try.results32]
set_option maxHeartbeats 4000000 in
set_option maxRecDepth 100000 in
theorem cmd_Get.read {tmps : Array Value} {W : World} {B B2 : Nat} {a0 a1 a2 a3 a4 a5 a6 a7 a8 a9 a10 a11 a12 : Value} {y : Int} (h2 : tmps[2]? = some (.pointer (some ⟨B, 0, none⟩))) (h3 : tmps[3]? = some (.pointer (some ⟨B2, 0, none⟩)))
  (c1 : W.heap[B]? = some (.cells #[a0, a1, a2, a3, a4, a5, a6, a7, a8, a9, a10, a11, a12] 27 (0, 0))) (c2 : W.heap[B2]? = some (.cells #[.int .i64 y] 30 (0, 0))) : (results Try.f15 tmps).run Try.prog W = .ok (.tuple #[.agg #[a0, a1, a2, a3, a4, a5, a6, a7, a8, a9, a10, a11, a12], .int .i64 y]) W := by
 have z0 : W.cell? ⟨B, 0, none⟩ = some a0 := (blk_cell c1 0).trans rfl
 have z1 : W.cell? ⟨B, 1, none⟩ = some a1 := (blk_cell c1 1).trans rfl
 have z2 : W.cell? ⟨B, 2, none⟩ = some a2 := (blk_cell c1 2).trans rfl
 have z3 : W.cell? ⟨B, 3, none⟩ = some a3 := (blk_cell c1 3).trans rfl
 have z4 : W.cell? ⟨B, 4, none⟩ = some a4 := (blk_cell c1 4).trans rfl
 have z5 : W.cell? ⟨B, 5, none⟩ = some a5 := (blk_cell c1 5).trans rfl
 have z6 : W.cell? ⟨B, 6, none⟩ = some a6 := (blk_cell c1 6).trans rfl
 have z7 : W.cell? ⟨B, 7, none⟩ = some a7 := (blk_cell c1 7).trans rfl
 have z8 : W.cell? ⟨B, 8, none⟩ = some a8 := (blk_cell c1 8).trans rfl
 have z9 : W.cell? ⟨B, 9, none⟩ = some a9 := (blk_cell c1 9).trans rfl
 have z10 : W.cell? ⟨B, 10, none⟩ = some a10 := (blk_cell c1 10).trans rfl
 have z11 : W.cell? ⟨B, 11, none⟩ = some a11 := (blk_cell c1 11).trans rfl
 have z12 : W.cell? ⟨B, 12, none⟩ = some a12 := (blk_cell c1 12).trans rfl
 have y0 : W.cell? ⟨B2, 0, none⟩ = some (.int .i64 y) := (blk_cell c2 0).trans rfl
 obtain ⟨l2, e2⟩ := Array.getElem?_eq_some_iff.1 h2
 obtain ⟨l3, e3⟩ := Array.getElem?_eq_some_iff.1 h3
 simp [results, Try.results15, go_sem, z0, z1, z2, z3, z4, z5, z6, z7, z8, z9, z10, z11, z12, y0, h2, h3]
theorem cmd_Get.door {tmps : Array Value} {ds : List Deferred} {W : World} {B B2 : Nat} {a0 a1 a2 a3 a4 a5 a6 a7 a8 a9 a10 a11 a12 : Value} {y : Int} {R : Ending → World → Prop} (h2 : tmps[2]? = some (.pointer (some ⟨B, 0, none⟩))) (h3 : tmps[3]? = some (.pointer (some ⟨B2, 0, none⟩)))
  (hd : ds = [{ target := .fn (.func 32) #[.pointer (some ⟨B, 0, none⟩), .pointer (some ⟨B2, 0, none⟩)], args := #[] }])
  (c1 : W.heap[B]? = some (.cells #[a0, a1, a2, a3, a4, a5, a6, a7, a8, a9, a10, a11, a12] 27 (0, 0))) (c2 : W.heap[B2]? = some (.cells #[.int .i64 y] 30 (0, 0))) (h : R (.returned (.tuple #[.agg #[a0, a1, a2, a3, a4, a5, a6, a7, a8, a9, a10, a11, a12], .int .i64 y])) W) :
  bodyPostD Try.prog Try.f15 R Exit.ret { tmps := tmps, defers := ds } W := by
 subst hd
 refine leaves_cons (f := 32) (args := #[.pointer (some ⟨B, 0, none⟩), .pointer (some ⟨B2, 0, none⟩)]) (by simp) (by simp [go_sem]) ?_
 refine (cmd_Get.catch_idle _ _ _).mono ?_
 rintro e u' w'' ⟨rfl, rfl, rfl⟩
 exact ⟨_, cmd_Get.read h2 h3 c1 c2, h⟩
theorem cmd_Get.door0 {tmps : Array Value} {W : World} {B B2 : Nat} {a0 a1 a2 a3 a4 a5 a6 a7 a8 a9 a10 a11 a12 : Value} {y : Int} {R : Ending → World → Prop} (h2 : tmps[2]? = some (.pointer (some ⟨B, 0, none⟩))) (h3 : tmps[3]? = some (.pointer (some ⟨B2, 0, none⟩)))
  (c1 : W.heap[B]? = some (.cells #[a0, a1, a2, a3, a4, a5, a6, a7, a8, a9, a10, a11, a12] 27 (0, 0))) (c2 : W.heap[B2]? = some (.cells #[.int .i64 y] 30 (0, 0))) (h : R (.returned (.tuple #[.agg #[a0, a1, a2, a3, a4, a5, a6, a7, a8, a9, a10, a11, a12], .int .i64 y])) W) :
  bodyPostD Try.prog Try.f15 R Exit.ret { tmps := tmps, defers := [] } W := ⟨_, cmd_Get.read h2 h3 c1 c2, h⟩
theorem cmd_Get.buried {tmps : Array Value} {ds : List Deferred} {W : World} {B B2 : Nat} {a0 a1 a2 a3 a4 a5 a6 a7 a8 a9 a10 a11 a12 : Value} {y : Int} {u : TypeId} {pv : Value} {R : Ending → World → Prop} (h2 : tmps[2]? = some (.pointer (some ⟨B, 0, none⟩))) (h3 : tmps[3]? = some (.pointer (some ⟨B2, 0, none⟩)))
  (hd : ds = [{ target := .fn (.func 32) #[.pointer (some ⟨B, 0, none⟩), .pointer (some ⟨B2, 0, none⟩)], args := #[] }])
  (c1 : W.heap[B]? = some (.cells #[a0, a1, a2, a3, a4, a5, a6, a7, a8, a9, a10, a11, a12] 27 (0, 0))) (c2 : W.heap[B2]? = some (.cells #[.int .i64 y] 30 (0, 0))) (hne : B2 ≠ B) (h : R (.returned (.tuple #[.agg #[.int .i64 0, .int .i64 0, .int .i64 0, .int .i64 0, .slice none 0 0, .slice none 0 0, .slice none 0 0, .int .i64 0, .int .i64 0, .int .i64 0, .string (⟨#[]⟩ : ByteArray), .int .i64 0, .slice none 0 0], .int .i64 3])) ((cmd_Get.zw B W).setCell ⟨B2, 0, none⟩ (.int .i64 3))) :
  bodyPostD Try.prog Try.f15 R (.panic [{ v := .iface u pv, recovered := false }]) { tmps := tmps, defers := ds } W := by
 subst hd
 refine leaves_cons (f := 32) (args := #[.pointer (some ⟨B, 0, none⟩), .pointer (some ⟨B2, 0, none⟩)]) (by simp) (by simp [go_sem]) ?_
 refine (cmd_Get.catch_panicking B B2 _ _ [] _ _ _ _ _ _ _ _ _ _ _ _ _ _ y c1 c2 hne).mono ?_
 rintro e u' w'' ⟨rfl, rfl, rfl⟩
 exact ⟨_, cmd_Get.read h2 h3 (blk_far (cmd_Get.zw_blk c1) (Ne.symm hne) _) (blk_set (cmd_Get.zw_far c2 hne) 0 _), h⟩
def cmd_Get.c0 : cmd_Get.Cm := ⟨0, 0, 0, 0, [], [], [], 0, 0, 0, ⟨#[]⟩, 0, []⟩
def cmd_Get.f (k : Nat) (s : ByteArray) : Option (cmd_Get.Cm × Int) :=
 (seal_Get.f k s).bind fun b => if b.2 = 0 then (if b.1.size ≤ 1000000 then (match cmd_Get.pCmd b.1 with
  | none => some (cmd_Get.c0, 3)
  | some x => (cmd_Put.f k x.1.a0 x.1.a1 x.1.a2 x.1.a3 x.1.l4 x.1.l5 x.1.l6 x.1.a7 x.1.a8 x.1.a9 x.1.a10 x.1.a11 x.1.l12).bind fun p => if p.2 = 0 then (if p.1.toList = s.toList then some (x.1, 0) else some (cmd_Get.c0, 3)) else some (cmd_Get.c0, 3)) else none) else some (cmd_Get.c0, b.2)
theorem cmd_Get.RetC.nil (B : Nat) (W : World) : cmd_Get.RetC B W cmd_Get.c0 (.agg #[.int .i64 0, .int .i64 0, .int .i64 0, .int .i64 0, .slice none 0 0, .slice none 0 0, .slice none 0 0, .int .i64 0, .int .i64 0, .int .i64 0, .string (⟨#[]⟩ : ByteArray), .int .i64 0, .slice none 0 0]) := ⟨_, _, _, _, rfl, Kd.R_nil _ _ _ _ _, Kd.R_nil _ _ _ _ _, Kd.R_nil _ _ _ _ _, Kd.R_nil _ _ _ _ _⟩
/-- While Get runs: its results' two blocks. -/
structure cmd_Get.Gt (B B2 : Nat) (w W : World) (cs : Array Value) (y : Int) : Prop where
 below : Below w.heap.size w W
 b1 : W.heap[B]? = some (.cells cs 27 (0, 0))
 b2 : W.heap[B2]? = some (.cells #[.int .i64 y] 30 (0, 0))
 ge : w.heap.size ≤ B
 ge2 : w.heap.size ≤ B2
theorem cmd_Get.Gt.ne {B B2 : Nat} {w W : World} {cs : Array Value} {y : Int} (h : cmd_Get.Gt B B2 w W cs y) : B2 ≠ B := blk_ne h.b2 h.b1 (by decide)
theorem cmd_Get.Gt.go {B B2 : Nat} {w W W' : World} {cs : Array Value} {y : Int} (h : cmd_Get.Gt B B2 w W cs y) (hb : Below W.heap.size W W') : cmd_Get.Gt B B2 w W' cs y := ⟨zS h.below hb, yB h.b1 hb, yB h.b2 hb, h.ge, h.ge2⟩
theorem cmd_Get.Gt.kq {B B2 br : Nat} {w W W' : World} {cs : Array Value} {y : Int} {t : ByteArray} (h : cmd_Get.Gt B B2 w W cs y) (ha : cmd_Get.At br W t) (hbr : w.heap.size ≤ br) (hk : cmd_Get.Kq br W W') : cmd_Get.Gt B B2 w W' cs y :=
 ⟨hk.toBelow h.below hbr h.below.size, (hk.block B (blk_lt h.b1) (blk_ne h.b1 ha (by decide))).trans h.b1, (hk.block B2 (blk_lt h.b2) (blk_ne h.b2 ha (by decide))).trans h.b2, h.ge, h.ge2⟩
theorem cmd_Get.Gt.seti {B B2 : Nat} {w W : World} {cs : Array Value} {y : Int} (h : cmd_Get.Gt B B2 w W cs y) (x : Int) : cmd_Get.Gt B B2 w (W.setCell ⟨B2, 0, none⟩ (.int .i64 x)) cs x :=
 ⟨below_set h.below h.ge2, blk_far h.b1 (Ne.symm h.ne) _, blk_set h.b2 0 _, h.ge, h.ge2⟩
theorem cmd_Get.Gt.set13 {B B2 : Nat} {w W : World} {a0 a1 a2 a3 a4 a5 a6 a7 a8 a9 a10 a11 a12 : Value} {y : Int} (h : cmd_Get.Gt B B2 w W #[a0, a1, a2, a3, a4, a5, a6, a7, a8, a9, a10, a11, a12] y) (b0 b1 b2 b3 b4 b5 b6 b7 b8 b9 b10 b11 b12 : Value) : cmd_Get.Gt B B2 w (((((((((((((W.setCell ⟨B, 0, none⟩ (b0)).setCell ⟨B, 1, none⟩ (b1)).setCell ⟨B, 2, none⟩ (b2)).setCell ⟨B, 3, none⟩ (b3)).setCell ⟨B, 4, none⟩ (b4)).setCell ⟨B, 5, none⟩ (b5)).setCell ⟨B, 6, none⟩ (b6)).setCell ⟨B, 7, none⟩ (b7)).setCell ⟨B, 8, none⟩ (b8)).setCell ⟨B, 9, none⟩ (b9)).setCell ⟨B, 10, none⟩ (b10)).setCell ⟨B, 11, none⟩ (b11)).setCell ⟨B, 12, none⟩ (b12)) #[b0, b1, b2, b3, b4, b5, b6, b7, b8, b9, b10, b11, b12] y :=
 ⟨below_set (below_set (below_set (below_set (below_set (below_set (below_set (below_set (below_set (below_set (below_set (below_set (below_set h.below h.ge) h.ge) h.ge) h.ge) h.ge) h.ge) h.ge) h.ge) h.ge) h.ge) h.ge) h.ge) h.ge, cmd_Get.out13 h.b1 b0 b1 b2 b3 b4 b5 b6 b7 b8 b9 b10 b11 b12, blk_far (blk_far (blk_far (blk_far (blk_far (blk_far (blk_far (blk_far (blk_far (blk_far (blk_far (blk_far (blk_far h.b2 h.ne _) h.ne _) h.ne _) h.ne _) h.ne _) h.ne _) h.ne _) h.ne _) h.ne _) h.ne _) h.ne _) h.ne _) h.ne _, h.ge, h.ge2⟩
set_option maxHeartbeats 32000000 in
set_option maxRecDepth 100000 in
theorem cmd_Get.calls (k : Nat) (s : ByteArray) (r1 : cmd_Get.Cm) (r2 : Int) (w : World) (h : cmd_Get.f k s = some (r1, r2)) :
  Calls Try.prog 15 #[.string s] w fun e w' => ∃ v0_ : Value, e = .returned (.tuple #[v0_, .int .i64 r2]) ∧ cmd_Get.RetC w.heap.size w' r1 v0_ ∧ Below w.heap.size w w' := by
 have hu27 := Try.underlying27
 have hu71 := Try.underlying71
 have hu73 := Try.underlying73
 have hmf : ∀ (fn : Fn) (first cap : Array Value) (w : World), (Instr.makeFunc fn first cap).run Try.prog w = .ok (.func fn first cap) w := fun _ _ _ _ => rfl
 unfold cmd_Get.f at h
 obtain ⟨⟨b, e0⟩, hb, h⟩ := Option.bind_eq_some_iff.mp h
 have HG := Aside0.mk hb
 dsimp only at h
 clear hb
 by_cases c0 : e0 = 0
 rotate_left
 ·rw [if_neg c0] at h
  obtain ⟨rfl, rfl⟩ := Prod.mk.inj (Option.some.inj h)
  have c1 : (e0 == 0) = false := beq_eq_false_iff_ne.mpr c0
  have c2 : (e0 != 0) = true := bne_iff_ne.mpr c0
  clear c0 h
  go_enter_defers Try.func15, Try.ntmps15
  go_wp2_with (first | (go_at_call 31; go_loud (refine (seal_Get.calls k s b e0 _ HG.out).mono ?_; rintro e w3 ⟨rfl, hb⟩; have G1 := Aside0.mk (G0.out.go hb); clear hb; have y_w3 : w3.cell? ⟨B2, 0, none⟩ = some (.int .i64 0) := (blk_cell G1.out.b2 0).trans rfl; have q_w3 := blk_frozen G1.out.b2 0; have G2 := Aside0.mk (G1.out.seti e0); have o0_w3 : w3.cell? ⟨B, 0, none⟩ = some (.int .i64 0) := (blk_cell G1.out.b1 0).trans rfl; have p0_w3 := blk_frozen G1.out.b1 0; have o1_w3 : w3.cell? ⟨B, 1, none⟩ = some (.int .i64 0) := (blk_cell G1.out.b1 1).trans rfl; have p1_w3 := blk_frozen G1.out.b1 1; have o2_w3 : w3.cell? ⟨B, 2, none⟩ = some (.int .i64 0) := (blk_cell G1.out.b1 2).trans rfl; have p2_w3 := blk_frozen G1.out.b1 2; have o3_w3 : w3.cell? ⟨B, 3, none⟩ = some (.int .i64 0) := (blk_cell G1.out.b1 3).trans rfl; have p3_w3 := blk_frozen G1.out.b1 3; have o4_w3 : w3.cell? ⟨B, 4, none⟩ = some (.slice none 0 0) := (blk_cell G1.out.b1 4).trans rfl; have p4_w3 := blk_frozen G1.out.b1 4; have o5_w3 : w3.cell? ⟨B, 5, none⟩ = some (.slice none 0 0) := (blk_cell G1.out.b1 5).trans rfl; have p5_w3 := blk_frozen G1.out.b1 5; have o6_w3 : w3.cell? ⟨B, 6, none⟩ = some (.slice none 0 0) := (blk_cell G1.out.b1 6).trans rfl; have p6_w3 := blk_frozen G1.out.b1 6; have o7_w3 : w3.cell? ⟨B, 7, none⟩ = some (.int .i64 0) := (blk_cell G1.out.b1 7).trans rfl; have p7_w3 := blk_frozen G1.out.b1 7; have o8_w3 : w3.cell? ⟨B, 8, none⟩ = some (.int .i64 0) := (blk_cell G1.out.b1 8).trans rfl; have p8_w3 := blk_frozen G1.out.b1 8; have o9_w3 : w3.cell? ⟨B, 9, none⟩ = some (.int .i64 0) := (blk_cell G1.out.b1 9).trans rfl; have p9_w3 := blk_frozen G1.out.b1 9; have o10_w3 : w3.cell? ⟨B, 10, none⟩ = some (.string (⟨#[]⟩ : ByteArray)) := (blk_cell G1.out.b1 10).trans rfl; have p10_w3 := blk_frozen G1.out.b1 10; have o11_w3 : w3.cell? ⟨B, 11, none⟩ = some (.int .i64 0) := (blk_cell G1.out.b1 11).trans rfl; have p11_w3 := blk_frozen G1.out.b1 11; have o12_w3 : w3.cell? ⟨B, 12, none⟩ = some (.slice none 0 0) := (blk_cell G1.out.b1 12).trans rfl; have p12_w3 := blk_frozen G1.out.b1 12)) | ((with_reducible refine gate_dst (N := 3) rfl ?_); (try (refine gate_guard (by rfl) ?_; dsimp only)); go_loud (refine box_event ?hg (N := 3) ?hd (cs := #[.int .i64 0]) (t := 30) ?hr ?_; (case hd => rfl); (case hg => rfl); (case hr => first | (go_simp; done) | (go_simp; rfl)); intro B2 hg w2 hbox hb; have G0 := Aside0.mk (show cmd_Get.Gt B B2 w w2 #[.int .i64 0, .int .i64 0, .int .i64 0, .int .i64 0, .slice none 0 0, .slice none 0 0, .slice none 0 0, .int .i64 0, .int .i64 0, .int .i64 0, .string (⟨#[]⟩ : ByteArray), .int .i64 0, .slice none 0 0] 0 from ⟨zS HW1.out hb, yB HB1.out hb, hbox, HGE.out, by rw [hg]; exact HW1.out.size⟩); have hbb := G0.out.ne; have hbb2 := Ne.symm hbb; clear hbox hb hg)) | ((with_reducible refine gate_dst (N := 2) rfl ?_); (try (refine gate_guard (by rfl) ?_; dsimp only)); go_loud (refine box_event ?hg (N := 2) ?hd (cs := #[.int .i64 0, .int .i64 0, .int .i64 0, .int .i64 0, .slice none 0 0, .slice none 0 0, .slice none 0 0, .int .i64 0, .int .i64 0, .int .i64 0, .string (⟨#[]⟩ : ByteArray), .int .i64 0, .slice none 0 0]) (t := 27) ?hr ?_; (case hd => rfl); (case hg => rfl); (case hr => first | (go_simp; done) | (go_simp; rfl)); intro B hg w1 hbox hb; have HB1 := Aside0.mk hbox; have HW1 := Aside0.mk hb; have HGE := Aside0.mk (show w.heap.size ≤ B by rw [hg]; exact Nat.le_refl _); clear hbox hb hg)))
  go_region
  go_wp2
  have HF := Aside0.mk ((((G2.out.set13 (.int .i64 0) (.int .i64 0) (.int .i64 0) (.int .i64 0) (.slice none 0 0) (.slice none 0 0) (.slice none 0 0) (.int .i64 0) (.int .i64 0) (.int .i64 0) (.string (⟨#[]⟩ : ByteArray)) (.int .i64 0) (.slice none 0 0)).seti e0).go (below_drew (Below.refl _ _))))
  exact cmd_Get.door0 rfl rfl HF.out.b1 HF.out.b2 ⟨_, rfl, cmd_Get.RetC.nil _ _, HF.out.below⟩
 ·subst c0
  rw [if_pos rfl] at h
  by_cases hz : b.size ≤ 1000000
  rotate_left
  ·rw [if_neg hz] at h; cases h
  rw [if_pos hz] at h
  have HZ := Aside0.mk hz
  clear hz
  cases hp : cmd_Get.pCmd b with
  | none =>
   rw [hp] at h
   dsimp only at h
   obtain ⟨rfl, rfl⟩ := Prod.mk.inj (Option.some.inj h)
   have HP := Aside0.mk hp
   clear hp h
   go_enter_defers Try.func15, Try.ntmps15
   go_wp2_with (first | (go_at_call 33; go_loud (refine (cmd_Get.command b br w4 HA.out HZ.out _ HP.out).mono ?_; rintro e w5 ⟨⟨u, pv, rfl⟩, hk⟩; have G4 := Aside0.mk (G3.out.kq HA.out HBR.out hk); clear hk)) | ((with_reducible refine gate_dst (N := 21) rfl ?_); (try (refine gate_guard (by rfl) ?_; dsimp only)); go_loud (refine box_event ?hg (N := 21) ?hd (cs := #[.string b]) (t := 73) ?hr ?_; (case hd => rfl); (case hg => rfl); (case hr => first | (go_simp; done) | (go_simp; rfl)); intro br hg w4 hbox hb; have HA := Aside0.mk (show cmd_Get.At br w4 b from hbox); have G3 := Aside0.mk (G2.out.go hb); have HBR := Aside0.mk (show w.heap.size ≤ br by rw [hg]; exact G2.out.below.size); clear hbox hb hg)) | (go_at_call 31; go_loud (refine (seal_Get.calls k s b 0 _ HG.out).mono ?_; rintro e w3 ⟨rfl, hb⟩; have G1 := Aside0.mk (G0.out.go hb); clear hb; have y_w3 : w3.cell? ⟨B2, 0, none⟩ = some (.int .i64 0) := (blk_cell G1.out.b2 0).trans rfl; have q_w3 := blk_frozen G1.out.b2 0; have G2 := Aside0.mk (G1.out.seti 0); have o0_w3 : w3.cell? ⟨B, 0, none⟩ = some (.int .i64 0) := (blk_cell G1.out.b1 0).trans rfl; have p0_w3 := blk_frozen G1.out.b1 0; have o1_w3 : w3.cell? ⟨B, 1, none⟩ = some (.int .i64 0) := (blk_cell G1.out.b1 1).trans rfl; have p1_w3 := blk_frozen G1.out.b1 1; have o2_w3 : w3.cell? ⟨B, 2, none⟩ = some (.int .i64 0) := (blk_cell G1.out.b1 2).trans rfl; have p2_w3 := blk_frozen G1.out.b1 2; have o3_w3 : w3.cell? ⟨B, 3, none⟩ = some (.int .i64 0) := (blk_cell G1.out.b1 3).trans rfl; have p3_w3 := blk_frozen G1.out.b1 3; have o4_w3 : w3.cell? ⟨B, 4, none⟩ = some (.slice none 0 0) := (blk_cell G1.out.b1 4).trans rfl; have p4_w3 := blk_frozen G1.out.b1 4; have o5_w3 : w3.cell? ⟨B, 5, none⟩ = some (.slice none 0 0) := (blk_cell G1.out.b1 5).trans rfl; have p5_w3 := blk_frozen G1.out.b1 5; have o6_w3 : w3.cell? ⟨B, 6, none⟩ = some (.slice none 0 0) := (blk_cell G1.out.b1 6).trans rfl; have p6_w3 := blk_frozen G1.out.b1 6; have o7_w3 : w3.cell? ⟨B, 7, none⟩ = some (.int .i64 0) := (blk_cell G1.out.b1 7).trans rfl; have p7_w3 := blk_frozen G1.out.b1 7; have o8_w3 : w3.cell? ⟨B, 8, none⟩ = some (.int .i64 0) := (blk_cell G1.out.b1 8).trans rfl; have p8_w3 := blk_frozen G1.out.b1 8; have o9_w3 : w3.cell? ⟨B, 9, none⟩ = some (.int .i64 0) := (blk_cell G1.out.b1 9).trans rfl; have p9_w3 := blk_frozen G1.out.b1 9; have o10_w3 : w3.cell? ⟨B, 10, none⟩ = some (.string (⟨#[]⟩ : ByteArray)) := (blk_cell G1.out.b1 10).trans rfl; have p10_w3 := blk_frozen G1.out.b1 10; have o11_w3 : w3.cell? ⟨B, 11, none⟩ = some (.int .i64 0) := (blk_cell G1.out.b1 11).trans rfl; have p11_w3 := blk_frozen G1.out.b1 11; have o12_w3 : w3.cell? ⟨B, 12, none⟩ = some (.slice none 0 0) := (blk_cell G1.out.b1 12).trans rfl; have p12_w3 := blk_frozen G1.out.b1 12)) | ((with_reducible refine gate_dst (N := 3) rfl ?_); (try (refine gate_guard (by rfl) ?_; dsimp only)); go_loud (refine box_event ?hg (N := 3) ?hd (cs := #[.int .i64 0]) (t := 30) ?hr ?_; (case hd => rfl); (case hg => rfl); (case hr => first | (go_simp; done) | (go_simp; rfl)); intro B2 hg w2 hbox hb; have G0 := Aside0.mk (show cmd_Get.Gt B B2 w w2 #[.int .i64 0, .int .i64 0, .int .i64 0, .int .i64 0, .slice none 0 0, .slice none 0 0, .slice none 0 0, .int .i64 0, .int .i64 0, .int .i64 0, .string (⟨#[]⟩ : ByteArray), .int .i64 0, .slice none 0 0] 0 from ⟨zS HW1.out hb, yB HB1.out hb, hbox, HGE.out, by rw [hg]; exact HW1.out.size⟩); have hbb := G0.out.ne; have hbb2 := Ne.symm hbb; clear hbox hb hg)) | ((with_reducible refine gate_dst (N := 2) rfl ?_); (try (refine gate_guard (by rfl) ?_; dsimp only)); go_loud (refine box_event ?hg (N := 2) ?hd (cs := #[.int .i64 0, .int .i64 0, .int .i64 0, .int .i64 0, .slice none 0 0, .slice none 0 0, .slice none 0 0, .int .i64 0, .int .i64 0, .int .i64 0, .string (⟨#[]⟩ : ByteArray), .int .i64 0, .slice none 0 0]) (t := 27) ?hr ?_; (case hd => rfl); (case hg => rfl); (case hr => first | (go_simp; done) | (go_simp; rfl)); intro B hg w1 hbox hb; have HB1 := Aside0.mk hbox; have HW1 := Aside0.mk hb; have HGE := Aside0.mk (show w.heap.size ≤ B by rw [hg]; exact Nat.le_refl _); clear hbox hb hg)))
   exact cmd_Get.buried rfl rfl rfl G4.out.b1 G4.out.b2 G4.out.ne ⟨_, rfl, cmd_Get.RetC.nil _ _, below_set (cmd_Get.zw_below G4.out.below G4.out.ge) G4.out.ge2⟩
  | some xp =>
  obtain ⟨⟨x0, x1, x2, x3, l4, l5, l6, x7, x8, x9, x10, x11, l12⟩, tq⟩ := xp
  rw [hp] at h
  dsimp only at h
  obtain ⟨⟨p1, p2⟩, hq, h⟩ := Option.bind_eq_some_iff.mp h
  dsimp only at h
  have HP := Aside0.mk hp
  have HQ := Aside0.mk hq
  clear hp hq
  by_cases c2 : p2 = 0
  rotate_left
  ·rw [if_neg c2] at h
   obtain ⟨rfl, rfl⟩ := Prod.mk.inj (Option.some.inj h)
   have e1 : (p2 == 0) = false := beq_eq_false_iff_ne.mpr c2
   have e2 : (p2 != 0) = true := bne_iff_ne.mpr c2
   clear c2 h
   go_enter_defers Try.func15, Try.ntmps15
   go_wp2_with (first | (go_at_call 12; go_loud (refine (cmd_Put.calls k x0 x1 x2 x3 A4 c4 l4 A5 c5 l5 A6 c6 l6 x7 x8 x9 x10 x11 A12 c12 l12 p1 p2 _ (Kd.R_reads' R4.out).2.2 D4.out (Kd.R_reads' R5.out).2.2 D5.out (Kd.R_reads' R6.out).2.2 D6.out (Kd.R_reads' R12.out).2.2 D12.out HQ.out).mono ?_; rintro e w6 ⟨rfl, hb⟩; have G6 := Aside0.mk (G5.out.go hb); have S4 := Aside0.mk (Kd.R_below R4.out hb); have S5 := Aside0.mk (Kd.R_below R5.out hb); have S6 := Aside0.mk (Kd.R_below R6.out hb); have S12 := Aside0.mk (Kd.R_below R12.out hb); clear hb; have o0_w6 : w6.cell? ⟨B, 0, none⟩ = some (.int .i64 x0) := (blk_cell G6.out.b1 0).trans rfl; have p0_w6 := blk_frozen G6.out.b1 0; have o1_w6 : w6.cell? ⟨B, 1, none⟩ = some (.int .i64 x1) := (blk_cell G6.out.b1 1).trans rfl; have p1_w6 := blk_frozen G6.out.b1 1; have o2_w6 : w6.cell? ⟨B, 2, none⟩ = some (.int .i64 x2) := (blk_cell G6.out.b1 2).trans rfl; have p2_w6 := blk_frozen G6.out.b1 2; have o3_w6 : w6.cell? ⟨B, 3, none⟩ = some (.int .i64 x3) := (blk_cell G6.out.b1 3).trans rfl; have p3_w6 := blk_frozen G6.out.b1 3; have o4_w6 : w6.cell? ⟨B, 4, none⟩ = some (.slice A4 l4.length c4) := (blk_cell G6.out.b1 4).trans rfl; have p4_w6 := blk_frozen G6.out.b1 4; have o5_w6 : w6.cell? ⟨B, 5, none⟩ = some (.slice A5 l5.length c5) := (blk_cell G6.out.b1 5).trans rfl; have p5_w6 := blk_frozen G6.out.b1 5; have o6_w6 : w6.cell? ⟨B, 6, none⟩ = some (.slice A6 l6.length c6) := (blk_cell G6.out.b1 6).trans rfl; have p6_w6 := blk_frozen G6.out.b1 6; have o7_w6 : w6.cell? ⟨B, 7, none⟩ = some (.int .i64 x7) := (blk_cell G6.out.b1 7).trans rfl; have p7_w6 := blk_frozen G6.out.b1 7; have o8_w6 : w6.cell? ⟨B, 8, none⟩ = some (.int .i64 x8) := (blk_cell G6.out.b1 8).trans rfl; have p8_w6 := blk_frozen G6.out.b1 8; have o9_w6 : w6.cell? ⟨B, 9, none⟩ = some (.int .i64 x9) := (blk_cell G6.out.b1 9).trans rfl; have p9_w6 := blk_frozen G6.out.b1 9; have o10_w6 : w6.cell? ⟨B, 10, none⟩ = some (.string x10) := (blk_cell G6.out.b1 10).trans rfl; have p10_w6 := blk_frozen G6.out.b1 10; have o11_w6 : w6.cell? ⟨B, 11, none⟩ = some (.int .i64 x11) := (blk_cell G6.out.b1 11).trans rfl; have p11_w6 := blk_frozen G6.out.b1 11; have o12_w6 : w6.cell? ⟨B, 12, none⟩ = some (.slice A12 l12.length c12) := (blk_cell G6.out.b1 12).trans rfl; have p12_w6 := blk_frozen G6.out.b1 12; have y_w6 : w6.cell? ⟨B2, 0, none⟩ = some (.int .i64 0) := (blk_cell G6.out.b2 0).trans rfl; have q_w6 := blk_frozen G6.out.b2 0)) | (go_at_call 33; go_loud (refine (cmd_Get.command b br w4 HA.out HZ.out _ HP.out).mono ?_; rintro e w5 ⟨⟨v, rfl, hret⟩, ha, hk⟩; obtain ⟨v4, v5, v6, v12, rfl, r4, r5, r6, r12⟩ := hret; dsimp only at r4 r5 r6 r12 ⊢; have G4 := Aside0.mk (G3.out.kq HA.out HBR.out hk); obtain ⟨A4, c4, rfl, hc4, -⟩ := Kd.R_reads r4; obtain ⟨A5, c5, rfl, hc5, -⟩ := Kd.R_reads r5; obtain ⟨A6, c6, rfl, hc6, -⟩ := Kd.R_reads r6; obtain ⟨A12, c12, rfl, hc12, -⟩ := Kd.R_reads r12; have D4 := Aside0.mk hc4; have D5 := Aside0.mk hc5; have D6 := Aside0.mk hc6; have D12 := Aside0.mk hc12; have G5 := Aside0.mk (G4.out.set13 (.int .i64 x0) (.int .i64 x1) (.int .i64 x2) (.int .i64 x3) (.slice A4 l4.length c4) (.slice A5 l5.length c5) (.slice A6 l6.length c6) (.int .i64 x7) (.int .i64 x8) (.int .i64 x9) (.string x10) (.int .i64 x11) (.slice A12 l12.length c12)); have R4 := Aside0.mk (Kd.R_lower (cmd_Get.far13 r4 G4.out.b1 (by decide) (.int .i64 x0) (.int .i64 x1) (.int .i64 x2) (.int .i64 x3) (.slice A4 l4.length c4) (.slice A5 l5.length c5) (.slice A6 l6.length c6) (.int .i64 x7) (.int .i64 x8) (.int .i64 x9) (.string x10) (.int .i64 x11) (.slice A12 l12.length c12)) G3.out.below.size); have R5 := Aside0.mk (Kd.R_lower (cmd_Get.far13 r5 G4.out.b1 (by decide) (.int .i64 x0) (.int .i64 x1) (.int .i64 x2) (.int .i64 x3) (.slice A4 l4.length c4) (.slice A5 l5.length c5) (.slice A6 l6.length c6) (.int .i64 x7) (.int .i64 x8) (.int .i64 x9) (.string x10) (.int .i64 x11) (.slice A12 l12.length c12)) G3.out.below.size); have R6 := Aside0.mk (Kd.R_lower (cmd_Get.far13 r6 G4.out.b1 (by decide) (.int .i64 x0) (.int .i64 x1) (.int .i64 x2) (.int .i64 x3) (.slice A4 l4.length c4) (.slice A5 l5.length c5) (.slice A6 l6.length c6) (.int .i64 x7) (.int .i64 x8) (.int .i64 x9) (.string x10) (.int .i64 x11) (.slice A12 l12.length c12)) G3.out.below.size); have R12 := Aside0.mk (Kd.R_lower (cmd_Get.far13 r12 G4.out.b1 (by decide) (.int .i64 x0) (.int .i64 x1) (.int .i64 x2) (.int .i64 x3) (.slice A4 l4.length c4) (.slice A5 l5.length c5) (.slice A6 l6.length c6) (.int .i64 x7) (.int .i64 x8) (.int .i64 x9) (.string x10) (.int .i64 x11) (.slice A12 l12.length c12)) G3.out.below.size); clear ha hk hc4 hc5 hc6 hc12 r4 r5 r6 r12; have o0_w5 : w5.cell? ⟨B, 0, none⟩ = some (.int .i64 0) := (blk_cell G4.out.b1 0).trans rfl; have p0_w5 := blk_frozen G4.out.b1 0; have o1_w5 : w5.cell? ⟨B, 1, none⟩ = some (.int .i64 0) := (blk_cell G4.out.b1 1).trans rfl; have p1_w5 := blk_frozen G4.out.b1 1; have o2_w5 : w5.cell? ⟨B, 2, none⟩ = some (.int .i64 0) := (blk_cell G4.out.b1 2).trans rfl; have p2_w5 := blk_frozen G4.out.b1 2; have o3_w5 : w5.cell? ⟨B, 3, none⟩ = some (.int .i64 0) := (blk_cell G4.out.b1 3).trans rfl; have p3_w5 := blk_frozen G4.out.b1 3; have o4_w5 : w5.cell? ⟨B, 4, none⟩ = some (.slice none 0 0) := (blk_cell G4.out.b1 4).trans rfl; have p4_w5 := blk_frozen G4.out.b1 4; have o5_w5 : w5.cell? ⟨B, 5, none⟩ = some (.slice none 0 0) := (blk_cell G4.out.b1 5).trans rfl; have p5_w5 := blk_frozen G4.out.b1 5; have o6_w5 : w5.cell? ⟨B, 6, none⟩ = some (.slice none 0 0) := (blk_cell G4.out.b1 6).trans rfl; have p6_w5 := blk_frozen G4.out.b1 6; have o7_w5 : w5.cell? ⟨B, 7, none⟩ = some (.int .i64 0) := (blk_cell G4.out.b1 7).trans rfl; have p7_w5 := blk_frozen G4.out.b1 7; have o8_w5 : w5.cell? ⟨B, 8, none⟩ = some (.int .i64 0) := (blk_cell G4.out.b1 8).trans rfl; have p8_w5 := blk_frozen G4.out.b1 8; have o9_w5 : w5.cell? ⟨B, 9, none⟩ = some (.int .i64 0) := (blk_cell G4.out.b1 9).trans rfl; have p9_w5 := blk_frozen G4.out.b1 9; have o10_w5 : w5.cell? ⟨B, 10, none⟩ = some (.string (⟨#[]⟩ : ByteArray)) := (blk_cell G4.out.b1 10).trans rfl; have p10_w5 := blk_frozen G4.out.b1 10; have o11_w5 : w5.cell? ⟨B, 11, none⟩ = some (.int .i64 0) := (blk_cell G4.out.b1 11).trans rfl; have p11_w5 := blk_frozen G4.out.b1 11; have o12_w5 : w5.cell? ⟨B, 12, none⟩ = some (.slice none 0 0) := (blk_cell G4.out.b1 12).trans rfl; have p12_w5 := blk_frozen G4.out.b1 12)) | ((with_reducible refine gate_dst (N := 21) rfl ?_); (try (refine gate_guard (by rfl) ?_; dsimp only)); go_loud (refine box_event ?hg (N := 21) ?hd (cs := #[.string b]) (t := 73) ?hr ?_; (case hd => rfl); (case hg => rfl); (case hr => first | (go_simp; done) | (go_simp; rfl)); intro br hg w4 hbox hb; have HA := Aside0.mk (show cmd_Get.At br w4 b from hbox); have G3 := Aside0.mk (G2.out.go hb); have HBR := Aside0.mk (show w.heap.size ≤ br by rw [hg]; exact G2.out.below.size); clear hbox hb hg)) | (go_at_call 31; go_loud (refine (seal_Get.calls k s b 0 _ HG.out).mono ?_; rintro e w3 ⟨rfl, hb⟩; have G1 := Aside0.mk (G0.out.go hb); clear hb; have y_w3 : w3.cell? ⟨B2, 0, none⟩ = some (.int .i64 0) := (blk_cell G1.out.b2 0).trans rfl; have q_w3 := blk_frozen G1.out.b2 0; have G2 := Aside0.mk (G1.out.seti 0); have o0_w3 : w3.cell? ⟨B, 0, none⟩ = some (.int .i64 0) := (blk_cell G1.out.b1 0).trans rfl; have p0_w3 := blk_frozen G1.out.b1 0; have o1_w3 : w3.cell? ⟨B, 1, none⟩ = some (.int .i64 0) := (blk_cell G1.out.b1 1).trans rfl; have p1_w3 := blk_frozen G1.out.b1 1; have o2_w3 : w3.cell? ⟨B, 2, none⟩ = some (.int .i64 0) := (blk_cell G1.out.b1 2).trans rfl; have p2_w3 := blk_frozen G1.out.b1 2; have o3_w3 : w3.cell? ⟨B, 3, none⟩ = some (.int .i64 0) := (blk_cell G1.out.b1 3).trans rfl; have p3_w3 := blk_frozen G1.out.b1 3; have o4_w3 : w3.cell? ⟨B, 4, none⟩ = some (.slice none 0 0) := (blk_cell G1.out.b1 4).trans rfl; have p4_w3 := blk_frozen G1.out.b1 4; have o5_w3 : w3.cell? ⟨B, 5, none⟩ = some (.slice none 0 0) := (blk_cell G1.out.b1 5).trans rfl; have p5_w3 := blk_frozen G1.out.b1 5; have o6_w3 : w3.cell? ⟨B, 6, none⟩ = some (.slice none 0 0) := (blk_cell G1.out.b1 6).trans rfl; have p6_w3 := blk_frozen G1.out.b1 6; have o7_w3 : w3.cell? ⟨B, 7, none⟩ = some (.int .i64 0) := (blk_cell G1.out.b1 7).trans rfl; have p7_w3 := blk_frozen G1.out.b1 7; have o8_w3 : w3.cell? ⟨B, 8, none⟩ = some (.int .i64 0) := (blk_cell G1.out.b1 8).trans rfl; have p8_w3 := blk_frozen G1.out.b1 8; have o9_w3 : w3.cell? ⟨B, 9, none⟩ = some (.int .i64 0) := (blk_cell G1.out.b1 9).trans rfl; have p9_w3 := blk_frozen G1.out.b1 9; have o10_w3 : w3.cell? ⟨B, 10, none⟩ = some (.string (⟨#[]⟩ : ByteArray)) := (blk_cell G1.out.b1 10).trans rfl; have p10_w3 := blk_frozen G1.out.b1 10; have o11_w3 : w3.cell? ⟨B, 11, none⟩ = some (.int .i64 0) := (blk_cell G1.out.b1 11).trans rfl; have p11_w3 := blk_frozen G1.out.b1 11; have o12_w3 : w3.cell? ⟨B, 12, none⟩ = some (.slice none 0 0) := (blk_cell G1.out.b1 12).trans rfl; have p12_w3 := blk_frozen G1.out.b1 12)) | ((with_reducible refine gate_dst (N := 3) rfl ?_); (try (refine gate_guard (by rfl) ?_; dsimp only)); go_loud (refine box_event ?hg (N := 3) ?hd (cs := #[.int .i64 0]) (t := 30) ?hr ?_; (case hd => rfl); (case hg => rfl); (case hr => first | (go_simp; done) | (go_simp; rfl)); intro B2 hg w2 hbox hb; have G0 := Aside0.mk (show cmd_Get.Gt B B2 w w2 #[.int .i64 0, .int .i64 0, .int .i64 0, .int .i64 0, .slice none 0 0, .slice none 0 0, .slice none 0 0, .int .i64 0, .int .i64 0, .int .i64 0, .string (⟨#[]⟩ : ByteArray), .int .i64 0, .slice none 0 0] 0 from ⟨zS HW1.out hb, yB HB1.out hb, hbox, HGE.out, by rw [hg]; exact HW1.out.size⟩); have hbb := G0.out.ne; have hbb2 := Ne.symm hbb; clear hbox hb hg)) | ((with_reducible refine gate_dst (N := 2) rfl ?_); (try (refine gate_guard (by rfl) ?_; dsimp only)); go_loud (refine box_event ?hg (N := 2) ?hd (cs := #[.int .i64 0, .int .i64 0, .int .i64 0, .int .i64 0, .slice none 0 0, .slice none 0 0, .slice none 0 0, .int .i64 0, .int .i64 0, .int .i64 0, .string (⟨#[]⟩ : ByteArray), .int .i64 0, .slice none 0 0]) (t := 27) ?hr ?_; (case hd => rfl); (case hg => rfl); (case hr => first | (go_simp; done) | (go_simp; rfl)); intro B hg w1 hbox hb; have HB1 := Aside0.mk hbox; have HW1 := Aside0.mk hb; have HGE := Aside0.mk (show w.heap.size ≤ B by rw [hg]; exact Nat.le_refl _); clear hbox hb hg)))
   have HF := Aside0.mk ((G6.out.set13 (.int .i64 0) (.int .i64 0) (.int .i64 0) (.int .i64 0) (.slice none 0 0) (.slice none 0 0) (.slice none 0 0) (.int .i64 0) (.int .i64 0) (.int .i64 0) (.string (⟨#[]⟩ : ByteArray)) (.int .i64 0) (.slice none 0 0)).seti 3)
   exact cmd_Get.door rfl rfl rfl HF.out.b1 HF.out.b2 ⟨_, rfl, cmd_Get.RetC.nil _ _, HF.out.below⟩
  ·subst c2
   rw [if_pos rfl] at h
   by_cases c3 : p1.toList = s.toList
   rotate_left
   ·rw [if_neg c3] at h
    obtain ⟨rfl, rfl⟩ := Prod.mk.inj (Option.some.inj h)
    have e1 : (p1.toList == s.toList) = false := beq_eq_false_iff_ne.mpr c3
    have e2 : (p1.toList != s.toList) = true := bne_iff_ne.mpr c3
    clear c3 h
    go_enter_defers Try.func15, Try.ntmps15
    go_wp2_with (first | (go_at_call 12; go_loud (refine (cmd_Put.calls k x0 x1 x2 x3 A4 c4 l4 A5 c5 l5 A6 c6 l6 x7 x8 x9 x10 x11 A12 c12 l12 p1 0 _ (Kd.R_reads' R4.out).2.2 D4.out (Kd.R_reads' R5.out).2.2 D5.out (Kd.R_reads' R6.out).2.2 D6.out (Kd.R_reads' R12.out).2.2 D12.out HQ.out).mono ?_; rintro e w6 ⟨rfl, hb⟩; have G6 := Aside0.mk (G5.out.go hb); have S4 := Aside0.mk (Kd.R_below R4.out hb); have S5 := Aside0.mk (Kd.R_below R5.out hb); have S6 := Aside0.mk (Kd.R_below R6.out hb); have S12 := Aside0.mk (Kd.R_below R12.out hb); clear hb; have o0_w6 : w6.cell? ⟨B, 0, none⟩ = some (.int .i64 x0) := (blk_cell G6.out.b1 0).trans rfl; have p0_w6 := blk_frozen G6.out.b1 0; have o1_w6 : w6.cell? ⟨B, 1, none⟩ = some (.int .i64 x1) := (blk_cell G6.out.b1 1).trans rfl; have p1_w6 := blk_frozen G6.out.b1 1; have o2_w6 : w6.cell? ⟨B, 2, none⟩ = some (.int .i64 x2) := (blk_cell G6.out.b1 2).trans rfl; have p2_w6 := blk_frozen G6.out.b1 2; have o3_w6 : w6.cell? ⟨B, 3, none⟩ = some (.int .i64 x3) := (blk_cell G6.out.b1 3).trans rfl; have p3_w6 := blk_frozen G6.out.b1 3; have o4_w6 : w6.cell? ⟨B, 4, none⟩ = some (.slice A4 l4.length c4) := (blk_cell G6.out.b1 4).trans rfl; have p4_w6 := blk_frozen G6.out.b1 4; have o5_w6 : w6.cell? ⟨B, 5, none⟩ = some (.slice A5 l5.length c5) := (blk_cell G6.out.b1 5).trans rfl; have p5_w6 := blk_frozen G6.out.b1 5; have o6_w6 : w6.cell? ⟨B, 6, none⟩ = some (.slice A6 l6.length c6) := (blk_cell G6.out.b1 6).trans rfl; have p6_w6 := blk_frozen G6.out.b1 6; have o7_w6 : w6.cell? ⟨B, 7, none⟩ = some (.int .i64 x7) := (blk_cell G6.out.b1 7).trans rfl; have p7_w6 := blk_frozen G6.out.b1 7; have o8_w6 : w6.cell? ⟨B, 8, none⟩ = some (.int .i64 x8) := (blk_cell G6.out.b1 8).trans rfl; have p8_w6 := blk_frozen G6.out.b1 8; have o9_w6 : w6.cell? ⟨B, 9, none⟩ = some (.int .i64 x9) := (blk_cell G6.out.b1 9).trans rfl; have p9_w6 := blk_frozen G6.out.b1 9; have o10_w6 : w6.cell? ⟨B, 10, none⟩ = some (.string x10) := (blk_cell G6.out.b1 10).trans rfl; have p10_w6 := blk_frozen G6.out.b1 10; have o11_w6 : w6.cell? ⟨B, 11, none⟩ = some (.int .i64 x11) := (blk_cell G6.out.b1 11).trans rfl; have p11_w6 := blk_frozen G6.out.b1 11; have o12_w6 : w6.cell? ⟨B, 12, none⟩ = some (.slice A12 l12.length c12) := (blk_cell G6.out.b1 12).trans rfl; have p12_w6 := blk_frozen G6.out.b1 12; have y_w6 : w6.cell? ⟨B2, 0, none⟩ = some (.int .i64 0) := (blk_cell G6.out.b2 0).trans rfl; have q_w6 := blk_frozen G6.out.b2 0)) | (go_at_call 33; go_loud (refine (cmd_Get.command b br w4 HA.out HZ.out _ HP.out).mono ?_; rintro e w5 ⟨⟨v, rfl, hret⟩, ha, hk⟩; obtain ⟨v4, v5, v6, v12, rfl, r4, r5, r6, r12⟩ := hret; dsimp only at r4 r5 r6 r12 ⊢; have G4 := Aside0.mk (G3.out.kq HA.out HBR.out hk); obtain ⟨A4, c4, rfl, hc4, -⟩ := Kd.R_reads r4; obtain ⟨A5, c5, rfl, hc5, -⟩ := Kd.R_reads r5; obtain ⟨A6, c6, rfl, hc6, -⟩ := Kd.R_reads r6; obtain ⟨A12, c12, rfl, hc12, -⟩ := Kd.R_reads r12; have D4 := Aside0.mk hc4; have D5 := Aside0.mk hc5; have D6 := Aside0.mk hc6; have D12 := Aside0.mk hc12; have G5 := Aside0.mk (G4.out.set13 (.int .i64 x0) (.int .i64 x1) (.int .i64 x2) (.int .i64 x3) (.slice A4 l4.length c4) (.slice A5 l5.length c5) (.slice A6 l6.length c6) (.int .i64 x7) (.int .i64 x8) (.int .i64 x9) (.string x10) (.int .i64 x11) (.slice A12 l12.length c12)); have R4 := Aside0.mk (Kd.R_lower (cmd_Get.far13 r4 G4.out.b1 (by decide) (.int .i64 x0) (.int .i64 x1) (.int .i64 x2) (.int .i64 x3) (.slice A4 l4.length c4) (.slice A5 l5.length c5) (.slice A6 l6.length c6) (.int .i64 x7) (.int .i64 x8) (.int .i64 x9) (.string x10) (.int .i64 x11) (.slice A12 l12.length c12)) G3.out.below.size); have R5 := Aside0.mk (Kd.R_lower (cmd_Get.far13 r5 G4.out.b1 (by decide) (.int .i64 x0) (.int .i64 x1) (.int .i64 x2) (.int .i64 x3) (.slice A4 l4.length c4) (.slice A5 l5.length c5) (.slice A6 l6.length c6) (.int .i64 x7) (.int .i64 x8) (.int .i64 x9) (.string x10) (.int .i64 x11) (.slice A12 l12.length c12)) G3.out.below.size); have R6 := Aside0.mk (Kd.R_lower (cmd_Get.far13 r6 G4.out.b1 (by decide) (.int .i64 x0) (.int .i64 x1) (.int .i64 x2) (.int .i64 x3) (.slice A4 l4.length c4) (.slice A5 l5.length c5) (.slice A6 l6.length c6) (.int .i64 x7) (.int .i64 x8) (.int .i64 x9) (.string x10) (.int .i64 x11) (.slice A12 l12.length c12)) G3.out.below.size); have R12 := Aside0.mk (Kd.R_lower (cmd_Get.far13 r12 G4.out.b1 (by decide) (.int .i64 x0) (.int .i64 x1) (.int .i64 x2) (.int .i64 x3) (.slice A4 l4.length c4) (.slice A5 l5.length c5) (.slice A6 l6.length c6) (.int .i64 x7) (.int .i64 x8) (.int .i64 x9) (.string x10) (.int .i64 x11) (.slice A12 l12.length c12)) G3.out.below.size); clear ha hk hc4 hc5 hc6 hc12 r4 r5 r6 r12; have o0_w5 : w5.cell? ⟨B, 0, none⟩ = some (.int .i64 0) := (blk_cell G4.out.b1 0).trans rfl; have p0_w5 := blk_frozen G4.out.b1 0; have o1_w5 : w5.cell? ⟨B, 1, none⟩ = some (.int .i64 0) := (blk_cell G4.out.b1 1).trans rfl; have p1_w5 := blk_frozen G4.out.b1 1; have o2_w5 : w5.cell? ⟨B, 2, none⟩ = some (.int .i64 0) := (blk_cell G4.out.b1 2).trans rfl; have p2_w5 := blk_frozen G4.out.b1 2; have o3_w5 : w5.cell? ⟨B, 3, none⟩ = some (.int .i64 0) := (blk_cell G4.out.b1 3).trans rfl; have p3_w5 := blk_frozen G4.out.b1 3; have o4_w5 : w5.cell? ⟨B, 4, none⟩ = some (.slice none 0 0) := (blk_cell G4.out.b1 4).trans rfl; have p4_w5 := blk_frozen G4.out.b1 4; have o5_w5 : w5.cell? ⟨B, 5, none⟩ = some (.slice none 0 0) := (blk_cell G4.out.b1 5).trans rfl; have p5_w5 := blk_frozen G4.out.b1 5; have o6_w5 : w5.cell? ⟨B, 6, none⟩ = some (.slice none 0 0) := (blk_cell G4.out.b1 6).trans rfl; have p6_w5 := blk_frozen G4.out.b1 6; have o7_w5 : w5.cell? ⟨B, 7, none⟩ = some (.int .i64 0) := (blk_cell G4.out.b1 7).trans rfl; have p7_w5 := blk_frozen G4.out.b1 7; have o8_w5 : w5.cell? ⟨B, 8, none⟩ = some (.int .i64 0) := (blk_cell G4.out.b1 8).trans rfl; have p8_w5 := blk_frozen G4.out.b1 8; have o9_w5 : w5.cell? ⟨B, 9, none⟩ = some (.int .i64 0) := (blk_cell G4.out.b1 9).trans rfl; have p9_w5 := blk_frozen G4.out.b1 9; have o10_w5 : w5.cell? ⟨B, 10, none⟩ = some (.string (⟨#[]⟩ : ByteArray)) := (blk_cell G4.out.b1 10).trans rfl; have p10_w5 := blk_frozen G4.out.b1 10; have o11_w5 : w5.cell? ⟨B, 11, none⟩ = some (.int .i64 0) := (blk_cell G4.out.b1 11).trans rfl; have p11_w5 := blk_frozen G4.out.b1 11; have o12_w5 : w5.cell? ⟨B, 12, none⟩ = some (.slice none 0 0) := (blk_cell G4.out.b1 12).trans rfl; have p12_w5 := blk_frozen G4.out.b1 12)) | ((with_reducible refine gate_dst (N := 21) rfl ?_); (try (refine gate_guard (by rfl) ?_; dsimp only)); go_loud (refine box_event ?hg (N := 21) ?hd (cs := #[.string b]) (t := 73) ?hr ?_; (case hd => rfl); (case hg => rfl); (case hr => first | (go_simp; done) | (go_simp; rfl)); intro br hg w4 hbox hb; have HA := Aside0.mk (show cmd_Get.At br w4 b from hbox); have G3 := Aside0.mk (G2.out.go hb); have HBR := Aside0.mk (show w.heap.size ≤ br by rw [hg]; exact G2.out.below.size); clear hbox hb hg)) | (go_at_call 31; go_loud (refine (seal_Get.calls k s b 0 _ HG.out).mono ?_; rintro e w3 ⟨rfl, hb⟩; have G1 := Aside0.mk (G0.out.go hb); clear hb; have y_w3 : w3.cell? ⟨B2, 0, none⟩ = some (.int .i64 0) := (blk_cell G1.out.b2 0).trans rfl; have q_w3 := blk_frozen G1.out.b2 0; have G2 := Aside0.mk (G1.out.seti 0); have o0_w3 : w3.cell? ⟨B, 0, none⟩ = some (.int .i64 0) := (blk_cell G1.out.b1 0).trans rfl; have p0_w3 := blk_frozen G1.out.b1 0; have o1_w3 : w3.cell? ⟨B, 1, none⟩ = some (.int .i64 0) := (blk_cell G1.out.b1 1).trans rfl; have p1_w3 := blk_frozen G1.out.b1 1; have o2_w3 : w3.cell? ⟨B, 2, none⟩ = some (.int .i64 0) := (blk_cell G1.out.b1 2).trans rfl; have p2_w3 := blk_frozen G1.out.b1 2; have o3_w3 : w3.cell? ⟨B, 3, none⟩ = some (.int .i64 0) := (blk_cell G1.out.b1 3).trans rfl; have p3_w3 := blk_frozen G1.out.b1 3; have o4_w3 : w3.cell? ⟨B, 4, none⟩ = some (.slice none 0 0) := (blk_cell G1.out.b1 4).trans rfl; have p4_w3 := blk_frozen G1.out.b1 4; have o5_w3 : w3.cell? ⟨B, 5, none⟩ = some (.slice none 0 0) := (blk_cell G1.out.b1 5).trans rfl; have p5_w3 := blk_frozen G1.out.b1 5; have o6_w3 : w3.cell? ⟨B, 6, none⟩ = some (.slice none 0 0) := (blk_cell G1.out.b1 6).trans rfl; have p6_w3 := blk_frozen G1.out.b1 6; have o7_w3 : w3.cell? ⟨B, 7, none⟩ = some (.int .i64 0) := (blk_cell G1.out.b1 7).trans rfl; have p7_w3 := blk_frozen G1.out.b1 7; have o8_w3 : w3.cell? ⟨B, 8, none⟩ = some (.int .i64 0) := (blk_cell G1.out.b1 8).trans rfl; have p8_w3 := blk_frozen G1.out.b1 8; have o9_w3 : w3.cell? ⟨B, 9, none⟩ = some (.int .i64 0) := (blk_cell G1.out.b1 9).trans rfl; have p9_w3 := blk_frozen G1.out.b1 9; have o10_w3 : w3.cell? ⟨B, 10, none⟩ = some (.string (⟨#[]⟩ : ByteArray)) := (blk_cell G1.out.b1 10).trans rfl; have p10_w3 := blk_frozen G1.out.b1 10; have o11_w3 : w3.cell? ⟨B, 11, none⟩ = some (.int .i64 0) := (blk_cell G1.out.b1 11).trans rfl; have p11_w3 := blk_frozen G1.out.b1 11; have o12_w3 : w3.cell? ⟨B, 12, none⟩ = some (.slice none 0 0) := (blk_cell G1.out.b1 12).trans rfl; have p12_w3 := blk_frozen G1.out.b1 12)) | ((with_reducible refine gate_dst (N := 3) rfl ?_); (try (refine gate_guard (by rfl) ?_; dsimp only)); go_loud (refine box_event ?hg (N := 3) ?hd (cs := #[.int .i64 0]) (t := 30) ?hr ?_; (case hd => rfl); (case hg => rfl); (case hr => first | (go_simp; done) | (go_simp; rfl)); intro B2 hg w2 hbox hb; have G0 := Aside0.mk (show cmd_Get.Gt B B2 w w2 #[.int .i64 0, .int .i64 0, .int .i64 0, .int .i64 0, .slice none 0 0, .slice none 0 0, .slice none 0 0, .int .i64 0, .int .i64 0, .int .i64 0, .string (⟨#[]⟩ : ByteArray), .int .i64 0, .slice none 0 0] 0 from ⟨zS HW1.out hb, yB HB1.out hb, hbox, HGE.out, by rw [hg]; exact HW1.out.size⟩); have hbb := G0.out.ne; have hbb2 := Ne.symm hbb; clear hbox hb hg)) | ((with_reducible refine gate_dst (N := 2) rfl ?_); (try (refine gate_guard (by rfl) ?_; dsimp only)); go_loud (refine box_event ?hg (N := 2) ?hd (cs := #[.int .i64 0, .int .i64 0, .int .i64 0, .int .i64 0, .slice none 0 0, .slice none 0 0, .slice none 0 0, .int .i64 0, .int .i64 0, .int .i64 0, .string (⟨#[]⟩ : ByteArray), .int .i64 0, .slice none 0 0]) (t := 27) ?hr ?_; (case hd => rfl); (case hg => rfl); (case hr => first | (go_simp; done) | (go_simp; rfl)); intro B hg w1 hbox hb; have HB1 := Aside0.mk hbox; have HW1 := Aside0.mk hb; have HGE := Aside0.mk (show w.heap.size ≤ B by rw [hg]; exact Nat.le_refl _); clear hbox hb hg)))
    have HF := Aside0.mk ((G6.out.set13 (.int .i64 0) (.int .i64 0) (.int .i64 0) (.int .i64 0) (.slice none 0 0) (.slice none 0 0) (.slice none 0 0) (.int .i64 0) (.int .i64 0) (.int .i64 0) (.string (⟨#[]⟩ : ByteArray)) (.int .i64 0) (.slice none 0 0)).seti 3)
    exact cmd_Get.door rfl rfl rfl HF.out.b1 HF.out.b2 ⟨_, rfl, cmd_Get.RetC.nil _ _, HF.out.below⟩
   ·rw [if_pos c3] at h
    obtain ⟨rfl, rfl⟩ := Prod.mk.inj (Option.some.inj h)
    have e1 : (p1.toList == s.toList) = true := beq_iff_eq.mpr c3
    have e2 : (p1.toList != s.toList) = false := bne_eq_false_iff_eq.mpr c3
    clear c3 h
    go_enter_defers Try.func15, Try.ntmps15
    go_wp2_with (first | (go_at_call 12; go_loud (refine (cmd_Put.calls k x0 x1 x2 x3 A4 c4 l4 A5 c5 l5 A6 c6 l6 x7 x8 x9 x10 x11 A12 c12 l12 p1 0 _ (Kd.R_reads' R4.out).2.2 D4.out (Kd.R_reads' R5.out).2.2 D5.out (Kd.R_reads' R6.out).2.2 D6.out (Kd.R_reads' R12.out).2.2 D12.out HQ.out).mono ?_; rintro e w6 ⟨rfl, hb⟩; have G6 := Aside0.mk (G5.out.go hb); have S4 := Aside0.mk (Kd.R_below R4.out hb); have S5 := Aside0.mk (Kd.R_below R5.out hb); have S6 := Aside0.mk (Kd.R_below R6.out hb); have S12 := Aside0.mk (Kd.R_below R12.out hb); clear hb; have o0_w6 : w6.cell? ⟨B, 0, none⟩ = some (.int .i64 x0) := (blk_cell G6.out.b1 0).trans rfl; have p0_w6 := blk_frozen G6.out.b1 0; have o1_w6 : w6.cell? ⟨B, 1, none⟩ = some (.int .i64 x1) := (blk_cell G6.out.b1 1).trans rfl; have p1_w6 := blk_frozen G6.out.b1 1; have o2_w6 : w6.cell? ⟨B, 2, none⟩ = some (.int .i64 x2) := (blk_cell G6.out.b1 2).trans rfl; have p2_w6 := blk_frozen G6.out.b1 2; have o3_w6 : w6.cell? ⟨B, 3, none⟩ = some (.int .i64 x3) := (blk_cell G6.out.b1 3).trans rfl; have p3_w6 := blk_frozen G6.out.b1 3; have o4_w6 : w6.cell? ⟨B, 4, none⟩ = some (.slice A4 l4.length c4) := (blk_cell G6.out.b1 4).trans rfl; have p4_w6 := blk_frozen G6.out.b1 4; have o5_w6 : w6.cell? ⟨B, 5, none⟩ = some (.slice A5 l5.length c5) := (blk_cell G6.out.b1 5).trans rfl; have p5_w6 := blk_frozen G6.out.b1 5; have o6_w6 : w6.cell? ⟨B, 6, none⟩ = some (.slice A6 l6.length c6) := (blk_cell G6.out.b1 6).trans rfl; have p6_w6 := blk_frozen G6.out.b1 6; have o7_w6 : w6.cell? ⟨B, 7, none⟩ = some (.int .i64 x7) := (blk_cell G6.out.b1 7).trans rfl; have p7_w6 := blk_frozen G6.out.b1 7; have o8_w6 : w6.cell? ⟨B, 8, none⟩ = some (.int .i64 x8) := (blk_cell G6.out.b1 8).trans rfl; have p8_w6 := blk_frozen G6.out.b1 8; have o9_w6 : w6.cell? ⟨B, 9, none⟩ = some (.int .i64 x9) := (blk_cell G6.out.b1 9).trans rfl; have p9_w6 := blk_frozen G6.out.b1 9; have o10_w6 : w6.cell? ⟨B, 10, none⟩ = some (.string x10) := (blk_cell G6.out.b1 10).trans rfl; have p10_w6 := blk_frozen G6.out.b1 10; have o11_w6 : w6.cell? ⟨B, 11, none⟩ = some (.int .i64 x11) := (blk_cell G6.out.b1 11).trans rfl; have p11_w6 := blk_frozen G6.out.b1 11; have o12_w6 : w6.cell? ⟨B, 12, none⟩ = some (.slice A12 l12.length c12) := (blk_cell G6.out.b1 12).trans rfl; have p12_w6 := blk_frozen G6.out.b1 12; have y_w6 : w6.cell? ⟨B2, 0, none⟩ = some (.int .i64 0) := (blk_cell G6.out.b2 0).trans rfl; have q_w6 := blk_frozen G6.out.b2 0)) | (go_at_call 33; go_loud (refine (cmd_Get.command b br w4 HA.out HZ.out _ HP.out).mono ?_; rintro e w5 ⟨⟨v, rfl, hret⟩, ha, hk⟩; obtain ⟨v4, v5, v6, v12, rfl, r4, r5, r6, r12⟩ := hret; dsimp only at r4 r5 r6 r12 ⊢; have G4 := Aside0.mk (G3.out.kq HA.out HBR.out hk); obtain ⟨A4, c4, rfl, hc4, -⟩ := Kd.R_reads r4; obtain ⟨A5, c5, rfl, hc5, -⟩ := Kd.R_reads r5; obtain ⟨A6, c6, rfl, hc6, -⟩ := Kd.R_reads r6; obtain ⟨A12, c12, rfl, hc12, -⟩ := Kd.R_reads r12; have D4 := Aside0.mk hc4; have D5 := Aside0.mk hc5; have D6 := Aside0.mk hc6; have D12 := Aside0.mk hc12; have G5 := Aside0.mk (G4.out.set13 (.int .i64 x0) (.int .i64 x1) (.int .i64 x2) (.int .i64 x3) (.slice A4 l4.length c4) (.slice A5 l5.length c5) (.slice A6 l6.length c6) (.int .i64 x7) (.int .i64 x8) (.int .i64 x9) (.string x10) (.int .i64 x11) (.slice A12 l12.length c12)); have R4 := Aside0.mk (Kd.R_lower (cmd_Get.far13 r4 G4.out.b1 (by decide) (.int .i64 x0) (.int .i64 x1) (.int .i64 x2) (.int .i64 x3) (.slice A4 l4.length c4) (.slice A5 l5.length c5) (.slice A6 l6.length c6) (.int .i64 x7) (.int .i64 x8) (.int .i64 x9) (.string x10) (.int .i64 x11) (.slice A12 l12.length c12)) G3.out.below.size); have R5 := Aside0.mk (Kd.R_lower (cmd_Get.far13 r5 G4.out.b1 (by decide) (.int .i64 x0) (.int .i64 x1) (.int .i64 x2) (.int .i64 x3) (.slice A4 l4.length c4) (.slice A5 l5.length c5) (.slice A6 l6.length c6) (.int .i64 x7) (.int .i64 x8) (.int .i64 x9) (.string x10) (.int .i64 x11) (.slice A12 l12.length c12)) G3.out.below.size); have R6 := Aside0.mk (Kd.R_lower (cmd_Get.far13 r6 G4.out.b1 (by decide) (.int .i64 x0) (.int .i64 x1) (.int .i64 x2) (.int .i64 x3) (.slice A4 l4.length c4) (.slice A5 l5.length c5) (.slice A6 l6.length c6) (.int .i64 x7) (.int .i64 x8) (.int .i64 x9) (.string x10) (.int .i64 x11) (.slice A12 l12.length c12)) G3.out.below.size); have R12 := Aside0.mk (Kd.R_lower (cmd_Get.far13 r12 G4.out.b1 (by decide) (.int .i64 x0) (.int .i64 x1) (.int .i64 x2) (.int .i64 x3) (.slice A4 l4.length c4) (.slice A5 l5.length c5) (.slice A6 l6.length c6) (.int .i64 x7) (.int .i64 x8) (.int .i64 x9) (.string x10) (.int .i64 x11) (.slice A12 l12.length c12)) G3.out.below.size); clear ha hk hc4 hc5 hc6 hc12 r4 r5 r6 r12; have o0_w5 : w5.cell? ⟨B, 0, none⟩ = some (.int .i64 0) := (blk_cell G4.out.b1 0).trans rfl; have p0_w5 := blk_frozen G4.out.b1 0; have o1_w5 : w5.cell? ⟨B, 1, none⟩ = some (.int .i64 0) := (blk_cell G4.out.b1 1).trans rfl; have p1_w5 := blk_frozen G4.out.b1 1; have o2_w5 : w5.cell? ⟨B, 2, none⟩ = some (.int .i64 0) := (blk_cell G4.out.b1 2).trans rfl; have p2_w5 := blk_frozen G4.out.b1 2; have o3_w5 : w5.cell? ⟨B, 3, none⟩ = some (.int .i64 0) := (blk_cell G4.out.b1 3).trans rfl; have p3_w5 := blk_frozen G4.out.b1 3; have o4_w5 : w5.cell? ⟨B, 4, none⟩ = some (.slice none 0 0) := (blk_cell G4.out.b1 4).trans rfl; have p4_w5 := blk_frozen G4.out.b1 4; have o5_w5 : w5.cell? ⟨B, 5, none⟩ = some (.slice none 0 0) := (blk_cell G4.out.b1 5).trans rfl; have p5_w5 := blk_frozen G4.out.b1 5; have o6_w5 : w5.cell? ⟨B, 6, none⟩ = some (.slice none 0 0) := (blk_cell G4.out.b1 6).trans rfl; have p6_w5 := blk_frozen G4.out.b1 6; have o7_w5 : w5.cell? ⟨B, 7, none⟩ = some (.int .i64 0) := (blk_cell G4.out.b1 7).trans rfl; have p7_w5 := blk_frozen G4.out.b1 7; have o8_w5 : w5.cell? ⟨B, 8, none⟩ = some (.int .i64 0) := (blk_cell G4.out.b1 8).trans rfl; have p8_w5 := blk_frozen G4.out.b1 8; have o9_w5 : w5.cell? ⟨B, 9, none⟩ = some (.int .i64 0) := (blk_cell G4.out.b1 9).trans rfl; have p9_w5 := blk_frozen G4.out.b1 9; have o10_w5 : w5.cell? ⟨B, 10, none⟩ = some (.string (⟨#[]⟩ : ByteArray)) := (blk_cell G4.out.b1 10).trans rfl; have p10_w5 := blk_frozen G4.out.b1 10; have o11_w5 : w5.cell? ⟨B, 11, none⟩ = some (.int .i64 0) := (blk_cell G4.out.b1 11).trans rfl; have p11_w5 := blk_frozen G4.out.b1 11; have o12_w5 : w5.cell? ⟨B, 12, none⟩ = some (.slice none 0 0) := (blk_cell G4.out.b1 12).trans rfl; have p12_w5 := blk_frozen G4.out.b1 12)) | ((with_reducible refine gate_dst (N := 21) rfl ?_); (try (refine gate_guard (by rfl) ?_; dsimp only)); go_loud (refine box_event ?hg (N := 21) ?hd (cs := #[.string b]) (t := 73) ?hr ?_; (case hd => rfl); (case hg => rfl); (case hr => first | (go_simp; done) | (go_simp; rfl)); intro br hg w4 hbox hb; have HA := Aside0.mk (show cmd_Get.At br w4 b from hbox); have G3 := Aside0.mk (G2.out.go hb); have HBR := Aside0.mk (show w.heap.size ≤ br by rw [hg]; exact G2.out.below.size); clear hbox hb hg)) | (go_at_call 31; go_loud (refine (seal_Get.calls k s b 0 _ HG.out).mono ?_; rintro e w3 ⟨rfl, hb⟩; have G1 := Aside0.mk (G0.out.go hb); clear hb; have y_w3 : w3.cell? ⟨B2, 0, none⟩ = some (.int .i64 0) := (blk_cell G1.out.b2 0).trans rfl; have q_w3 := blk_frozen G1.out.b2 0; have G2 := Aside0.mk (G1.out.seti 0); have o0_w3 : w3.cell? ⟨B, 0, none⟩ = some (.int .i64 0) := (blk_cell G1.out.b1 0).trans rfl; have p0_w3 := blk_frozen G1.out.b1 0; have o1_w3 : w3.cell? ⟨B, 1, none⟩ = some (.int .i64 0) := (blk_cell G1.out.b1 1).trans rfl; have p1_w3 := blk_frozen G1.out.b1 1; have o2_w3 : w3.cell? ⟨B, 2, none⟩ = some (.int .i64 0) := (blk_cell G1.out.b1 2).trans rfl; have p2_w3 := blk_frozen G1.out.b1 2; have o3_w3 : w3.cell? ⟨B, 3, none⟩ = some (.int .i64 0) := (blk_cell G1.out.b1 3).trans rfl; have p3_w3 := blk_frozen G1.out.b1 3; have o4_w3 : w3.cell? ⟨B, 4, none⟩ = some (.slice none 0 0) := (blk_cell G1.out.b1 4).trans rfl; have p4_w3 := blk_frozen G1.out.b1 4; have o5_w3 : w3.cell? ⟨B, 5, none⟩ = some (.slice none 0 0) := (blk_cell G1.out.b1 5).trans rfl; have p5_w3 := blk_frozen G1.out.b1 5; have o6_w3 : w3.cell? ⟨B, 6, none⟩ = some (.slice none 0 0) := (blk_cell G1.out.b1 6).trans rfl; have p6_w3 := blk_frozen G1.out.b1 6; have o7_w3 : w3.cell? ⟨B, 7, none⟩ = some (.int .i64 0) := (blk_cell G1.out.b1 7).trans rfl; have p7_w3 := blk_frozen G1.out.b1 7; have o8_w3 : w3.cell? ⟨B, 8, none⟩ = some (.int .i64 0) := (blk_cell G1.out.b1 8).trans rfl; have p8_w3 := blk_frozen G1.out.b1 8; have o9_w3 : w3.cell? ⟨B, 9, none⟩ = some (.int .i64 0) := (blk_cell G1.out.b1 9).trans rfl; have p9_w3 := blk_frozen G1.out.b1 9; have o10_w3 : w3.cell? ⟨B, 10, none⟩ = some (.string (⟨#[]⟩ : ByteArray)) := (blk_cell G1.out.b1 10).trans rfl; have p10_w3 := blk_frozen G1.out.b1 10; have o11_w3 : w3.cell? ⟨B, 11, none⟩ = some (.int .i64 0) := (blk_cell G1.out.b1 11).trans rfl; have p11_w3 := blk_frozen G1.out.b1 11; have o12_w3 : w3.cell? ⟨B, 12, none⟩ = some (.slice none 0 0) := (blk_cell G1.out.b1 12).trans rfl; have p12_w3 := blk_frozen G1.out.b1 12)) | ((with_reducible refine gate_dst (N := 3) rfl ?_); (try (refine gate_guard (by rfl) ?_; dsimp only)); go_loud (refine box_event ?hg (N := 3) ?hd (cs := #[.int .i64 0]) (t := 30) ?hr ?_; (case hd => rfl); (case hg => rfl); (case hr => first | (go_simp; done) | (go_simp; rfl)); intro B2 hg w2 hbox hb; have G0 := Aside0.mk (show cmd_Get.Gt B B2 w w2 #[.int .i64 0, .int .i64 0, .int .i64 0, .int .i64 0, .slice none 0 0, .slice none 0 0, .slice none 0 0, .int .i64 0, .int .i64 0, .int .i64 0, .string (⟨#[]⟩ : ByteArray), .int .i64 0, .slice none 0 0] 0 from ⟨zS HW1.out hb, yB HB1.out hb, hbox, HGE.out, by rw [hg]; exact HW1.out.size⟩); have hbb := G0.out.ne; have hbb2 := Ne.symm hbb; clear hbox hb hg)) | ((with_reducible refine gate_dst (N := 2) rfl ?_); (try (refine gate_guard (by rfl) ?_; dsimp only)); go_loud (refine box_event ?hg (N := 2) ?hd (cs := #[.int .i64 0, .int .i64 0, .int .i64 0, .int .i64 0, .slice none 0 0, .slice none 0 0, .slice none 0 0, .int .i64 0, .int .i64 0, .int .i64 0, .string (⟨#[]⟩ : ByteArray), .int .i64 0, .slice none 0 0]) (t := 27) ?hr ?_; (case hd => rfl); (case hg => rfl); (case hr => first | (go_simp; done) | (go_simp; rfl)); intro B hg w1 hbox hb; have HB1 := Aside0.mk hbox; have HW1 := Aside0.mk hb; have HGE := Aside0.mk (show w.heap.size ≤ B by rw [hg]; exact Nat.le_refl _); clear hbox hb hg)))
    have HF := Aside0.mk ((G6.out.set13 (.int .i64 x0) (.int .i64 x1) (.int .i64 x2) (.int .i64 x3) (.slice A4 l4.length c4) (.slice A5 l5.length c5) (.slice A6 l6.length c6) (.int .i64 x7) (.int .i64 x8) (.int .i64 x9) (.string x10) (.int .i64 x11) (.slice A12 l12.length c12)).seti 0)
    have G7 := Aside0.mk (G6.out.set13 (.int .i64 x0) (.int .i64 x1) (.int .i64 x2) (.int .i64 x3) (.slice A4 l4.length c4) (.slice A5 l5.length c5) (.slice A6 l6.length c6) (.int .i64 x7) (.int .i64 x8) (.int .i64 x9) (.string x10) (.int .i64 x11) (.slice A12 l12.length c12))
    exact cmd_Get.door rfl rfl rfl HF.out.b1 HF.out.b2 ⟨_, rfl, ⟨_, _, _, _, rfl, Kd.R_set (cmd_Get.far13 S4.out G6.out.b1 (by decide) (.int .i64 x0) (.int .i64 x1) (.int .i64 x2) (.int .i64 x3) (.slice A4 l4.length c4) (.slice A5 l5.length c5) (.slice A6 l6.length c6) (.int .i64 x7) (.int .i64 x8) (.int .i64 x9) (.string x10) (.int .i64 x11) (.slice A12 l12.length c12)) G7.out.b2 (by decide) 0 _, Kd.R_set (cmd_Get.far13 S5.out G6.out.b1 (by decide) (.int .i64 x0) (.int .i64 x1) (.int .i64 x2) (.int .i64 x3) (.slice A4 l4.length c4) (.slice A5 l5.length c5) (.slice A6 l6.length c6) (.int .i64 x7) (.int .i64 x8) (.int .i64 x9) (.string x10) (.int .i64 x11) (.slice A12 l12.length c12)) G7.out.b2 (by decide) 0 _, Kd.R_set (cmd_Get.far13 S6.out G6.out.b1 (by decide) (.int .i64 x0) (.int .i64 x1) (.int .i64 x2) (.int .i64 x3) (.slice A4 l4.length c4) (.slice A5 l5.length c5) (.slice A6 l6.length c6) (.int .i64 x7) (.int .i64 x8) (.int .i64 x9) (.string x10) (.int .i64 x11) (.slice A12 l12.length c12)) G7.out.b2 (by decide) 0 _, Kd.R_set (cmd_Get.far13 S12.out G6.out.b1 (by decide) (.int .i64 x0) (.int .i64 x1) (.int .i64 x2) (.int .i64 x3) (.slice A4 l4.length c4) (.slice A5 l5.length c5) (.slice A6 l6.length c6) (.int .i64 x7) (.int .i64 x8) (.int .i64 x9) (.string x10) (.int .i64 x11) (.slice A12 l12.length c12)) G7.out.b2 (by decide) 0 _⟩, HF.out.below⟩
/-- A command that was read, kept in a block of the caller's own. -/
structure cmd_Get.Hd (B : Nat) (w W : World) (c : cmd_Get.Cm) (A4 : Option Addr) (c4 : Nat) (A5 : Option Addr) (c5 : Nat) (A6 : Option Addr) (c6 : Nat) (A12 : Option Addr) (c12 : Nat) : Prop where
 below : Below w.heap.size w W
 ge : w.heap.size ≤ B
 blk : W.heap[B]? = some (.cells #[.int .i64 c.a0, .int .i64 c.a1, .int .i64 c.a2, .int .i64 c.a3, .slice A4 c.l4.length c4, .slice A5 c.l5.length c5, .slice A6 c.l6.length c6, .int .i64 c.a7, .int .i64 c.a8, .int .i64 c.a9, .string c.a10, .int .i64 c.a11, .slice A12 c.l12.length c12] 27 (0, 0))
 r4 : Kd.string.R 9 W w.heap.size (fun _ => True) (.slice A4 c.l4.length c4) c.l4
 h4 : c.l4.length ≤ c4
 r5 : k50.R 50 W w.heap.size (fun _ => True) (.slice A5 c.l5.length c5) c.l5
 h5 : c.l5.length ≤ c5
 r6 : k41.R 41 W w.heap.size (fun _ => True) (.slice A6 c.l6.length c6) c.l6
 h6 : c.l6.length ≤ c6
 r12 : Kd.R (Kd.slice 45 k45) 42 W w.heap.size (fun _ => True) (.slice A12 c.l12.length c12) c.l12
 h12 : c.l12.length ≤ c12
theorem cmd_Get.Hd.go {B : Nat} {w W W' : World} {c : cmd_Get.Cm} {A4 : Option Addr} {c4 : Nat} {A5 : Option Addr} {c5 : Nat} {A6 : Option Addr} {c6 : Nat} {A12 : Option Addr} {c12 : Nat} (h : cmd_Get.Hd B w W c A4 c4 A5 c5 A6 c6 A12 c12) (hb : Below W.heap.size W W') : cmd_Get.Hd B w W' c A4 c4 A5 c5 A6 c6 A12 c12 :=
 ⟨zS h.below hb, h.ge, yB h.blk hb, Kd.R_below h.r4 hb, h.h4, Kd.R_below h.r5 hb, h.h5, Kd.R_below h.r6 hb, h.h6, Kd.R_below h.r12 hb, h.h12⟩
theorem cmd_Get.Hd.make {B : Nat} {w W W' : World} {c : cmd_Get.Cm} {A4 : Option Addr} {c4 : Nat} {A5 : Option Addr} {c5 : Nat} {A6 : Option Addr} {c6 : Nat} {A12 : Option Addr} {c12 : Nat} (hB : Below w.heap.size w W) (r4 : Kd.string.R 9 W w.heap.size (fun _ => True) (.slice A4 c.l4.length c4) c.l4) (h4 : c.l4.length ≤ c4) (r5 : k50.R 50 W w.heap.size (fun _ => True) (.slice A5 c.l5.length c5) c.l5) (h5 : c.l5.length ≤ c5) (r6 : k41.R 41 W w.heap.size (fun _ => True) (.slice A6 c.l6.length c6) c.l6) (h6 : c.l6.length ≤ c6) (r12 : Kd.R (Kd.slice 45 k45) 42 W w.heap.size (fun _ => True) (.slice A12 c.l12.length c12) c.l12) (h12 : c.l12.length ≤ c12) (hg : B = W.heap.size) (hbox : W'.heap[B]? = some (.cells #[.int .i64 0, .int .i64 0, .int .i64 0, .int .i64 0, .slice none 0 0, .slice none 0 0, .slice none 0 0, .int .i64 0, .int .i64 0, .int .i64 0, .string (⟨#[]⟩ : ByteArray), .int .i64 0, .slice none 0 0] 27 (0, 0))) (hb : Below W.heap.size W W') : cmd_Get.Hd B w (((((((((((((W'.setCell ⟨B, 0, none⟩ (.int .i64 c.a0)).setCell ⟨B, 1, none⟩ (.int .i64 c.a1)).setCell ⟨B, 2, none⟩ (.int .i64 c.a2)).setCell ⟨B, 3, none⟩ (.int .i64 c.a3)).setCell ⟨B, 4, none⟩ (.slice A4 c.l4.length c4)).setCell ⟨B, 5, none⟩ (.slice A5 c.l5.length c5)).setCell ⟨B, 6, none⟩ (.slice A6 c.l6.length c6)).setCell ⟨B, 7, none⟩ (.int .i64 c.a7)).setCell ⟨B, 8, none⟩ (.int .i64 c.a8)).setCell ⟨B, 9, none⟩ (.int .i64 c.a9)).setCell ⟨B, 10, none⟩ (.string c.a10)).setCell ⟨B, 11, none⟩ (.int .i64 c.a11)).setCell ⟨B, 12, none⟩ (.slice A12 c.l12.length c12)) c A4 c4 A5 c5 A6 c6 A12 c12 :=
 have hge : w.heap.size ≤ B := by rw [hg]; exact hB.size
 ⟨below_set (below_set (below_set (below_set (below_set (below_set (below_set (below_set (below_set (below_set (below_set (below_set (below_set (zS hB hb) hge) hge) hge) hge) hge) hge) hge) hge) hge) hge) hge) hge) hge, hge, cmd_Get.out13 hbox (.int .i64 c.a0) (.int .i64 c.a1) (.int .i64 c.a2) (.int .i64 c.a3) (.slice A4 c.l4.length c4) (.slice A5 c.l5.length c5) (.slice A6 c.l6.length c6) (.int .i64 c.a7) (.int .i64 c.a8) (.int .i64 c.a9) (.string c.a10) (.int .i64 c.a11) (.slice A12 c.l12.length c12), cmd_Get.far13 (Kd.R_below r4 hb) hbox (by decide) (.int .i64 c.a0) (.int .i64 c.a1) (.int .i64 c.a2) (.int .i64 c.a3) (.slice A4 c.l4.length c4) (.slice A5 c.l5.length c5) (.slice A6 c.l6.length c6) (.int .i64 c.a7) (.int .i64 c.a8) (.int .i64 c.a9) (.string c.a10) (.int .i64 c.a11) (.slice A12 c.l12.length c12), h4, cmd_Get.far13 (Kd.R_below r5 hb) hbox (by decide) (.int .i64 c.a0) (.int .i64 c.a1) (.int .i64 c.a2) (.int .i64 c.a3) (.slice A4 c.l4.length c4) (.slice A5 c.l5.length c5) (.slice A6 c.l6.length c6) (.int .i64 c.a7) (.int .i64 c.a8) (.int .i64 c.a9) (.string c.a10) (.int .i64 c.a11) (.slice A12 c.l12.length c12), h5, cmd_Get.far13 (Kd.R_below r6 hb) hbox (by decide) (.int .i64 c.a0) (.int .i64 c.a1) (.int .i64 c.a2) (.int .i64 c.a3) (.slice A4 c.l4.length c4) (.slice A5 c.l5.length c5) (.slice A6 c.l6.length c6) (.int .i64 c.a7) (.int .i64 c.a8) (.int .i64 c.a9) (.string c.a10) (.int .i64 c.a11) (.slice A12 c.l12.length c12), h6, cmd_Get.far13 (Kd.R_below r12 hb) hbox (by decide) (.int .i64 c.a0) (.int .i64 c.a1) (.int .i64 c.a2) (.int .i64 c.a3) (.slice A4 c.l4.length c4) (.slice A5 c.l5.length c5) (.slice A6 c.l6.length c6) (.int .i64 c.a7) (.int .i64 c.a8) (.int .i64 c.a9) (.string c.a10) (.int .i64 c.a11) (.slice A12 c.l12.length c12), h12⟩

end Go.Proofs.Ytikiegglebgmpaa.PA
