/- Contracts of the Go functions of this seat: what each call returns is what a Lean function of its arguments says; each theorem bears its own conditions. Written by a program of this session (wip/tools/mkprint.py). -/
import Derived.Test.YtikiegglebgmpaaCTx0
import Derived.Test.YtikiegglebgmpaaCTx5
-- squeezed
namespace Go.Proofs.Ytikiegglebgmpaa.PA
open Go.RowKit Go.Proofs.YtikiegglebgmpaaW.PrintWords Go.Proofs.YtikiegglebgmpaaW.PrintLast Go.Proofs.YtikiegglebgmpaaW.PrintMore
attribute [local go_sem] max2_int min2_int max_two min_two max_three min_three max_four min_four   -- for this text's walks alone
set_option linter.unusedVariables false
set_option linter.unusedSimpArgs false

attribute [local go_sem ↓ high] unary_xor_u32 ux_if_u32
attribute [local go_sem] str_gtr str_leq str_geq
/-! ### cmd_writes: function 19 -/
attribute [local go_sem] str_leq
/-- May a write be, behind another one's key? -/
def cmd_writes.ok (p : Option ByteArray) (x : S41) : Bool := decide (x.f0.size ≤ 1000) && (decide (x.f1.size ≤ 10000) && (!(x.f2 && x.f1.toList != []) && (match p with | none => true | some q => Op.bytesLess q.toList x.f0.toList)))
def cmd_writes.chk : Option ByteArray → List S41 → Bool
 | _, [] => true
 | p, x :: r => cmd_writes.ok p x && cmd_writes.chk (some x.f0) r
/-- The key ahead of a place. -/
def cmd_writes.pv (l : List S41) : Nat → Option ByteArray
 | 0 => none
 | n + 1 => some (l.getD n z41).f0
def cmd_writes.f (a0_0 a0_1 a0_2 a0_3 : Int) (l0_4 : List ByteArray) (l0_5 : List (S50)) (l0_6 : List (S41)) (a0_7 a0_8 a0_9 : Int) (a0_10 : ByteArray) (a0_11 : Int) (l0_12 : List (List (S45))) : Option Bool :=
 if l0_6.length < 800000000 then some (cmd_writes.chk none l0_6 && decide ((l0_6.length : Int) ≤ 200)) else none
theorem cmd_writes.short (s : ByteArray) : cmd_short.f 3 [s] = some (decide (s.size ≤ 1000)) := by
 have e : rdOf ByteArray.empty [s] 0 = s := rfl
 have e1 : wrap64 (1 : Int) = 1 := by unfold wrap64; omega
 by_cases h : ((s.size : Int) > 1000)
 ·have h2 : ¬ s.size ≤ 1000 := by omega
  simp [cmd_short.f, cmd_short.l0, e, h, h2]
 ·have h2 : s.size ≤ 1000 := by omega
  simp [cmd_short.f, cmd_short.l0, e, e1, h, h2]
theorem cmd_writes.drop_at {l : List S41} {n : Nat} (h : n < l.length) : l.drop n = l.getD n z41 :: l.drop (n + 1) := by
 rw [List.drop_eq_getElem_cons h, List.getD_eq_getElem?_getD, List.getElem?_eq_getElem h, Option.getD_some]
theorem cmd_writes.chk_step {l : List S41} {n : Nat} {v : S41} (h : l.drop n = v :: l.drop (n + 1)) (p : Option ByteArray) : cmd_writes.chk p (l.drop n) = (cmd_writes.ok p v && cmd_writes.chk (some v.f0) (l.drop (n + 1))) := by
 rw [h]; rfl
theorem cmd_writes.step1 {x s : Int} {n : Nat} (hs : wrap64 (x + 1) = s) (h0 : 0 ≤ x) (hl : x < (n : Int)) (hn : n < 800000000) : s = x + 1 ∧ 0 ≤ s ∧ s ≤ (n : Int) ∧ s.toNat = x.toNat + 1 := by
 have e : s = x + 1 := by rw [← hs]; unfold wrap64; omega
 subst e
 clear hs
 omega
theorem cmd_writes.back1 {x s : Int} {l : List S41} (hs : wrap64 (x - 1) = s) (h0 : 0 < x) (hl : x < (l.length : Int)) (hn : l.length < 800000000) : 0 ≤ s ∧ s < (l.length : Int) ∧ cmd_writes.pv l x.toNat = some (rd_T41 l s).f0 := by
 have e : s = x - 1 := by rw [← hs]; unfold wrap64; omega
 subst e
 clear hs
 refine ⟨by omega, by omega, ?_⟩
 obtain ⟨m, hm⟩ : ∃ m, x.toNat = m + 1 := ⟨x.toNat - 1, by omega⟩
 have hm2 : (x - 1).toNat = m := by omega
 rw [hm, rd_T41, hm2]
 rfl
theorem cmd_writes.cas {x : Int} (h : 0 ≤ x) : x = 0 ∨ 0 < x := by omega
def cmd_writes.T4 : Bool × List (List Nat × List Nat) := (true, [([], []), ([0], [0]), ([1], [1]), ([2], [2]), ([3], [3]), ([4, 3], [4]), ([5], [5]), ([6, 5], [5, 6]), ([7, 5], [5, 7]), ([8, 5], [5, 8]), ([5, 9], [5, 9]), ([10, 5], [10]), ([11], [11]), ([12, 11], [11, 12]), ([13, 11, 11], [11, 13]), ([14], [14]), ([15, 14], [14, 15]), ([16, 14], [14, 16]), ([14, 17, 11], [11, 14, 17]), ([11, 18], [11, 18]), ([19, 14], [19]), ([20], [20]), ([21, 20], [20, 21]), ([22, 20, 20], [20, 22]), ([23], [23]), ([24, 23], [23, 24]), ([23], [23]), ([26, 23], [23, 26]), ([23], [23]), ([28, 23], [23, 28]), ([27, 29, 23], [23, 27, 29]), ([30, 23], [23, 30]), ([31, 23], [23, 31]), ([25, 32, 23], [23, 25, 32]), ([23, 33, 20], [20, 23, 33]), ([20, 34], [20, 34])])
def cmd_writes.B4 : List Nat := [0, 1, 3, 7, 15, 31, 63, 127, 255, 511, 1023, 2047, 4095, 8191, 16383, 32767, 65535, 131071, 262143, 524287, 1048575, 2097151, 4194303, 8388607, 16777215, 33554431, 16777215, 83886079, 16777215, 285212671, 1023410175, 2097151999, 4244635647, 8589934591, 17179869183, 34359738367]
theorem cmd_writes.tab4 : rtab .any (opsOf Try.f19 4) = cmd_writes.T4 := by kernel_rfl
theorem cmd_writes.bits4 : waitsOk cmd_writes.T4.2 cmd_writes.B4 = true := by kernel_rfl
abbrev cmd_writes.m0 : Array Bool := #[false, false, false, false, false, false, false, false, false, false, false, false, false, false, false, false, false, false, false, false, false, false, false, false, false, false, false, false, false, false, false, false, false, false, false, false]
abbrev cmd_writes.m1 : Array Bool := #[true, false, false, false, false, false, false, false, false, false, false, false, false, false, false, false, false, false, false, false, false, false, false, false, false, false, false, false, false, false, false, false, false, false, false, false]
abbrev cmd_writes.m2 : Array Bool := #[true, true, false, false, false, false, false, false, false, false, false, false, false, false, false, false, false, false, false, false, false, false, false, false, false, false, false, false, false, false, false, false, false, false, false, false]
abbrev cmd_writes.m3 : Array Bool := #[true, true, true, false, false, false, false, false, false, false, false, false, false, false, false, false, false, false, false, false, false, false, false, false, false, false, false, false, false, false, false, false, false, false, false, false]
abbrev cmd_writes.m4 : Array Bool := #[true, true, true, true, false, false, false, false, false, false, false, false, false, false, false, false, false, false, false, false, false, false, false, false, false, false, false, false, false, false, false, false, false, false, false, false]
abbrev cmd_writes.m5 : Array Bool := #[true, true, true, true, true, false, false, false, false, false, false, false, false, false, false, false, false, false, false, false, false, false, false, false, false, false, false, false, false, false, false, false, false, false, false, false]
abbrev cmd_writes.m6 : Array Bool := #[true, true, true, true, true, true, false, false, false, false, false, false, false, false, false, false, false, false, false, false, false, false, false, false, false, false, false, false, false, false, false, false, false, false, false, false]
abbrev cmd_writes.m7 : Array Bool := #[true, true, true, true, true, true, true, false, false, false, false, false, false, false, false, false, false, false, false, false, false, false, false, false, false, false, false, false, false, false, false, false, false, false, false, false]
abbrev cmd_writes.m8 : Array Bool := #[true, true, true, true, true, true, true, true, false, false, false, false, false, false, false, false, false, false, false, false, false, false, false, false, false, false, false, false, false, false, false, false, false, false, false, false]
abbrev cmd_writes.m9 : Array Bool := #[true, true, true, true, true, true, true, true, true, false, false, false, false, false, false, false, false, false, false, false, false, false, false, false, false, false, false, false, false, false, false, false, false, false, false, false]
abbrev cmd_writes.m10 : Array Bool := #[true, true, true, true, true, true, true, true, true, true, false, false, false, false, false, false, false, false, false, false, false, false, false, false, false, false, false, false, false, false, false, false, false, false, false, false]
abbrev cmd_writes.m11 : Array Bool := #[true, true, true, true, true, true, true, true, true, true, true, false, false, false, false, false, false, false, false, false, false, false, false, false, false, false, false, false, false, false, false, false, false, false, false, false]
abbrev cmd_writes.m12 : Array Bool := #[true, true, true, true, true, true, true, true, true, true, true, true, false, false, false, false, false, false, false, false, false, false, false, false, false, false, false, false, false, false, false, false, false, false, false, false]
abbrev cmd_writes.m13 : Array Bool := #[true, true, true, true, true, true, true, true, true, true, true, true, true, false, false, false, false, false, false, false, false, false, false, false, false, false, false, false, false, false, false, false, false, false, false, false]
abbrev cmd_writes.m14 : Array Bool := #[true, true, true, true, true, true, true, true, true, true, true, true, true, true, false, false, false, false, false, false, false, false, false, false, false, false, false, false, false, false, false, false, false, false, false, false]
abbrev cmd_writes.m15 : Array Bool := #[true, true, true, true, true, true, true, true, true, true, true, true, true, true, true, false, false, false, false, false, false, false, false, false, false, false, false, false, false, false, false, false, false, false, false, false]
abbrev cmd_writes.m16 : Array Bool := #[true, true, true, true, true, true, true, true, true, true, true, true, true, true, true, true, false, false, false, false, false, false, false, false, false, false, false, false, false, false, false, false, false, false, false, false]
abbrev cmd_writes.m17 : Array Bool := #[true, true, true, true, true, true, true, true, true, true, true, true, true, true, true, true, true, false, false, false, false, false, false, false, false, false, false, false, false, false, false, false, false, false, false, false]
abbrev cmd_writes.m18 : Array Bool := #[true, true, true, true, true, true, true, true, true, true, true, true, true, true, true, true, true, true, false, false, false, false, false, false, false, false, false, false, false, false, false, false, false, false, false, false]
abbrev cmd_writes.m19 : Array Bool := #[true, true, true, true, true, true, true, true, true, true, true, true, true, true, true, true, true, true, true, false, false, false, false, false, false, false, false, false, false, false, false, false, false, false, false, false]
abbrev cmd_writes.m20 : Array Bool := #[true, true, true, true, true, true, true, true, true, true, true, true, true, true, true, true, true, true, true, true, false, false, false, false, false, false, false, false, false, false, false, false, false, false, false, false]
abbrev cmd_writes.m21 : Array Bool := #[true, true, true, true, true, true, true, true, true, true, true, true, true, true, true, true, true, true, true, true, true, false, false, false, false, false, false, false, false, false, false, false, false, false, false, false]
abbrev cmd_writes.m22 : Array Bool := #[true, true, true, true, true, true, true, true, true, true, true, true, true, true, true, true, true, true, true, true, true, true, false, false, false, false, false, false, false, false, false, false, false, false, false, false]
abbrev cmd_writes.m23 : Array Bool := #[true, true, true, true, true, true, true, true, true, true, true, true, true, true, true, true, true, true, true, true, true, true, true, false, false, false, false, false, false, false, false, false, false, false, false, false]
abbrev cmd_writes.m24 : Array Bool := #[true, true, true, true, true, true, true, true, true, true, true, true, true, true, true, true, true, true, true, true, true, true, true, true, false, false, false, false, false, false, false, false, false, false, false, false]
abbrev cmd_writes.m25 : Array Bool := #[true, true, true, true, true, true, true, true, true, true, true, true, true, true, true, true, true, true, true, true, true, true, true, true, true, false, false, false, false, false, false, false, false, false, false, false]
abbrev cmd_writes.m26 : Array Bool := #[true, true, true, true, true, true, true, true, true, true, true, true, true, true, true, true, true, true, true, true, true, true, true, true, true, false, true, false, false, false, false, false, false, false, false, false]
abbrev cmd_writes.m27 : Array Bool := #[true, true, true, true, true, true, true, true, true, true, true, true, true, true, true, true, true, true, true, true, true, true, true, true, true, false, true, false, true, false, false, false, false, false, false, false]
abbrev cmd_writes.m28 : Array Bool := #[true, true, true, true, true, true, true, true, true, true, true, true, true, true, true, true, true, true, true, true, true, true, true, true, true, false, true, false, true, true, false, false, false, false, false, false]
abbrev cmd_writes.m29 : Array Bool := #[true, true, true, true, true, true, true, true, true, true, true, true, true, true, true, true, true, true, true, true, true, true, true, true, true, true, true, false, true, true, false, false, false, false, false, false]
abbrev cmd_writes.m30 : Array Bool := #[true, true, true, true, true, true, true, true, true, true, true, true, true, true, true, true, true, true, true, true, true, true, true, true, true, true, true, true, true, true, false, false, false, false, false, false]
abbrev cmd_writes.m31 : Array Bool := #[true, true, true, true, true, true, true, true, true, true, true, true, true, true, true, true, true, true, true, true, true, true, true, true, true, true, true, true, true, true, true, false, false, false, false, false]
abbrev cmd_writes.m32 : Array Bool := #[true, true, true, true, true, true, true, true, true, true, true, true, true, true, true, true, true, true, true, true, true, true, true, true, true, true, true, true, true, true, true, true, false, false, false, false]
abbrev cmd_writes.m33 : Array Bool := #[true, true, true, true, true, true, true, true, true, true, true, true, true, true, true, true, true, true, true, true, true, true, true, true, true, true, true, true, true, true, true, true, true, false, false, false]
abbrev cmd_writes.m34 : Array Bool := #[true, true, true, true, true, true, true, true, true, true, true, true, true, true, true, true, true, true, true, true, true, true, true, true, true, true, true, true, true, true, true, true, true, true, false, false]
abbrev cmd_writes.m35 : Array Bool := #[true, true, true, true, true, true, true, true, true, true, true, true, true, true, true, true, true, true, true, true, true, true, true, true, true, true, true, true, true, true, true, true, true, true, true, false]
abbrev cmd_writes.m36 : Array Bool := #[true, true, true, true, true, true, true, true, true, true, true, true, true, true, true, true, true, true, true, true, true, true, true, true, true, true, true, true, true, true, true, true, true, true, true, true]
theorem cmd_writes.paths (P : Option ByteArray) (x s0 : Int) (v0 v1 u0 : ByteArray) (v2 : Bool) (l : Nat)
  (hX : (decide (0 < x) = false ∧ P = none) ∨ (decide (0 < x) = true ∧ IntKind.i64.wrap (x - 1) = s0 ∧ wrap64 (x - 1) = s0 ∧ ((0 ≤ s0) = True) ∧ ((s0 < (l : Int)) = True) ∧ P = some u0)) :
  (cmd_short.f 3 [v0] = some false ∧ cmd_writes.ok P ⟨v0, v1, v2⟩ = false) ∨
  (cmd_short.f 3 [v0] = some true ∧ (decide (10000 < (v1.size : Int)) = true ∧ cmd_writes.ok P ⟨v0, v1, v2⟩ = false ∨ decide (10000 < (v1.size : Int)) = false ∧
   (((v2 = true ∧ (v1.toList == ([] : List UInt8)) = false ∧ (v1.toList != ([] : List UInt8)) = true ∧ cmd_writes.ok P ⟨v0, v1, v2⟩ = false)) ∨
    ((v2 = false ∨ v2 = true ∧ (v1.toList == ([] : List UInt8)) = true ∧ (v1.toList != ([] : List UInt8)) = false) ∧
     (decide (0 < x) = false ∧ cmd_writes.ok P ⟨v0, v1, v2⟩ = true ∨
     decide (0 < x) = true ∧ IntKind.i64.wrap (x - 1) = s0 ∧ wrap64 (x - 1) = s0 ∧ ((0 ≤ s0) = True) ∧ ((s0 < (l : Int)) = True) ∧
      (Op.bytesLess u0.toList v0.toList = true ∧ cmd_writes.ok P ⟨v0, v1, v2⟩ = true ∨ Op.bytesLess u0.toList v0.toList = false ∧ cmd_writes.ok P ⟨v0, v1, v2⟩ = false)))))) := by
 rw [cmd_writes.short]
 by_cases c1 : v0.size ≤ 1000
 ·refine Or.inr ⟨by rw [decide_eq_true c1], ?_⟩
  by_cases c2 : v1.size ≤ 10000
  ·refine Or.inr ⟨decide_eq_false (by omega), ?_⟩
   by_cases c3 : v2 = true ∧ (v1.toList == ([] : List UInt8)) = false
   ·refine Or.inl ⟨c3.1, c3.2, by simp [bne, c3.2], ?_⟩
    simp [cmd_writes.ok, c3.1, bne, c3.2]
   ·have c4 : (v2 && v1.toList != ([] : List UInt8)) = false := by
     cases v2 with
     | false => rfl
     | true => simpa [bne] using c3
    refine Or.inr ⟨?_, ?_⟩
    ·cases v2 with
     | false => exact Or.inl rfl
     | true => exact Or.inr ⟨rfl, by simpa using c3, by simpa [bne] using c3⟩
    ·have e : ∀ p, cmd_writes.ok p ⟨v0, v1, v2⟩ = (match p with | none => true | some q => Op.bytesLess q.toList v0.toList) := by
      intro p
      unfold cmd_writes.ok
      simp only [c4, decide_eq_true c1, decide_eq_true c2, Bool.not_false, Bool.true_and]
     rw [e]
     rcases hX with ⟨h1, rfl⟩ | ⟨h1, h2, h3, h4, h5, rfl⟩
     ·exact Or.inl ⟨h1, rfl⟩
     ·refine Or.inr ⟨h1, h2, h3, h4, h5, ?_⟩
      cases hb : Op.bytesLess u0.toList v0.toList with
      | true => exact Or.inl ⟨rfl, hb⟩
      | false => exact Or.inr ⟨rfl, hb⟩
  ·exact Or.inl ⟨decide_eq_true (by omega), by simp [cmd_writes.ok, c2]⟩
 ·exact Or.inl ⟨by rw [decide_eq_false c1], by simp [cmd_writes.ok, c1]⟩
set_option maxHeartbeats 16000000 in
set_option maxRecDepth 100000 in
theorem cmd_writes.calls (a0_0 : Int) (a0_1 : Int) (a0_2 : Int) (a0_3 : Int) (A0_4 : Option Addr) (c0_4 : Nat) (l0_4 : List ByteArray) (A0_5 : Option Addr) (c0_5 : Nat) (l0_5 : List (S50)) (A0_6 : Option Addr) (c0_6 : Nat) (l0_6 : List (S41)) (a0_7 : Int) (a0_8 : Int) (a0_9 : Int) (a0_10 : ByteArray) (a0_11 : Int) (A0_12 : Option Addr) (c0_12 : Nat) (l0_12 : List (List (S45))) (r : Bool) (w : World) (hr0_4 : Kd.C Kd.string w A0_4 l0_4.length l0_4) (hc0_4 : l0_4.length ≤ c0_4) (hr0_5 : Kd.C k50 w A0_5 l0_5.length l0_5) (hc0_5 : l0_5.length ≤ c0_5) (hr0_6 : Kd.C k41 w A0_6 l0_6.length l0_6) (hc0_6 : l0_6.length ≤ c0_6) (hr0_12 : Kd.C (Kd.slice 45 k45) w A0_12 l0_12.length l0_12) (hc0_12 : l0_12.length ≤ c0_12) (h : cmd_writes.f a0_0 a0_1 a0_2 a0_3 l0_4 l0_5 l0_6 a0_7 a0_8 a0_9 a0_10 a0_11 l0_12 = some r) :
  Calls Try.prog 19 #[.agg #[.int .i64 a0_0, .int .i64 a0_1, .int .i64 a0_2, .int .i64 a0_3, .slice A0_4 l0_4.length c0_4, .slice A0_5 l0_5.length c0_5, .slice A0_6 l0_6.length c0_6, .int .i64 a0_7, .int .i64 a0_8, .int .i64 a0_9, .string a0_10, .int .i64 a0_11, .slice A0_12 l0_12.length c0_12]] w fun e w' => e = .returned (.bool r) ∧ Below w.heap.size w w' := by
 have hu27 := Try.underlying27
 have hu41 := Try.underlying41
 have H6 := Aside0.mk hr0_6
 clear hr0_4 hc0_4 hr0_5 hc0_5 hr0_6 hc0_6 hr0_12 hc0_12
 rw [cmd_writes.f] at h
 by_cases hl : l0_6.length < 800000000
 ·rw [if_pos hl] at h
  have HL := Aside0.mk hl
  obtain ⟨rr, hrr⟩ : ∃ rr, cmd_writes.chk none l0_6 = rr := ⟨_, rfl⟩
  rw [hrr] at h
  have HA0 := Aside0.mk hrr
  have HR := Aside0.mk (Option.some.inj h)
  clear hrr h hl
  have HB0 := Aside0.mk (Below.refl w.heap.size w)
  go_enter Try.func19, Try.ntmps19
  go_wp2_with ((with_reducible refine gate_dst (N := 1) rfl ?_); (try (refine gate_guard (by rfl) ?_; dsimp only)); go_loud (refine box_event ?hg (N := 1) ?hd (cs := #[.int .i64 a0_0, .int .i64 a0_1, .int .i64 a0_2, .int .i64 a0_3, .slice A0_4 l0_4.length c0_4, .slice A0_5 l0_5.length c0_5, .slice A0_6 l0_6.length c0_6, .int .i64 a0_7, .int .i64 a0_8, .int .i64 a0_9, .string a0_10, .int .i64 a0_11, .slice A0_12 l0_12.length c0_12]) (t := 27) ?hr ?_; (case hd => rfl); (case hg => rfl); (case hr => first | (go_simp; done) | (go_simp; rfl)); intro g hg w1 hbox hb; have HQ1 := Aside0.mk hbox; have HB1 := Aside0.mk hb; clear hbox hb hg; have k6_w1 : w1.cell? ⟨g, 6, none⟩ = some (.slice A0_6 l0_6.length c0_6) := (blk_cell HQ1.out 6).trans rfl))
  go_loopw [8] (fun vi wr => ∃ x : Int, 0 ≤ x ∧ x ≤ (l0_6.length : Int) ∧ vi = .int .i64 x ∧ Aside0 (wr.heap[g]? = some (.cells #[.int .i64 a0_0, .int .i64 a0_1, .int .i64 a0_2, .int .i64 a0_3, .slice A0_4 l0_4.length c0_4, .slice A0_5 l0_5.length c0_5, .slice A0_6 l0_6.length c0_6, .int .i64 a0_7, .int .i64 a0_8, .int .i64 a0_9, .string a0_10, .int .i64 a0_11, .slice A0_12 l0_12.length c0_12] 27 (0, 0))) ∧ Aside0 (Below w.heap.size w wr) ∧ Aside0 (cmd_writes.chk (cmd_writes.pv l0_6 x.toNat) (l0_6.drop x.toNat) = rr)) (fun v _ => l0_6.length - (intOf v).toNat)
  case atStart => exact ⟨0, by omega, by omega, rfl, ⟨HQ1.out⟩, ⟨HB1.out⟩, ⟨HA0.out⟩⟩
  case round =>
   obtain ⟨x, h0, h8, rfl, HQ, HB, HA⟩ := hrel
   by_cases hlt : x < (l0_6.length : Int)
   ·have q3 : decide (x < (l0_6.length : Int)) = true := decide_eq_true hlt
    have hxl : x.toNat < l0_6.length := by omega
    obtain ⟨ad, e0, m0, m1, m2⟩ := at_T41 H6.out x h0 hlt
    cases e0
    obtain ⟨v, hv⟩ : ∃ v, rd_T41 l0_6 x = v := ⟨_, rfl⟩
    rw [hv] at m0 m1 m2
    have HD := Aside0.mk (show l0_6.drop x.toNat = v :: l0_6.drop (x.toNat + 1) from hv ▸ cmd_writes.drop_at hxl)
    have HMW := Aside0.mk m0
    have HV := Aside0.mk (show cmd_writes.pv l0_6 (x.toNat + 1) = some v.f0 by rw [← hv]; rfl)
    replace m0 := pw_cell_below HB.out m0
    replace m1 := pw_cell_below HB.out m1
    replace m2 := pw_cell_below HB.out m2
    obtain ⟨s1, hs1⟩ : ∃ s, wrap64 (x + 1) = s := ⟨_, rfl⟩
    have T1 := Aside0.mk (cmd_writes.step1 hs1 h0 hlt HL.out)
    have HS1 := Aside0.mk (show Value.int .i64 (wrap64 (x + 1)) = .int .i64 s1 by rw [hs1])
    have TX := Aside0.mk (And.intro h0 hlt)
    have p6 := eq_true h0
    have q6 := eq_true hlt
    have HA2 := Aside0.mk ((cmd_writes.chk_step HD.out _).symm.trans HA.out)
    clear HA hv hxl
    have k6_r : wr.cell? ⟨g, 6, none⟩ = some (.slice (some ad) l0_6.length c0_6) := (blk_cell HQ.out 6).trans rfl
    obtain ⟨v0, v1, v2⟩ := v
    have HN : Aside0 (∀ b, cmd_writes.ok (cmd_writes.pv l0_6 x.toNat) ⟨v0, v1, v2⟩ = b → (if b = true then cmd_writes.chk (cmd_writes.pv l0_6 s1.toNat) (l0_6.drop s1.toNat) = rr else rr = false)) := ⟨by
     intro b hb
     have := HA2.out
     rw [hb] at this
     cases b with
     | false => exact this.symm
     | true => rw [if_pos rfl, T1.out.2.2.2, HV.out]; exact this⟩
    clear HA2
    have HM1 : Aside0 (l0_6.length - (intOf (.int .i64 (wrap64 (x + 1)))).toNat < l0_6.length - (intOf (.int .i64 x)).toNat) := Aside0.mk (show l0_6.length - (wrap64 (x + 1)).toNat < l0_6.length - x.toNat by rw [hs1]; have h1 := T1.out.2.2.2; have h2 := TX.out; omega)
    have HN0 : Aside0 (∃ (s0 : Int) (u0 : ByteArray), w.cell? (ad.add (s0.toNat * 3)) = some (.string u0) ∧ ((decide (0 < x) = false ∧ cmd_writes.pv l0_6 x.toNat = none) ∨ (decide (0 < x) = true ∧ IntKind.i64.wrap (x - 1) = s0 ∧ wrap64 (x - 1) = s0 ∧ ((0 ≤ s0) = True) ∧ ((s0 < (l0_6.length : Int)) = True) ∧ cmd_writes.pv l0_6 x.toNat = some u0))) := ⟨by
     rcases cmd_writes.cas h0 with hx0 | hpos
     ·exact ⟨x, v0, HMW.out, Or.inl ⟨decide_eq_false (by omega), by rw [hx0]; rfl⟩⟩
     ·obtain ⟨s0, hs0⟩ : ∃ s, wrap64 (x - 1) = s := ⟨_, rfl⟩
      obtain ⟨t0, t1, hp⟩ := cmd_writes.back1 hs0 hpos hlt HL.out
      obtain ⟨ad2, e2, n0, n1, n2⟩ := at_T41 H6.out s0 t0 t1
      injection e2 with e2
      subst e2
      exact ⟨s0, _, n0, Or.inr ⟨decide_eq_true hpos, (i64_w _).trans hs0, hs0, eq_true t0, eq_true t1, hp⟩⟩⟩
    obtain ⟨s0, u0, n0, hX⟩ := HN0.out
    have HPA := Aside0.mk (cmd_writes.paths (cmd_writes.pv l0_6 x.toNat) x s0 v0 v1 u0 v2 l0_6.length hX)
    have HN1 := Aside0.mk n0
    clear HN0 hX hlt n0 hs1
    go_wp2_with ((with_reducible refine gate_dst (N := 4) rfl ?_); (try (refine gate_guard (by rfl) ?_; dsimp only)); go_loud (refine box_event ?hg (N := 4) ?hd (cs := #[.string (⟨#[]⟩ : ByteArray), .string (⟨#[]⟩ : ByteArray), .bool false]) (t := 41) ?hr ?_; (case hd => rfl); (case hg => rfl); (case hr => first | (go_simp; done) | (go_simp; rfl)); intro gb hg w2 hbox hb; have HQ2 := Aside0.mk hbox; have HC2 := Aside0.mk (yB HQ.out hb); have HB2 := Aside0.mk (zS HB.out hb); have HGB := Aside0.mk (show w.heap.size ≤ gb by rw [hg]; exact HB.out.size); have HNE := Aside0.mk (show g ≠ gb by rw [hg]; exact Nat.ne_of_lt (blk_lt HQ.out)); have hnb := HNE.out; have hnc := Ne.symm HNE.out; clear hbox hb hg; have k0_w2 : w2.cell? ⟨gb, 0, none⟩ = some (.string (⟨#[]⟩ : ByteArray)) := (blk_cell HQ2.out 0).trans rfl; have k1_w2 : w2.cell? ⟨gb, 1, none⟩ = some (.string (⟨#[]⟩ : ByteArray)) := (blk_cell HQ2.out 1).trans rfl; have k2_w2 : w2.cell? ⟨gb, 2, none⟩ = some (.bool false) := (blk_cell HQ2.out 2).trans rfl; have f0_w2 := blk_frozen HQ2.out 0; have f1_w2 := blk_frozen HQ2.out 1; have f2_w2 := blk_frozen HQ2.out 2))
    have HQ3 := Aside0.mk (show ((((w2.setCell ⟨gb, 0, none⟩ (.string v0)).setCell ⟨gb, 1, none⟩ (.string v1)).setCell ⟨gb, 2, none⟩ (.bool v2)).drew).heap[gb]? = some (.cells #[.string v0, .string v1, .bool v2] 41 (0, 0)) from yD (blk_put (blk_put (blk_put HQ2.out 0 (.string v0) rfl) 1 (.string v1) rfl) 2 (.bool v2) rfl))
    have HC3 := Aside0.mk (show ((((w2.setCell ⟨gb, 0, none⟩ (.string v0)).setCell ⟨gb, 1, none⟩ (.string v1)).setCell ⟨gb, 2, none⟩ (.bool v2)).drew).heap[g]? = some (.cells #[.int .i64 a0_0, .int .i64 a0_1, .int .i64 a0_2, .int .i64 a0_3, .slice A0_4 l0_4.length c0_4, .slice A0_5 l0_5.length c0_5, .slice (some ad) l0_6.length c0_6, .int .i64 a0_7, .int .i64 a0_8, .int .i64 a0_9, .string a0_10, .int .i64 a0_11, .slice A0_12 l0_12.length c0_12] 27 (0, 0)) from yD (blk_far (blk_far (blk_far HC2.out HNE.out _) HNE.out _) HNE.out _))
    have HB3 := Aside0.mk (show Below w.heap.size w ((((w2.setCell ⟨gb, 0, none⟩ (.string v0)).setCell ⟨gb, 1, none⟩ (.string v1)).setCell ⟨gb, 2, none⟩ (.bool v2)).drew) from zD (below_set (below_set (below_set HB2.out HGB.out) HGB.out) HGB.out))
    clear HQ2 HC2 HB2 HQ HB
    clear k0_w2 k1_w2 k2_w2 f0_w2 f1_w2 f2_w2
    rcases HPA.out with ⟨hsh, hok⟩ | ⟨hsh, ⟨d2, hok⟩ | ⟨d2, ⟨rfl, d4, d7, hok⟩ | ⟨rfl | ⟨rfl, d4, d7⟩, ⟨d5, hok⟩ | ⟨d5, i1, i2, i3, i4, ⟨d6, hok⟩ | ⟨d6, hok⟩⟩⟩⟩⟩
    all_goals (
     have HSH := Aside0.mk hsh
     have HOK := Aside0.mk (HN.out _ hok)
     clear hsh hok
     refine start_ (n := 36) (S := fun w' => w'.cell? ⟨gb, 0, none⟩ = some (.string v0) ∧ w'.cell? ⟨gb, 1, none⟩ = some (.string v1) ∧ w'.cell? ⟨gb, 2, none⟩ = some (.bool _) ∧ w'.cell? ⟨g, 6, none⟩ = some (.slice (some ad) l0_6.length c0_6) ∧ w'.cell? (ad.add (s0.toNat * 3)) = some (.string u0)) (ds := []) cmd_writes.m0 (by kernel_rfl) rfl rfl ⟨(blk_cell HQ3.out 0).trans rfl, (blk_cell HQ3.out 1).trans rfl, (blk_cell HQ3.out 2).trans rfl, (blk_cell HC3.out 6).trans rfl, (HB3.out.cell (World.block_lt_of_cell? w _ HN1.out)).trans HN1.out⟩ (fun hHeld => ?_)
     refine with_tabW cmd_writes.tab4 cmd_writes.bits4 (fun HT_ HW_ => ?_)
     generalize (((w2.setCell ⟨gb, 0, none⟩ (.string v0)).setCell ⟨gb, 1, none⟩ (.string v1)).setCell ⟨gb, 2, none⟩ _).drew = w3 at HQ3 HC3 HB3 hHeld ⊢
     refine pure_ (i := 0) (N := some 13) (v := ?_) (a' := ?_) cmd_writes.m1 rfl rfl (any_of HT_.out (by kernel_rfl)) (fun _ _ _ h => h) (Or.inl ⟨by rfl, ?_⟩) ?_ ?_; rotate_left; (intro w'; go_simp; with_reducible rfl); rotate_left; (simp only [Act.put, List.setIfInBounds_toArray, List.set_cons_zero, List.set_cons_succ, i64_w, i32_w]; rfl)
     refine take_ (i := 1) (N := some 14) (v := ?_) (a' := ?_) cmd_writes.m2 rfl rfl (take_ofW HT_.out HW_.out (by kernel_rfl)) (fun _ _ _ h => h) (Or.inl ⟨by rfl, ?_⟩) hHeld ?_ ?_; rotate_left; (rintro w' ⟨z0, z1, z2, z3, z4⟩; go_simp; with_reducible rfl); rotate_left; (simp only [Act.put, List.setIfInBounds_toArray, List.set_cons_zero, List.set_cons_succ, i64_w, i32_w]; rfl)
     refine one_ (i := 2) (N := some 15) cmd_writes.m3 rfl rfl (one_of HT_.out (by kernel_rfl)) (by decide) (fun K hK => ?_)
     refine Kd.R_lit_step Kd.string _ 9 ?hg (N := 15) ?hd (xs := [v0]) (inner := [.string v0]) (ok := fun _ => True) (okp := fun _ => True) ?hr ?hp (fun _ hk => hk) trivial (Below.refl _ _) (Nat.le_refl _) (by simp) ?_; (case hd => rfl); (case hg => rfl); (case hr => first | (go_simp; done) | (go_simp; rfl)); (case hp => exact (Reps.one (show Kd.M Kd.string _ _ _ v0 [.string v0] from rfl) (Reps.none _ _)))
     intro vs w4 ho hb hg_ hnew_; clear hg_ hnew_
     have HO4 := Aside0.mk ho; have HB4 := Aside0.mk (zS HB3.out hb); have HC4 := Aside0.mk (yB HC3.out hb); have HQ4 := Aside0.mk (yB HQ3.out hb); clear ho hb; obtain ⟨Ao, co, eo⟩ := Kd.R_slice HO4.out; subst eo
     refine hK.out _ _ ⟨(blk_cell HQ4.out 0).trans rfl, (blk_cell HQ4.out 1).trans rfl, (blk_cell HQ4.out 2).trans rfl, (blk_cell HC4.out 6).trans rfl, (HB4.out.cell (World.block_lt_of_cell? w _ HN1.out)).trans HN1.out⟩ (fun hHeld => ?_); clear hK K; refine norm_ (a' := ?_) ?_ ?_; rotate_left; (show Act.put _ (some 15) _ = _; simp only [Act.put, List.setIfInBounds_toArray, List.set_cons_zero, List.set_cons_succ, i64_w, i32_w]; rfl)
     refine one_ (i := 3) (N := some 16) cmd_writes.m4 rfl rfl (one_of HT_.out (by kernel_rfl)) (by decide) (fun K hK => ?_)
     refine goes_ Try.func39 (by kernel_rfl) rfl #[.slice Ao [v0].length co] (by rfl) rfl rfl (by (try simp only [List.map_toArray, List.map_cons, List.map_nil]); first | done | rfl) ?_
     with_reducible refine (cmd_short.calls 3 _ _ [v0] _ _ (Kd.R_reads' HO4.out).2.2 (Kd.R_reads' HO4.out).2.1 HSH.out).mono ?_
     rintro e w5 ⟨rfl, ⟨nd, rfl⟩⟩; refine ⟨_, rfl, ?_⟩
     have HB5 : Aside0 (Below w.heap.size w (w4.drewN nd)) := ⟨by repeat (first | (with_reducible first | exact HB4.out | apply zN | apply zD) | exact HB4.out)⟩
     have HC5 := Aside0.mk (yN HC4.out nd); have HQ5 := Aside0.mk (yN HQ4.out nd)
     refine hK.out _ _ ⟨(blk_cell HQ5.out 0).trans rfl, (blk_cell HQ5.out 1).trans rfl, (blk_cell HQ5.out 2).trans rfl, (blk_cell HC5.out 6).trans rfl, (HB5.out.cell (World.block_lt_of_cell? w _ HN1.out)).trans HN1.out⟩ (fun hHeld => ?_); clear hK K; refine norm_ (a' := ?_) ?_ ?_; rotate_left; (show Act.put _ (some 16) _ = _; simp only [Act.put, List.setIfInBounds_toArray, List.set_cons_zero, List.set_cons_succ, i64_w, i32_w]; rfl)
     refine pure_ (i := 4) (N := some 17) (v := ?_) (a' := ?_) cmd_writes.m5 rfl rfl (any_of HT_.out (by kernel_rfl)) (fun _ _ _ h => h) (Or.inl ⟨by rfl, ?_⟩) ?_ ?_; rotate_left; (intro w'; go_simp; with_reducible rfl); rotate_left; (simp only [Act.put, List.setIfInBounds_toArray, List.set_cons_zero, List.set_cons_succ, i64_w, i32_w]; rfl)
     refine pure_ (i := 5) (N := some 18) (v := ?_) (a' := ?_) cmd_writes.m6 rfl rfl (any_of HT_.out (by kernel_rfl)) (fun _ _ _ h => h) (Or.inl ⟨by rfl, ?_⟩) ?_ ?_; rotate_left; (intro w'; go_simp; with_reducible rfl); rotate_left; (simp only [Act.put, List.setIfInBounds_toArray, List.set_cons_zero, List.set_cons_succ, i64_w, i32_w]; rfl)
     first | (refine pure_ (i := 6) (N := some 19) (v := ?_) (a' := ?_) cmd_writes.m7 rfl rfl (any_of HT_.out (by kernel_rfl)) (fun _ _ _ h => h) (Or.inl ⟨by rfl, ?_⟩) ?_ ?_; rotate_left; (intro w'; go_simp; with_reducible rfl); rotate_left; (simp only [Act.put, List.setIfInBounds_toArray, List.set_cons_zero, List.set_cons_succ, i64_w, i32_w]; rfl)) | (refine pure_ (i := 6) (N := some 19) (v := undef) (a' := ?_) cmd_writes.m7 rfl rfl (any_of HT_.out (by kernel_rfl)) (fun _ _ _ h => h) (Or.inr ⟨by rfl, rfl⟩) ?_ ?_; rotate_left; (simp only [Act.put, List.setIfInBounds_toArray, List.set_cons_zero, List.set_cons_succ, i64_w, i32_w]; rfl))
     first | (refine take_ (i := 7) (N := some 20) (v := ?_) (a' := ?_) cmd_writes.m8 rfl rfl (take_ofW HT_.out HW_.out (by kernel_rfl)) (fun _ _ _ h => h) (Or.inl ⟨by rfl, ?_⟩) hHeld ?_ ?_; rotate_left; (rintro w' ⟨z0, z1, z2, z3, z4⟩; go_simp; with_reducible rfl); rotate_left; (simp only [Act.put, List.setIfInBounds_toArray, List.set_cons_zero, List.set_cons_succ, i64_w, i32_w]; rfl)) | (refine pure_ (i := 7) (N := some 20) (v := undef) (a' := ?_) cmd_writes.m8 rfl rfl (any_of HT_.out (by kernel_rfl)) (fun _ _ _ h => h) (Or.inr ⟨by rfl, rfl⟩) ?_ ?_; rotate_left; (simp only [Act.put, List.setIfInBounds_toArray, List.set_cons_zero, List.set_cons_succ, i64_w, i32_w]; rfl))
     first | (refine pure_ (i := 8) (N := some 21) (v := ?_) (a' := ?_) cmd_writes.m9 rfl rfl (any_of HT_.out (by kernel_rfl)) (fun _ _ _ h => h) (Or.inl ⟨by rfl, ?_⟩) ?_ ?_; rotate_left; (intro w'; go_simp; with_reducible rfl); rotate_left; (simp only [Act.put, List.setIfInBounds_toArray, List.set_cons_zero, List.set_cons_succ, i64_w, i32_w]; rfl)) | (refine pure_ (i := 8) (N := some 21) (v := undef) (a' := ?_) cmd_writes.m9 rfl rfl (any_of HT_.out (by kernel_rfl)) (fun _ _ _ h => h) (Or.inr ⟨by rfl, rfl⟩) ?_ ?_; rotate_left; (simp only [Act.put, List.setIfInBounds_toArray, List.set_cons_zero, List.set_cons_succ, i64_w, i32_w]; rfl))
     first | (refine pure_ (i := 9) (N := some 22) (v := ?_) (a' := ?_) cmd_writes.m10 rfl rfl (any_of HT_.out (by kernel_rfl)) (fun _ _ _ h => h) (Or.inl ⟨by rfl, ?_⟩) ?_ ?_; rotate_left; (intro w'; go_simp; with_reducible rfl); rotate_left; (simp only [Act.put, List.setIfInBounds_toArray, List.set_cons_zero, List.set_cons_succ, i64_w, i32_w]; rfl)) | (refine pure_ (i := 9) (N := some 22) (v := undef) (a' := ?_) cmd_writes.m10 rfl rfl (any_of HT_.out (by kernel_rfl)) (fun _ _ _ h => h) (Or.inr ⟨by rfl, rfl⟩) ?_ ?_; rotate_left; (simp only [Act.put, List.setIfInBounds_toArray, List.set_cons_zero, List.set_cons_succ, i64_w, i32_w]; rfl))
     refine pure_ (i := 10) (N := some 23) (v := ?_) (a' := ?_) cmd_writes.m11 rfl rfl (any_of HT_.out (by kernel_rfl)) (fun _ _ _ h => h) (Or.inl ⟨by rfl, ?_⟩) ?_ ?_; rotate_left; (intro w'; go_simp; with_reducible rfl); rotate_left; (simp only [Act.put, List.setIfInBounds_toArray, List.set_cons_zero, List.set_cons_succ, i64_w, i32_w]; rfl)
     refine pure_ (i := 11) (N := some 24) (v := ?_) (a' := ?_) cmd_writes.m12 rfl rfl (any_of HT_.out (by kernel_rfl)) (fun _ _ _ h => h) (Or.inl ⟨by rfl, ?_⟩) ?_ ?_; rotate_left; (intro w'; go_simp; with_reducible rfl); rotate_left; (simp only [Act.put, List.setIfInBounds_toArray, List.set_cons_zero, List.set_cons_succ, i64_w, i32_w]; rfl)
     first | (refine pure_ (i := 12) (N := some 25) (v := ?_) (a' := ?_) cmd_writes.m13 rfl rfl (any_of HT_.out (by kernel_rfl)) (fun _ _ _ h => h) (Or.inl ⟨by rfl, ?_⟩) ?_ ?_; rotate_left; (intro w'; go_simp; with_reducible rfl); rotate_left; (simp only [Act.put, List.setIfInBounds_toArray, List.set_cons_zero, List.set_cons_succ, i64_w, i32_w]; rfl)) | (refine pure_ (i := 12) (N := some 25) (v := undef) (a' := ?_) cmd_writes.m13 rfl rfl (any_of HT_.out (by kernel_rfl)) (fun _ _ _ h => h) (Or.inr ⟨by rfl, rfl⟩) ?_ ?_; rotate_left; (simp only [Act.put, List.setIfInBounds_toArray, List.set_cons_zero, List.set_cons_succ, i64_w, i32_w]; rfl))
     first | (refine take_ (i := 13) (N := some 26) (v := ?_) (a' := ?_) cmd_writes.m14 rfl rfl (take_ofW HT_.out HW_.out (by kernel_rfl)) (fun _ _ _ h => h) (Or.inl ⟨by rfl, ?_⟩) hHeld ?_ ?_; rotate_left; (rintro w' ⟨z0, z1, z2, z3, z4⟩; go_simp; with_reducible rfl); rotate_left; (simp only [Act.put, List.setIfInBounds_toArray, List.set_cons_zero, List.set_cons_succ, i64_w, i32_w]; rfl)) | (refine pure_ (i := 13) (N := some 26) (v := undef) (a' := ?_) cmd_writes.m14 rfl rfl (any_of HT_.out (by kernel_rfl)) (fun _ _ _ h => h) (Or.inr ⟨by rfl, rfl⟩) ?_ ?_; rotate_left; (simp only [Act.put, List.setIfInBounds_toArray, List.set_cons_zero, List.set_cons_succ, i64_w, i32_w]; rfl))
     first | (refine pure_ (i := 14) (N := some 27) (v := ?_) (a' := ?_) cmd_writes.m15 rfl rfl (any_of HT_.out (by kernel_rfl)) (fun _ _ _ h => h) (Or.inl ⟨by rfl, ?_⟩) ?_ ?_; rotate_left; (intro w'; go_simp; with_reducible rfl); rotate_left; (simp only [Act.put, List.setIfInBounds_toArray, List.set_cons_zero, List.set_cons_succ, i64_w, i32_w]; rfl)) | (refine pure_ (i := 14) (N := some 27) (v := undef) (a' := ?_) cmd_writes.m15 rfl rfl (any_of HT_.out (by kernel_rfl)) (fun _ _ _ h => h) (Or.inr ⟨by rfl, rfl⟩) ?_ ?_; rotate_left; (simp only [Act.put, List.setIfInBounds_toArray, List.set_cons_zero, List.set_cons_succ, i64_w, i32_w]; rfl))
     first | (refine pure_ (i := 15) (N := some 28) (v := ?_) (a' := ?_) cmd_writes.m16 rfl rfl (any_of HT_.out (by kernel_rfl)) (fun _ _ _ h => h) (Or.inl ⟨by rfl, ?_⟩) ?_ ?_; rotate_left; (intro w'; go_simp; with_reducible rfl); rotate_left; (simp only [Act.put, List.setIfInBounds_toArray, List.set_cons_zero, List.set_cons_succ, i64_w, i32_w]; rfl)) | (refine pure_ (i := 15) (N := some 28) (v := undef) (a' := ?_) cmd_writes.m16 rfl rfl (any_of HT_.out (by kernel_rfl)) (fun _ _ _ h => h) (Or.inr ⟨by rfl, rfl⟩) ?_ ?_; rotate_left; (simp only [Act.put, List.setIfInBounds_toArray, List.set_cons_zero, List.set_cons_succ, i64_w, i32_w]; rfl))
     first | (refine take_ (i := 16) (N := some 29) (v := ?_) (a' := ?_) cmd_writes.m17 rfl rfl (take_ofW HT_.out HW_.out (by kernel_rfl)) (fun _ _ _ h => h) (Or.inl ⟨by rfl, ?_⟩) hHeld ?_ ?_; rotate_left; (rintro w' ⟨z0, z1, z2, z3, z4⟩; go_simp; with_reducible rfl); rotate_left; (simp only [Act.put, List.setIfInBounds_toArray, List.set_cons_zero, List.set_cons_succ, i64_w, i32_w]; rfl)) | (refine pure_ (i := 16) (N := some 29) (v := undef) (a' := ?_) cmd_writes.m17 rfl rfl (any_of HT_.out (by kernel_rfl)) (fun _ _ _ h => h) (Or.inr ⟨by rfl, rfl⟩) ?_ ?_; rotate_left; (simp only [Act.put, List.setIfInBounds_toArray, List.set_cons_zero, List.set_cons_succ, i64_w, i32_w]; rfl))
     first | (refine pure_ (i := 17) (N := some 30) (v := ?_) (a' := ?_) cmd_writes.m18 rfl rfl (any_of HT_.out (by kernel_rfl)) (fun _ _ _ h => h) (Or.inl ⟨by rfl, ?_⟩) ?_ ?_; rotate_left; (intro w'; go_simp; with_reducible rfl); rotate_left; (simp only [Act.put, List.setIfInBounds_toArray, List.set_cons_zero, List.set_cons_succ, i64_w, i32_w]; rfl)) | (refine pure_ (i := 17) (N := some 30) (v := undef) (a' := ?_) cmd_writes.m18 rfl rfl (any_of HT_.out (by kernel_rfl)) (fun _ _ _ h => h) (Or.inr ⟨by rfl, rfl⟩) ?_ ?_; rotate_left; (simp only [Act.put, List.setIfInBounds_toArray, List.set_cons_zero, List.set_cons_succ, i64_w, i32_w]; rfl))
     first | (refine pure_ (i := 18) (N := some 31) (v := ?_) (a' := ?_) cmd_writes.m19 rfl rfl (any_of HT_.out (by kernel_rfl)) (fun _ _ _ h => h) (Or.inl ⟨by rfl, ?_⟩) ?_ ?_; rotate_left; (intro w'; go_simp; with_reducible rfl); rotate_left; (simp only [Act.put, List.setIfInBounds_toArray, List.set_cons_zero, List.set_cons_succ, i64_w, i32_w]; rfl)) | (refine pure_ (i := 18) (N := some 31) (v := undef) (a' := ?_) cmd_writes.m19 rfl rfl (any_of HT_.out (by kernel_rfl)) (fun _ _ _ h => h) (Or.inr ⟨by rfl, rfl⟩) ?_ ?_; rotate_left; (simp only [Act.put, List.setIfInBounds_toArray, List.set_cons_zero, List.set_cons_succ, i64_w, i32_w]; rfl))
     refine pure_ (i := 19) (N := some 32) (v := ?_) (a' := ?_) cmd_writes.m20 rfl rfl (any_of HT_.out (by kernel_rfl)) (fun _ _ _ h => h) (Or.inl ⟨by rfl, ?_⟩) ?_ ?_; rotate_left; (intro w'; go_simp; with_reducible rfl); rotate_left; (simp only [Act.put, List.setIfInBounds_toArray, List.set_cons_zero, List.set_cons_succ, i64_w, i32_w]; rfl)
     refine pure_ (i := 20) (N := some 33) (v := ?_) (a' := ?_) cmd_writes.m21 rfl rfl (any_of HT_.out (by kernel_rfl)) (fun _ _ _ h => h) (Or.inl ⟨by rfl, ?_⟩) ?_ ?_; rotate_left; (intro w'; go_simp; with_reducible rfl); rotate_left; (simp only [Act.put, List.setIfInBounds_toArray, List.set_cons_zero, List.set_cons_succ, i64_w, i32_w]; rfl)
     first | (refine pure_ (i := 21) (N := some 34) (v := ?_) (a' := ?_) cmd_writes.m22 rfl rfl (any_of HT_.out (by kernel_rfl)) (fun _ _ _ h => h) (Or.inl ⟨by rfl, ?_⟩) ?_ ?_; rotate_left; (intro w'; go_simp; with_reducible rfl); rotate_left; (simp only [Act.put, List.setIfInBounds_toArray, List.set_cons_zero, List.set_cons_succ, i64_w, i32_w]; rfl)) | (refine pure_ (i := 21) (N := some 34) (v := undef) (a' := ?_) cmd_writes.m22 rfl rfl (any_of HT_.out (by kernel_rfl)) (fun _ _ _ h => h) (Or.inr ⟨by rfl, rfl⟩) ?_ ?_; rotate_left; (simp only [Act.put, List.setIfInBounds_toArray, List.set_cons_zero, List.set_cons_succ, i64_w, i32_w]; rfl))
     first | (refine pure_ (i := 22) (N := some 35) (v := ?_) (a' := ?_) cmd_writes.m23 rfl rfl (any_of HT_.out (by kernel_rfl)) (fun _ _ _ h => h) (Or.inl ⟨by rfl, ?_⟩) ?_ ?_; rotate_left; (intro w'; go_simp; with_reducible rfl); rotate_left; (simp only [Act.put, List.setIfInBounds_toArray, List.set_cons_zero, List.set_cons_succ, i64_w, i32_w]; rfl)) | (refine pure_ (i := 22) (N := some 35) (v := undef) (a' := ?_) cmd_writes.m23 rfl rfl (any_of HT_.out (by kernel_rfl)) (fun _ _ _ h => h) (Or.inr ⟨by rfl, rfl⟩) ?_ ?_; rotate_left; (simp only [Act.put, List.setIfInBounds_toArray, List.set_cons_zero, List.set_cons_succ, i64_w, i32_w]; rfl))
     first | (refine pure_ (i := 23) (N := some 36) (v := ?_) (a' := ?_) cmd_writes.m24 rfl rfl (any_of HT_.out (by kernel_rfl)) (fun _ _ _ h => h) (Or.inl ⟨by rfl, ?_⟩) ?_ ?_; rotate_left; (intro w'; go_simp; with_reducible rfl); rotate_left; (simp only [Act.put, List.setIfInBounds_toArray, List.set_cons_zero, List.set_cons_succ, i64_w, i32_w]; rfl)) | (refine pure_ (i := 23) (N := some 36) (v := undef) (a' := ?_) cmd_writes.m24 rfl rfl (any_of HT_.out (by kernel_rfl)) (fun _ _ _ h => h) (Or.inr ⟨by rfl, rfl⟩) ?_ ?_; rotate_left; (simp only [Act.put, List.setIfInBounds_toArray, List.set_cons_zero, List.set_cons_succ, i64_w, i32_w]; rfl))
     first | (refine pure_ (i := 24) (N := some 37) (v := ?_) (a' := ?_) cmd_writes.m25 rfl rfl (any_of HT_.out (by kernel_rfl)) (fun _ _ _ h => h) (Or.inl ⟨by rfl, ?_⟩) ?_ ?_; rotate_left; (intro w'; go_simp; with_reducible rfl); rotate_left; (simp only [Act.put, List.setIfInBounds_toArray, List.set_cons_zero, List.set_cons_succ, i64_w, i32_w]; rfl)) | (refine pure_ (i := 24) (N := some 37) (v := undef) (a' := ?_) cmd_writes.m25 rfl rfl (any_of HT_.out (by kernel_rfl)) (fun _ _ _ h => h) (Or.inr ⟨by rfl, rfl⟩) ?_ ?_; rotate_left; (simp only [Act.put, List.setIfInBounds_toArray, List.set_cons_zero, List.set_cons_succ, i64_w, i32_w]; rfl))
     first | (refine pure_ (i := 26) (N := some 39) (v := ?_) (a' := ?_) cmd_writes.m26 rfl rfl (any_of HT_.out (by kernel_rfl)) (fun _ _ _ h => h) (Or.inl ⟨by rfl, ?_⟩) ?_ ?_; rotate_left; (intro w'; go_simp; with_reducible rfl); rotate_left; (simp only [Act.put, List.setIfInBounds_toArray, List.set_cons_zero, List.set_cons_succ, i64_w, i32_w]; rfl)) | (refine pure_ (i := 26) (N := some 39) (v := undef) (a' := ?_) cmd_writes.m26 rfl rfl (any_of HT_.out (by kernel_rfl)) (fun _ _ _ h => h) (Or.inr ⟨by rfl, rfl⟩) ?_ ?_; rotate_left; (simp only [Act.put, List.setIfInBounds_toArray, List.set_cons_zero, List.set_cons_succ, i64_w, i32_w]; rfl))
     first | (refine pure_ (i := 28) (N := some 41) (v := ?_) (a' := ?_) cmd_writes.m27 rfl rfl (any_of HT_.out (by kernel_rfl)) (fun _ _ _ h => h) (Or.inl ⟨by rfl, ?_⟩) ?_ ?_; rotate_left; (intro w'; go_simp; with_reducible rfl); rotate_left; (simp only [Act.put, List.setIfInBounds_toArray, List.set_cons_zero, List.set_cons_succ, i64_w, i32_w]; rfl)) | (refine pure_ (i := 28) (N := some 41) (v := undef) (a' := ?_) cmd_writes.m27 rfl rfl (any_of HT_.out (by kernel_rfl)) (fun _ _ _ h => h) (Or.inr ⟨by rfl, rfl⟩) ?_ ?_; rotate_left; (simp only [Act.put, List.setIfInBounds_toArray, List.set_cons_zero, List.set_cons_succ, i64_w, i32_w]; rfl))
     first | (refine pure_ (i := 29) (N := some 42) (v := ?_) (a' := ?_) cmd_writes.m28 rfl rfl (any_of HT_.out (by kernel_rfl)) (fun _ _ _ h => h) (Or.inl ⟨by rfl, ?_⟩) ?_ ?_; rotate_left; (intro w'; go_simp; with_reducible rfl); rotate_left; (simp only [Act.put, List.setIfInBounds_toArray, List.set_cons_zero, List.set_cons_succ, i64_w, i32_w]; rfl)) | (refine pure_ (i := 29) (N := some 42) (v := undef) (a' := ?_) cmd_writes.m28 rfl rfl (any_of HT_.out (by kernel_rfl)) (fun _ _ _ h => h) (Or.inr ⟨by rfl, rfl⟩) ?_ ?_; rotate_left; (simp only [Act.put, List.setIfInBounds_toArray, List.set_cons_zero, List.set_cons_succ, i64_w, i32_w]; rfl))
     first | (refine take_ (i := 25) (N := some 38) (v := ?_) (a' := ?_) cmd_writes.m29 rfl rfl (take_ofW HT_.out HW_.out (by kernel_rfl)) (fun _ _ _ h => h) (Or.inl ⟨by rfl, ?_⟩) hHeld ?_ ?_; rotate_left; (rintro w' ⟨z0, z1, z2, z3, z4⟩; go_simp; with_reducible rfl); rotate_left; (simp only [Act.put, List.setIfInBounds_toArray, List.set_cons_zero, List.set_cons_succ, i64_w, i32_w]; rfl)) | (refine pure_ (i := 25) (N := some 38) (v := undef) (a' := ?_) cmd_writes.m29 rfl rfl (any_of HT_.out (by kernel_rfl)) (fun _ _ _ h => h) (Or.inr ⟨by rfl, rfl⟩) ?_ ?_; rotate_left; (simp only [Act.put, List.setIfInBounds_toArray, List.set_cons_zero, List.set_cons_succ, i64_w, i32_w]; rfl))
     first | (refine take_ (i := 27) (N := some 40) (v := ?_) (a' := ?_) cmd_writes.m30 rfl rfl (take_ofW HT_.out HW_.out (by kernel_rfl)) (fun _ _ _ h => h) (Or.inl ⟨by rfl, ?_⟩) hHeld ?_ ?_; rotate_left; (rintro w' ⟨z0, z1, z2, z3, z4⟩; go_simp; with_reducible rfl); rotate_left; (simp only [Act.put, List.setIfInBounds_toArray, List.set_cons_zero, List.set_cons_succ, i64_w, i32_w]; rfl)) | (refine pure_ (i := 27) (N := some 40) (v := undef) (a' := ?_) cmd_writes.m30 rfl rfl (any_of HT_.out (by kernel_rfl)) (fun _ _ _ h => h) (Or.inr ⟨by rfl, rfl⟩) ?_ ?_; rotate_left; (simp only [Act.put, List.setIfInBounds_toArray, List.set_cons_zero, List.set_cons_succ, i64_w, i32_w]; rfl))
     first | (refine pure_ (i := 30) (N := some 43) (v := ?_) (a' := ?_) cmd_writes.m31 rfl rfl (any_of HT_.out (by kernel_rfl)) (fun _ _ _ h => h) (Or.inl ⟨by rfl, ?_⟩) ?_ ?_; rotate_left; (intro w'; go_simp; with_reducible rfl); rotate_left; (simp only [Act.put, List.setIfInBounds_toArray, List.set_cons_zero, List.set_cons_succ, i64_w, i32_w]; rfl)) | (refine pure_ (i := 30) (N := some 43) (v := undef) (a' := ?_) cmd_writes.m31 rfl rfl (any_of HT_.out (by kernel_rfl)) (fun _ _ _ h => h) (Or.inr ⟨by rfl, rfl⟩) ?_ ?_; rotate_left; (simp only [Act.put, List.setIfInBounds_toArray, List.set_cons_zero, List.set_cons_succ, i64_w, i32_w]; rfl))
     first | (refine pure_ (i := 31) (N := some 44) (v := ?_) (a' := ?_) cmd_writes.m32 rfl rfl (any_of HT_.out (by kernel_rfl)) (fun _ _ _ h => h) (Or.inl ⟨by rfl, ?_⟩) ?_ ?_; rotate_left; (intro w'; go_simp; with_reducible rfl); rotate_left; (simp only [Act.put, List.setIfInBounds_toArray, List.set_cons_zero, List.set_cons_succ, i64_w, i32_w]; rfl)) | (refine pure_ (i := 31) (N := some 44) (v := undef) (a' := ?_) cmd_writes.m32 rfl rfl (any_of HT_.out (by kernel_rfl)) (fun _ _ _ h => h) (Or.inr ⟨by rfl, rfl⟩) ?_ ?_; rotate_left; (simp only [Act.put, List.setIfInBounds_toArray, List.set_cons_zero, List.set_cons_succ, i64_w, i32_w]; rfl))
     first | (refine take_ (i := 32) (N := some 45) (v := ?_) (a' := ?_) cmd_writes.m33 rfl rfl (take_ofW HT_.out HW_.out (by kernel_rfl)) (fun _ _ _ h => h) (Or.inl ⟨by rfl, ?_⟩) hHeld ?_ ?_; rotate_left; (rintro w' ⟨z0, z1, z2, z3, z4⟩; go_simp; with_reducible rfl); rotate_left; (simp only [Act.put, List.setIfInBounds_toArray, List.set_cons_zero, List.set_cons_succ, i64_w, i32_w]; rfl)) | (refine pure_ (i := 32) (N := some 45) (v := undef) (a' := ?_) cmd_writes.m33 rfl rfl (any_of HT_.out (by kernel_rfl)) (fun _ _ _ h => h) (Or.inr ⟨by rfl, rfl⟩) ?_ ?_; rotate_left; (simp only [Act.put, List.setIfInBounds_toArray, List.set_cons_zero, List.set_cons_succ, i64_w, i32_w]; rfl))
     first | (refine pure_ (i := 33) (N := some 46) (v := ?_) (a' := ?_) cmd_writes.m34 rfl rfl (any_of HT_.out (by kernel_rfl)) (fun _ _ _ h => h) (Or.inl ⟨by rfl, ?_⟩) ?_ ?_; rotate_left; (intro w'; go_simp; with_reducible rfl); rotate_left; (simp only [Act.put, List.setIfInBounds_toArray, List.set_cons_zero, List.set_cons_succ, i64_w, i32_w]; rfl)) | (refine pure_ (i := 33) (N := some 46) (v := undef) (a' := ?_) cmd_writes.m34 rfl rfl (any_of HT_.out (by kernel_rfl)) (fun _ _ _ h => h) (Or.inr ⟨by rfl, rfl⟩) ?_ ?_; rotate_left; (simp only [Act.put, List.setIfInBounds_toArray, List.set_cons_zero, List.set_cons_succ, i64_w, i32_w]; rfl))
     first | (refine pure_ (i := 34) (N := some 47) (v := ?_) (a' := ?_) cmd_writes.m35 rfl rfl (any_of HT_.out (by kernel_rfl)) (fun _ _ _ h => h) (Or.inl ⟨by rfl, ?_⟩) ?_ ?_; rotate_left; (intro w'; go_simp; with_reducible rfl); rotate_left; (simp only [Act.put, List.setIfInBounds_toArray, List.set_cons_zero, List.set_cons_succ, i64_w, i32_w]; rfl)) | (refine pure_ (i := 34) (N := some 47) (v := undef) (a' := ?_) cmd_writes.m35 rfl rfl (any_of HT_.out (by kernel_rfl)) (fun _ _ _ h => h) (Or.inr ⟨by rfl, rfl⟩) ?_ ?_; rotate_left; (simp only [Act.put, List.setIfInBounds_toArray, List.set_cons_zero, List.set_cons_succ, i64_w, i32_w]; rfl))
     refine pure_ (i := 35) (N := some 48) (v := ?_) (a' := ?_) cmd_writes.m36 rfl rfl (any_of HT_.out (by kernel_rfl)) (fun _ _ _ h => h) (Or.inl ⟨by rfl, ?_⟩) ?_ ?_; rotate_left; (intro w'; go_simp; with_reducible rfl); rotate_left; (simp only [Act.put, List.setIfInBounds_toArray, List.set_cons_zero, List.set_cons_succ, i64_w, i32_w]; rfl)
     refine done_ (done_of HT_.out (by kernel_rfl)) ?_
     try go_wp2
     first | (go_ret; exact ⟨by rw [← HR.out, show rr = false from HOK.out]; rfl, HB5.out⟩) | (go_roundw; (case rel => exact ⟨s1, T1.out.2.1, T1.out.2.2.1, HS1.out, ⟨HC5.out⟩, ⟨HB5.out⟩, ⟨by have := HOK.out; rw [if_pos rfl] at this; exact this⟩⟩); (case measure => exact HM1.out))
     )
   ·have q3 : decide (x < (l0_6.length : Int)) = false := decide_eq_false hlt
    have HE := Aside0.mk (show l0_6.drop x.toNat = [] from List.drop_eq_nil_of_le (by omega))
    have hrr : rr = true := by have := HA.out; rw [HE.out] at this; exact this.symm
    have hr : r = decide ((l0_6.length : Int) ≤ 200) := by have := HR.out; rw [hrr] at this; exact this.symm
    subst hr
    have k6_r : wr.cell? ⟨g, 6, none⟩ = some (.slice A0_6 l0_6.length c0_6) := (blk_cell HQ.out 6).trans rfl
    clear hlt hrr
    go_wp2
    go_ret
    exact ⟨rfl, HB.out⟩
 ·rw [if_neg hl] at h; exact absurd h (by simp)

end Go.Proofs.Ytikiegglebgmpaa.PA
