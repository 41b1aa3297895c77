/- Contracts of the Go functions of this seat: what each call returns is what a Lean function of its arguments says; each theorem bears its own conditions. Written by a program of this session (wip/tools/mkprint.py). -/
import Derived.Test.YtifhnkbhjmapeaaKUx0
import Derived.Test.YtifhnkbhjmapeaaKUx1
import Derived.Test.YtifhnkbhjmapeaaKUx5
import Derived.Test.YtifhnkbhjmapeaaKUx6
import Derived.Test.YtifhnkbhjmapeaaKUx7
import Derived.Test.YtifhnkbhjmapeaaKUx8
-- squeezed
namespace Go.Proofs.Ytifhnkbhjmapeaa.PA
open Go.RowKit Go.Proofs.YtifhnkbhjmapeaaW.PrintWords Go.Proofs.YtifhnkbhjmapeaaW.PrintLast Go.Proofs.YtifhnkbhjmapeaaW.PrintMore
attribute [local go_sem] max2_int min2_int max_two min_two max_three min_three max_four min_four   -- for this text's walks alone
set_option linter.unusedVariables false
set_option linter.unusedSimpArgs false

attribute [local go_sem high] eqA24
attribute [local go_sem ↓ high] unary_xor_u64 ux_if_u64
attribute [local go_sem] str_gtr str_leq str_geq
/-! ### falseworklaw21_KeysUnlike: function 4 -/
mutual
def falseworklaw21_KeysUnlike.j0 : Nat → Bool → List (S24) → List (S24) → Bool → Int → Int → Int → ByteArray → Int → Int → Int → ByteArray → Option (Bool)
 | 0, _, _, _, _, _, _, _, _, _, _, _, _ => none
 | k + 1, x0, x1, x2, x44, x209000, x209001, x209002, x209003, x210000, x210001, x210002, x210003 => if x44 = true then ((falseworklaw21_awake.f k).bind fun t212 => (some t212)) else ((falseworklaw21_index.f k (x1.length : Int) x0).bind fun bt213 => ((keys_Entry.f k 3 bt213.1 bt213.2.1 bt213.2.2.1 bt213.2.2.2.1 bt213.2.2.2.2 x1 x209000 x209001 x209002 x209003).bind fun bt220 => ((falseworklaw21_index.f k (x2.length : Int) x0).bind fun bt223 => ((keys_Entry.f k 3 bt223.1 bt223.2.1 bt223.2.2.1 bt223.2.2.2.1 bt223.2.2.2.2 x2 x210000 x210001 x210002 x210003).bind fun bt230 => ((falseworklaw21_num.f bt220.2.2).bind fun t233 => (if t233 = 0 then ((falseworklaw21_num.f bt230.2.2).bind fun t234 => (falseworklaw21_KeysUnlike.j1 k x0 x1 x2 bt220.1 bt220.2.1 bt230.1 bt230.2.1 (t234 != 0) x209000 x209001 x209002 x209003 x210000 x210001 x210002 x210003)) else (falseworklaw21_KeysUnlike.j1 k x0 x1 x2 bt220.1 bt220.2.1 bt230.1 bt230.2.1 true x209000 x209001 x209002 x209003 x210000 x210001 x210002 x210003)))))))
def falseworklaw21_KeysUnlike.j1 : Nat → Bool → List (S24) → List (S24) → ByteArray → ByteArray → ByteArray → ByteArray → Bool → Int → Int → Int → ByteArray → Int → Int → Int → ByteArray → Option (Bool)
 | 0, _, _, _, _, _, _, _, _, _, _, _, _, _, _, _, _ => none
 | k + 1, x0, x1, x2, x11, x12, x14, x15, x75, x209000, x209001, x209002, x209003, x210000, x210001, x210002, x210003 => if x75 = true then ((falseworklaw21_awake.f k).bind fun t235 => (some t235)) else (falseworklaw21_KeysUnlike.l0 k x0 x1 x2 x11 x12 x14 x15 false 0 x209000 x209001 x209002 x209003 x210000 x210001 x210002 x210003)
def falseworklaw21_KeysUnlike.l0 : Nat → Bool → List (S24) → List (S24) → ByteArray → ByteArray → ByteArray → ByteArray → Bool → Int → Int → Int → Int → ByteArray → Int → Int → Int → ByteArray → Option (Bool)
 | 0, _, _, _, _, _, _, _, _, _, _, _, _, _, _, _, _, _ => none
 | k + 1, x0, x1, x2, x11, x12, x14, x15, x17, x18, x209000, x209001, x209002, x209003, x210000, x210001, x210002, x210003 => if x18 < (x1.length : Int) then (if x17 = true then (falseworklaw21_KeysUnlike.l0 k x0 x1 x2 x11 x12 x14 x15 true (wrap64 (x18 + 1)) x209000 x209001 x209002 x209003 x210000 x210001 x210002 x210003) else (if 0 ≤ x18 then (falseworklaw21_KeysUnlike.l0 k x0 x1 x2 x11 x12 x14 x15 (((rd_T24 x1 x18).f0) == 0) (wrap64 (x18 + 1)) x209000 x209001 x209002 x209003 x210000 x210001 x210002 x210003) else (none))) else ((falseworkref2_Same.f k x1 x2).bind fun t237 => (if t237 = true then (if (x209000 == x210000 && (x209001 == x210001 && (x209002 == x210002 && (x209003.toList == x210003.toList)))) = true then (if ((x11.toList == x14.toList) == true) = true then (if ((x12.toList == x15.toList) == (x209000 == x210000 && (x209001 == x210001 && (x209002 == x210002 && (x209003.toList == x210003.toList))))) = true then ((falseworklaw21_awake.f k).bind fun t238 => (some t238)) else (none)) else (none)) else (if x0 = true then (if ((x11.toList == x14.toList) == (!x17)) = true then (if ((x12.toList == x15.toList) == (x209000 == x210000 && (x209001 == x210001 && (x209002 == x210002 && (x209003.toList == x210003.toList))))) = true then ((falseworklaw21_awake.f k).bind fun t239 => (some t239)) else (none)) else (none)) else (if ((x11.toList == x14.toList) == false) = true then (if ((x12.toList == x15.toList) == (x209000 == x210000 && (x209001 == x210001 && (x209002 == x210002 && (x209003.toList == x210003.toList))))) = true then ((falseworklaw21_awake.f k).bind fun t240 => (some t240)) else (none)) else (none)))) else (if ((x11.toList == x14.toList) == false) = true then (if ((x12.toList == x15.toList) == (x209000 == x210000 && (x209001 == x210001 && (x209002 == x210002 && (x209003.toList == x210003.toList))))) = true then ((falseworklaw21_awake.f k).bind fun t241 => (some t241)) else (none)) else (none))))
end
def falseworklaw21_KeysUnlike.f (k : Nat) (a0 : Bool) (l1 : List (S24)) (l2 : List (S24)) (a3_0 : Int) (a3_1 : Int) (a3_2 : Int) (a3_3 : ByteArray) (a4_0 : Int) (a4_1 : Int) (a4_2 : Int) (a4_3 : ByteArray) : Option (Bool) := (falseworklaw21_long.f k l1).bind fun t210 => (if t210 = true then (falseworklaw21_KeysUnlike.j0 k a0 l1 l2 true a3_0 a3_1 a3_2 a3_3 a4_0 a4_1 a4_2 a4_3) else ((falseworklaw21_long.f k l2).bind fun t211 => (if t211 = true then (falseworklaw21_KeysUnlike.j0 k a0 l1 l2 true a3_0 a3_1 a3_2 a3_3 a4_0 a4_1 a4_2 a4_3) else (if (l1.length : Int) = (l2.length : Int) then (if (a3_3.size : Int) > 1000 then (falseworklaw21_KeysUnlike.j0 k a0 l1 l2 true a3_0 a3_1 a3_2 a3_3 a4_0 a4_1 a4_2 a4_3) else (falseworklaw21_KeysUnlike.j0 k a0 l1 l2 (decide ((a4_3.size : Int) > 1000)) a3_0 a3_1 a3_2 a3_3 a4_0 a4_1 a4_2 a4_3)) else (falseworklaw21_KeysUnlike.j0 k a0 l1 l2 true a3_0 a3_1 a3_2 a3_3 a4_0 a4_1 a4_2 a4_3)))))
theorem falseworklaw21_KeysUnlike.mono_l : ∀ k, (∀ y0 y1 y2 y3 y4 y5 y6 y7 y8 y9 y10 y11, LeO (falseworklaw21_KeysUnlike.j0 k y0 y1 y2 y3 y4 y5 y6 y7 y8 y9 y10 y11) (falseworklaw21_KeysUnlike.j0 (k + 1) y0 y1 y2 y3 y4 y5 y6 y7 y8 y9 y10 y11)) ∧ (∀ y0 y1 y2 y3 y4 y5 y6 y7 y8 y9 y10 y11 y12 y13 y14 y15, LeO (falseworklaw21_KeysUnlike.j1 k y0 y1 y2 y3 y4 y5 y6 y7 y8 y9 y10 y11 y12 y13 y14 y15) (falseworklaw21_KeysUnlike.j1 (k + 1) y0 y1 y2 y3 y4 y5 y6 y7 y8 y9 y10 y11 y12 y13 y14 y15)) ∧ (∀ y0 y1 y2 y3 y4 y5 y6 y7 y8 y9 y10 y11 y12 y13 y14 y15 y16, LeO (falseworklaw21_KeysUnlike.l0 k y0 y1 y2 y3 y4 y5 y6 y7 y8 y9 y10 y11 y12 y13 y14 y15 y16) (falseworklaw21_KeysUnlike.l0 (k + 1) y0 y1 y2 y3 y4 y5 y6 y7 y8 y9 y10 y11 y12 y13 y14 y15 y16))
 | 0 => ⟨fun _ _ _ _ _ _ _ _ _ _ _ _ r h => by simp [falseworklaw21_KeysUnlike.j0] at h, fun _ _ _ _ _ _ _ _ _ _ _ _ _ _ _ _ r h => by simp [falseworklaw21_KeysUnlike.j1] at h, fun _ _ _ _ _ _ _ _ _ _ _ _ _ _ _ _ _ r h => by simp [falseworklaw21_KeysUnlike.l0] at h⟩
 | k + 1 => by
  obtain ⟨ih0, ih1, ih2⟩ := falseworklaw21_KeysUnlike.mono_l k
  refine ⟨?_, ?_, ?_⟩
  ·intro y0 y1 y2 y3 y4 y5 y6 y7 y8 y9 y10 y11
   unfold falseworklaw21_KeysUnlike.j0
   repeat' first
   | (with_reducible exact ih0 _ _ _ _ _ _ _ _ _ _ _ _)
   | (with_reducible exact ih1 _ _ _ _ _ _ _ _ _ _ _ _ _ _ _ _)
   | (with_reducible exact ih2 _ _ _ _ _ _ _ _ _ _ _ _ _ _ _ _ _)
   | (with_reducible exact falseworklaw21_awake.mono _)
   | (with_reducible exact falseworklaw21_index.mono _ _ _)
   | (with_reducible exact falseworklaw21_long.mono _ _)
   | (with_reducible exact falseworkref2_Same.mono _ _ _)
   | (with_reducible exact keys_Entry.mono _ _ _ _ _ _ _ _ _ _ _ _)
   | (with_reducible exact LeO.refl _)
   | (with_reducible exact LeO.none _)
   | (with_reducible refine LeO.ite ?_ ?_)
   | (with_reducible refine LeO.bind ?_ (fun _ => ?_))
   | exact ih0 _ _ _ _ _ _ _ _ _ _ _ _
   | exact ih1 _ _ _ _ _ _ _ _ _ _ _ _ _ _ _ _
   | exact ih2 _ _ _ _ _ _ _ _ _ _ _ _ _ _ _ _ _
   | exact falseworklaw21_awake.mono _
   | exact falseworklaw21_index.mono _ _ _
   | exact falseworklaw21_long.mono _ _
   | exact falseworkref2_Same.mono _ _ _
   | exact keys_Entry.mono _ _ _ _ _ _ _ _ _ _ _ _
   | exact LeO.none _
   | refine LeO.ite ?_ ?_
   | refine LeO.bind ?_ (fun _ => ?_)
  ·intro y0 y1 y2 y3 y4 y5 y6 y7 y8 y9 y10 y11 y12 y13 y14 y15
   unfold falseworklaw21_KeysUnlike.j1
   repeat' first
   | (with_reducible exact ih0 _ _ _ _ _ _ _ _ _ _ _ _)
   | (with_reducible exact ih1 _ _ _ _ _ _ _ _ _ _ _ _ _ _ _ _)
   | (with_reducible exact ih2 _ _ _ _ _ _ _ _ _ _ _ _ _ _ _ _ _)
   | (with_reducible exact falseworklaw21_awake.mono _)
   | (with_reducible exact falseworklaw21_index.mono _ _ _)
   | (with_reducible exact falseworklaw21_long.mono _ _)
   | (with_reducible exact falseworkref2_Same.mono _ _ _)
   | (with_reducible exact keys_Entry.mono _ _ _ _ _ _ _ _ _ _ _ _)
   | (with_reducible exact LeO.refl _)
   | (with_reducible exact LeO.none _)
   | (with_reducible refine LeO.ite ?_ ?_)
   | (with_reducible refine LeO.bind ?_ (fun _ => ?_))
   | exact ih0 _ _ _ _ _ _ _ _ _ _ _ _
   | exact ih1 _ _ _ _ _ _ _ _ _ _ _ _ _ _ _ _
   | exact ih2 _ _ _ _ _ _ _ _ _ _ _ _ _ _ _ _ _
   | exact falseworklaw21_awake.mono _
   | exact falseworklaw21_index.mono _ _ _
   | exact falseworklaw21_long.mono _ _
   | exact falseworkref2_Same.mono _ _ _
   | exact keys_Entry.mono _ _ _ _ _ _ _ _ _ _ _ _
   | exact LeO.none _
   | refine LeO.ite ?_ ?_
   | refine LeO.bind ?_ (fun _ => ?_)
  ·intro y0 y1 y2 y3 y4 y5 y6 y7 y8 y9 y10 y11 y12 y13 y14 y15 y16
   unfold falseworklaw21_KeysUnlike.l0
   repeat' first
   | (with_reducible exact ih0 _ _ _ _ _ _ _ _ _ _ _ _)
   | (with_reducible exact ih1 _ _ _ _ _ _ _ _ _ _ _ _ _ _ _ _)
   | (with_reducible exact ih2 _ _ _ _ _ _ _ _ _ _ _ _ _ _ _ _ _)
   | (with_reducible exact falseworklaw21_awake.mono _)
   | (with_reducible exact falseworklaw21_index.mono _ _ _)
   | (with_reducible exact falseworklaw21_long.mono _ _)
   | (with_reducible exact falseworkref2_Same.mono _ _ _)
   | (with_reducible exact keys_Entry.mono _ _ _ _ _ _ _ _ _ _ _ _)
   | (with_reducible exact LeO.refl _)
   | (with_reducible exact LeO.none _)
   | (with_reducible refine LeO.ite ?_ ?_)
   | (with_reducible refine LeO.bind ?_ (fun _ => ?_))
   | exact ih0 _ _ _ _ _ _ _ _ _ _ _ _
   | exact ih1 _ _ _ _ _ _ _ _ _ _ _ _ _ _ _ _
   | exact ih2 _ _ _ _ _ _ _ _ _ _ _ _ _ _ _ _ _
   | exact falseworklaw21_awake.mono _
   | exact falseworklaw21_index.mono _ _ _
   | exact falseworklaw21_long.mono _ _
   | exact falseworkref2_Same.mono _ _ _
   | exact keys_Entry.mono _ _ _ _ _ _ _ _ _ _ _ _
   | exact LeO.none _
   | refine LeO.ite ?_ ?_
   | refine LeO.bind ?_ (fun _ => ?_)
theorem falseworklaw21_KeysUnlike.mono : ∀ a0 a1 a2 a3 a4 a5 a6 a7 a8 a9 a10 k, LeO (falseworklaw21_KeysUnlike.f k a0 a1 a2 a3 a4 a5 a6 a7 a8 a9 a10) (falseworklaw21_KeysUnlike.f (k + 1) a0 a1 a2 a3 a4 a5 a6 a7 a8 a9 a10) := by
 intro a0 a1 a2 a3 a4 a5 a6 a7 a8 a9 a10 k
 obtain ⟨ih0, ih1, ih2⟩ := falseworklaw21_KeysUnlike.mono_l k
 unfold falseworklaw21_KeysUnlike.f
 repeat' first
   | (with_reducible exact ih0 _ _ _ _ _ _ _ _ _ _ _ _)
   | (with_reducible exact ih1 _ _ _ _ _ _ _ _ _ _ _ _ _ _ _ _)
   | (with_reducible exact ih2 _ _ _ _ _ _ _ _ _ _ _ _ _ _ _ _ _)
   | (with_reducible exact falseworklaw21_awake.mono _)
   | (with_reducible exact falseworklaw21_index.mono _ _ _)
   | (with_reducible exact falseworklaw21_long.mono _ _)
   | (with_reducible exact falseworkref2_Same.mono _ _ _)
   | (with_reducible exact keys_Entry.mono _ _ _ _ _ _ _ _ _ _ _ _)
   | (with_reducible exact LeO.refl _)
   | (with_reducible exact LeO.none _)
   | (with_reducible refine LeO.ite ?_ ?_)
   | (with_reducible refine LeO.bind ?_ (fun _ => ?_))
   | exact ih0 _ _ _ _ _ _ _ _ _ _ _ _
   | exact ih1 _ _ _ _ _ _ _ _ _ _ _ _ _ _ _ _
   | exact ih2 _ _ _ _ _ _ _ _ _ _ _ _ _ _ _ _ _
   | exact falseworklaw21_awake.mono _
   | exact falseworklaw21_index.mono _ _ _
   | exact falseworklaw21_long.mono _ _
   | exact falseworkref2_Same.mono _ _ _
   | exact keys_Entry.mono _ _ _ _ _ _ _ _ _ _ _ _
   | exact LeO.none _
   | refine LeO.ite ?_ ?_
   | refine LeO.bind ?_ (fun _ => ?_)
def falseworklaw21_KeysUnlike.T3 : Bool × List (List Nat × List Nat) := (true, [([], []), ([0], [0]), ([], []), ([1, 2], [1, 2]), ([], []), ([], []), ([3, 4, 5, 3], [3, 4, 5]), ([6], [6]), ([7], [7]), ([7], [7]), ([7], [7]), ([8, 6, 0, 1, 2, 3, 4, 5, 6, 7, 8], [8]), ([9, 11, 0, 1, 2, 3, 4, 5, 6, 7, 8, 9, 11], [9]), ([10, 12, 0, 1, 2, 3, 4, 5, 6, 7, 8, 9, 10, 11, 12], [10])])
def falseworklaw21_KeysUnlike.B3 : List Nat := [0, 1, 0, 7, 0, 0, 63, 127, 255, 255, 255, 511, 3071, 8191]
theorem falseworklaw21_KeysUnlike.tab3 : rtab .any (opsOf Try.f4 3) = falseworklaw21_KeysUnlike.T3 := by kernel_rfl
theorem falseworklaw21_KeysUnlike.bits3 : waitsOk falseworklaw21_KeysUnlike.T3.2 falseworklaw21_KeysUnlike.B3 = true := by kernel_rfl
def falseworklaw21_KeysUnlike.T4 : Bool × List (List Nat × List Nat) := (true, [([], []), ([0], [0]), ([], []), ([1, 2], [1, 2]), ([], []), ([], []), ([3, 4, 5, 3], [3, 4, 5]), ([6], [6]), ([7], [7]), ([7], [7]), ([7], [7]), ([8, 6, 0, 1, 2, 3, 4, 5, 6, 7, 8], [8]), ([9, 11, 0, 1, 2, 3, 4, 5, 6, 7, 8, 9, 11], [9]), ([10, 12, 0, 1, 2, 3, 4, 5, 6, 7, 8, 9, 10, 11, 12], [10])])
def falseworklaw21_KeysUnlike.B4 : List Nat := [0, 1, 0, 7, 0, 0, 63, 127, 255, 255, 255, 511, 3071, 8191]
theorem falseworklaw21_KeysUnlike.tab4 : rtab .any (opsOf Try.f4 4) = falseworklaw21_KeysUnlike.T4 := by kernel_rfl
theorem falseworklaw21_KeysUnlike.bits4 : waitsOk falseworklaw21_KeysUnlike.T4.2 falseworklaw21_KeysUnlike.B4 = true := by kernel_rfl
set_option maxHeartbeats 8000000 in
set_option maxRecDepth 100000 in
theorem falseworklaw21_KeysUnlike.calls (k : Nat) (a0 : Bool) (A1 : Option Addr) (c1 : Nat) (l1 : List (S24)) (A2 : Option Addr) (c2 : Nat) (l2 : List (S24)) (a3_0 : Int) (a3_1 : Int) (a3_2 : Int) (a3_3 : ByteArray) (a4_0 : Int) (a4_1 : Int) (a4_2 : Int) (a4_3 : ByteArray) (r : Bool) (w : World) (hr1 : Kd.C k24 w A1 l1.length l1) (hc1 : l1.length ≤ c1) (hr2 : Kd.C k24 w A2 l2.length l2) (hc2 : l2.length ≤ c2) (h : falseworklaw21_KeysUnlike.f k a0 l1 l2 a3_0 a3_1 a3_2 a3_3 a4_0 a4_1 a4_2 a4_3 = some r) :
  Calls Try.prog 4 #[.bool a0, .slice A1 l1.length c1, .slice A2 l2.length c2, .agg #[.int .i64 a3_0, .int .i64 a3_1, .int .u64 a3_2, .string a3_3], .agg #[.int .i64 a4_0, .int .i64 a4_1, .int .u64 a4_2, .string a4_3]] w fun e w' => e = .returned (.bool r) ∧ Below w.heap.size w w' := by
 have hu24 := Try.underlying24
 have HR1 := Aside0.mk hr1
 have HC1 := Aside0.mk hc1
 clear hr1 hc1
 have HR2 := Aside0.mk hr2
 have HC2 := Aside0.mk hc2
 clear hr2 hc2
 have HB := Aside0.mk (Below.refl w.heap.size w)
 have H : ((falseworklaw21_long.f k l1).bind fun t210 => (if t210 = true then (falseworklaw21_KeysUnlike.j0 k a0 l1 l2 true a3_0 a3_1 a3_2 a3_3 a4_0 a4_1 a4_2 a4_3) else ((falseworklaw21_long.f k l2).bind fun t211 => (if t211 = true then (falseworklaw21_KeysUnlike.j0 k a0 l1 l2 true a3_0 a3_1 a3_2 a3_3 a4_0 a4_1 a4_2 a4_3) else (if (l1.length : Int) = (l2.length : Int) then (if (a3_3.size : Int) > 1000 then (falseworklaw21_KeysUnlike.j0 k a0 l1 l2 true a3_0 a3_1 a3_2 a3_3 a4_0 a4_1 a4_2 a4_3) else (falseworklaw21_KeysUnlike.j0 k a0 l1 l2 (decide ((a4_3.size : Int) > 1000)) a3_0 a3_1 a3_2 a3_3 a4_0 a4_1 a4_2 a4_3)) else (falseworklaw21_KeysUnlike.j0 k a0 l1 l2 true a3_0 a3_1 a3_2 a3_3 a4_0 a4_1 a4_2 a4_3)))))) = some r := h
 clear h
 have HC6 := Aside0.mk H
 clear H
 go_enter Try.func4, Try.ntmps4
 go_upto_region 1 with (first | ((with_reducible refine gate_dst (N := 8) rfl ?_); (try (refine gate_guard (by rfl) ?_; dsimp only)); refine box_event ?hg (N := 8) ?hd (cs := #[.int .i64 a3_0, .int .i64 a3_1, .int .u64 a3_2, .string a3_3]) (t := 24) ?hr ?_; (case hd => rfl); (case hg => rfl); (case hr => first | (go_simp; done) | (go_simp; rfl)); intro gb208 hg w7 hbox hb; have n0_ := Aside0.mk (zS (by repeat (first | (with_reducible first | exact HB.out | apply zA | apply zN | apply zD) | exact HB.out)) hb); have n1_ := Aside0.mk (hbox); have n2_ := Aside0.mk ((by rw [hg]; exact (zZ (by repeat (first | (with_reducible first | exact HB.out | apply zA | apply zN | apply zD) | exact HB.out))) : w.heap.size ≤ gb208)); have n3_ := Aside0.mk ((by rw [hg]; exact (zZ (by repeat (first | (with_reducible first | exact HB.out | apply zA | apply zN | apply zD) | exact HB.out))) : w.heap.size ≤ gb208)); clear HB; have HB := n0_; have BK208 := n1_; have GW208 := n2_; have GE208 := n3_; clear n0_ n1_ n2_ n3_; clear hb hbox hg) | ((with_reducible refine gate_dst (N := 9) rfl ?_); (try (refine gate_guard (by rfl) ?_; dsimp only)); refine box_event ?hg (N := 9) ?hd (cs := #[.int .i64 a4_0, .int .i64 a4_1, .int .u64 a4_2, .string a4_3]) (t := 24) ?hr ?_; (case hd => rfl); (case hg => rfl); (case hr => first | (go_simp; done) | (go_simp; rfl)); intro gb209 hg w8 hbox hb; have n0_ := Aside0.mk (yB (g := gb208) (o := .cells #[.int .i64 a3_0, .int .i64 a3_1, .int .u64 a3_2, .string a3_3] 24 (0, 0)) (by (with_reducible repeat (first | refine yN ?_ _ | refine yD ?_ | refine yA ?_ _)); exact BK208.out) hb); have n1_ := Aside0.mk (zS (by repeat (first | (with_reducible first | exact HB.out | apply zA | apply zN | apply zD | refine below_set ?_ GE208.out) | exact HB.out)) hb); have n2_ := Aside0.mk (hbox); have n3_ := Aside0.mk ((by rw [hg]; exact (zZ (by repeat (first | (with_reducible first | exact HB.out | apply zA | apply zN | apply zD | refine below_set ?_ GE208.out) | exact HB.out))) : w.heap.size ≤ gb209)); have n4_ := Aside0.mk ((by rw [hg]; exact (zZ (by repeat (first | (with_reducible first | exact HB.out | apply zA | apply zN | apply zD | refine below_set ?_ GE208.out) | exact HB.out))) : w.heap.size ≤ gb209)); have n5_ := Aside0.mk ((by rw [hg]; exact Nat.ne_of_lt (blk_lt (g := gb208) (o := .cells #[.int .i64 a3_0, .int .i64 a3_1, .int .u64 a3_2, .string a3_3] 24 (0, 0)) (by (with_reducible repeat (first | refine yN ?_ _ | refine yD ?_ | refine yA ?_ _)); exact BK208.out)) : gb208 ≠ gb209)); have n6_ := Aside0.mk ((by rw [hg]; exact Nat.ne_of_gt (blk_lt (g := gb208) (o := .cells #[.int .i64 a3_0, .int .i64 a3_1, .int .u64 a3_2, .string a3_3] 24 (0, 0)) (by (with_reducible repeat (first | refine yN ?_ _ | refine yD ?_ | refine yA ?_ _)); exact BK208.out)) : gb209 ≠ gb208)); clear BK208; clear HB; have BK208 := n0_; have HB := n1_; have BK209 := n2_; have GW209 := n3_; have GE209 := n4_; have NB208_209 := n5_; have NB209_208 := n6_; clear n0_ n1_ n2_ n3_ n4_ n5_ n6_; clear hb hbox hg))
 (try simp only [Act.put, List.setIfInBounds_toArray, List.set_cons_zero, List.set_cons_succ])
 go_cut [44] (fun v44 wc => ∃ (kq : Nat) (x44_5 : Bool), v44 = .bool x44_5 ∧ Aside0 (falseworklaw21_KeysUnlike.j0 kq a0 l1 l2 x44_5 a3_0 a3_1 a3_2 a3_3 a4_0 a4_1 a4_2 a4_3 = some r) ∧ Aside0 (kq ≤ k) ∧ Aside0 (wc.heap[gb208]? = some (.cells #[.int .i64 a3_0, .int .i64 a3_1, .int .u64 a3_2, .string a3_3] 24 (0, 0))) ∧ Aside0 (wc.heap[gb209]? = some (.cells #[.int .i64 a4_0, .int .i64 a4_1, .int .u64 a4_2, .string a4_3] 24 (0, 0))) ∧ Aside0 (Below w.heap.size w wc))
 case first =>
  have H := HC6.out
  clear HC6
  replace H := Option.bind_eq_some_iff.mp H
  obtain ⟨t210, A90, H⟩ := H
  replace H : (if t210 = true then (falseworklaw21_KeysUnlike.j0 k a0 l1 l2 true a3_0 a3_1 a3_2 a3_3 a4_0 a4_1 a4_2 a4_3) else ((falseworklaw21_long.f k l2).bind fun t211 => (if t211 = true then (falseworklaw21_KeysUnlike.j0 k a0 l1 l2 true a3_0 a3_1 a3_2 a3_3 a4_0 a4_1 a4_2 a4_3) else (if (l1.length : Int) = (l2.length : Int) then (if (a3_3.size : Int) > 1000 then (falseworklaw21_KeysUnlike.j0 k a0 l1 l2 true a3_0 a3_1 a3_2 a3_3 a4_0 a4_1 a4_2 a4_3) else (falseworklaw21_KeysUnlike.j0 k a0 l1 l2 (decide ((a4_3.size : Int) > 1000)) a3_0 a3_1 a3_2 a3_3 a4_0 a4_1 a4_2 a4_3)) else (falseworklaw21_KeysUnlike.j0 k a0 l1 l2 true a3_0 a3_1 a3_2 a3_3 a4_0 a4_1 a4_2 a4_3))))) = some r := H
  have A9 := Aside0.mk A90
  clear A90
  by_cases c10 : t210 = true
  ·subst c10
   have H1 : (falseworklaw21_KeysUnlike.j0 k a0 l1 l2 true a3_0 a3_1 a3_2 a3_3 a4_0 a4_1 a4_2 a4_3) = some r := by rw [if_pos rfl] at H; exact H
   clear H
   have H := H1
   clear H1
   have H' := Aside0.mk H
   clear H
   go_wp2_with (first | ((with_reducible refine gate_callee (f := 16) rfl ?_); refine goesL_ (some 21) rfl rfl Try.func16 (by kernel_rfl) rfl #[.slice A1 l1.length c1] rfl (by (try simp only [List.map_toArray, List.map_cons, List.map_nil]); first | done | rfl | (simp only [List.length_drop, List.length_take]; rfl)) ?_; (with_reducible refine (falseworklaw21_long.calls k _ _ l1 true _ ?side1 ?side2 A9.out).mono ?_); (case side1 => repeat (first | exact (Kd.C_below HR1.out HB.out) | (with_reducible refine Kd.C_alloc ?_ _) | (with_reducible refine Kd.C_drewN ?_ _) | (with_reducible refine Kd.C_drew ?_))); (case side2 => exact HC1.out); rintro e w' ⟨rfl, ⟨nd, rfl⟩⟩; refine ⟨_, rfl, ?_⟩))
   go_meet
   case rel => exact ⟨_, (true), (by first | rfl | (simp; done) | (simp [*]; done)), H', ⟨by first | omega | exact Nat.le_refl _⟩, ⟨by (with_reducible repeat (first | refine yN ?_ _ | refine yD ?_ | refine yA ?_ _)); exact BK208.out⟩, ⟨by (with_reducible repeat (first | refine yN ?_ _ | refine yD ?_ | refine yA ?_ _)); exact BK209.out⟩, ⟨by repeat (first | (with_reducible first | exact HB.out | apply zA | apply zN | apply zD | refine below_set ?_ GE208.out | refine below_set ?_ GE209.out) | exact HB.out)⟩⟩
  ·replace c10 := Bool.eq_false_iff.mpr c10
   subst c10
   have H1 : ((falseworklaw21_long.f k l2).bind fun t211 => (if t211 = true then (falseworklaw21_KeysUnlike.j0 k a0 l1 l2 true a3_0 a3_1 a3_2 a3_3 a4_0 a4_1 a4_2 a4_3) else (if (l1.length : Int) = (l2.length : Int) then (if (a3_3.size : Int) > 1000 then (falseworklaw21_KeysUnlike.j0 k a0 l1 l2 true a3_0 a3_1 a3_2 a3_3 a4_0 a4_1 a4_2 a4_3) else (falseworklaw21_KeysUnlike.j0 k a0 l1 l2 (decide ((a4_3.size : Int) > 1000)) a3_0 a3_1 a3_2 a3_3 a4_0 a4_1 a4_2 a4_3)) else (falseworklaw21_KeysUnlike.j0 k a0 l1 l2 true a3_0 a3_1 a3_2 a3_3 a4_0 a4_1 a4_2 a4_3)))) = some r := by rw [if_neg (show ¬ (false = true) by decide)] at H; exact H
   clear H
   have H := H1
   clear H1
   replace H := Option.bind_eq_some_iff.mp H
   obtain ⟨t211, A110, H⟩ := H
   replace H : (if t211 = true then (falseworklaw21_KeysUnlike.j0 k a0 l1 l2 true a3_0 a3_1 a3_2 a3_3 a4_0 a4_1 a4_2 a4_3) else (if (l1.length : Int) = (l2.length : Int) then (if (a3_3.size : Int) > 1000 then (falseworklaw21_KeysUnlike.j0 k a0 l1 l2 true a3_0 a3_1 a3_2 a3_3 a4_0 a4_1 a4_2 a4_3) else (falseworklaw21_KeysUnlike.j0 k a0 l1 l2 (decide ((a4_3.size : Int) > 1000)) a3_0 a3_1 a3_2 a3_3 a4_0 a4_1 a4_2 a4_3)) else (falseworklaw21_KeysUnlike.j0 k a0 l1 l2 true a3_0 a3_1 a3_2 a3_3 a4_0 a4_1 a4_2 a4_3))) = some r := H
   have A11 := Aside0.mk A110
   clear A110
   by_cases c12 : t211 = true
   ·subst c12
    have H1 : (falseworklaw21_KeysUnlike.j0 k a0 l1 l2 true a3_0 a3_1 a3_2 a3_3 a4_0 a4_1 a4_2 a4_3) = some r := by rw [if_pos rfl] at H; exact H
    clear H
    have H := H1
    clear H1
    have H' := Aside0.mk H
    clear H
    go_wp2_with (first | ((with_reducible refine gate_callee (f := 16) rfl ?_); refine goesL_ (some 21) rfl rfl Try.func16 (by kernel_rfl) rfl #[.slice A1 l1.length c1] rfl (by (try simp only [List.map_toArray, List.map_cons, List.map_nil]); first | done | rfl | (simp only [List.length_drop, List.length_take]; rfl)) ?_; (with_reducible refine (falseworklaw21_long.calls k _ _ l1 false _ ?side1 ?side2 A9.out).mono ?_); (case side1 => repeat (first | exact (Kd.C_below HR1.out HB.out) | (with_reducible refine Kd.C_alloc ?_ _) | (with_reducible refine Kd.C_drewN ?_ _) | (with_reducible refine Kd.C_drew ?_))); (case side2 => exact HC1.out); rintro e w' ⟨rfl, ⟨nd, rfl⟩⟩; refine ⟨_, rfl, ?_⟩) | (go_at_call 16; (with_reducible refine (falseworklaw21_long.calls k _ _ l2 true _ ?side1 ?side2 A11.out).mono ?_); (case side1 => repeat (first | exact (Kd.C_below HR2.out (by repeat (first | (with_reducible first | exact HB.out | apply zA | apply zN | apply zD | refine below_set ?_ GE208.out | refine below_set ?_ GE209.out) | exact HB.out))) | (with_reducible refine Kd.C_alloc ?_ _) | (with_reducible refine Kd.C_drewN ?_ _) | (with_reducible refine Kd.C_drew ?_))); (case side2 => exact HC2.out); rintro e w' ⟨rfl, ⟨nd, rfl⟩⟩))
    go_meet
    case rel => exact ⟨_, (true), (by first | rfl | (simp; done) | (simp [*]; done)), H', ⟨by first | omega | exact Nat.le_refl _⟩, ⟨by (with_reducible repeat (first | refine yN ?_ _ | refine yD ?_ | refine yA ?_ _)); exact BK208.out⟩, ⟨by (with_reducible repeat (first | refine yN ?_ _ | refine yD ?_ | refine yA ?_ _)); exact BK209.out⟩, ⟨by repeat (first | (with_reducible first | exact HB.out | apply zA | apply zN | apply zD | refine below_set ?_ GE208.out | refine below_set ?_ GE209.out) | exact HB.out)⟩⟩
   ·replace c12 := Bool.eq_false_iff.mpr c12
    subst c12
    have H1 : (if (l1.length : Int) = (l2.length : Int) then (if (a3_3.size : Int) > 1000 then (falseworklaw21_KeysUnlike.j0 k a0 l1 l2 true a3_0 a3_1 a3_2 a3_3 a4_0 a4_1 a4_2 a4_3) else (falseworklaw21_KeysUnlike.j0 k a0 l1 l2 (decide ((a4_3.size : Int) > 1000)) a3_0 a3_1 a3_2 a3_3 a4_0 a4_1 a4_2 a4_3)) else (falseworklaw21_KeysUnlike.j0 k a0 l1 l2 true a3_0 a3_1 a3_2 a3_3 a4_0 a4_1 a4_2 a4_3)) = some r := by rw [if_neg (show ¬ (false = true) by decide)] at H; exact H
    clear H
    have H := H1
    clear H1
    by_cases c13 : (l1.length : Int) = (l2.length : Int)
    ·rw [if_pos c13] at H
     have c13b0 : ((l1.length : Int) == (l2.length : Int)) = true := beq_iff_eq.mpr c13
     have c13b1 : ((l1.length : Int) != (l2.length : Int)) = false := bne_eq_false_iff_eq.mpr c13
     have c13b2 : (l1.length == l2.length) = true := by first | simpa using c13 | (simp at c13 ⊢; omega)
     clear c13
     (first | rw [c13b0] | (simp only [i64_w, i32_w]; rw [c13b0]) | skip)
     by_cases c14 : (a3_3.size : Int) > 1000
     ·rw [if_pos c14] at H
      have c14b0 : decide (1000 < (a3_3.size : Int)) = true := decide_eq_true c14
      have c14b1 : decide (1000 < a3_3.size) = true := decide_eq_true (by omega)
      clear c14
      have H' := Aside0.mk H
      clear H
      go_wp2_with (first | ((with_reducible refine gate_callee (f := 16) rfl ?_); refine goesL_ (some 21) rfl rfl Try.func16 (by kernel_rfl) rfl #[.slice A1 l1.length c1] rfl (by (try simp only [List.map_toArray, List.map_cons, List.map_nil]); first | done | rfl | (simp only [List.length_drop, List.length_take]; rfl)) ?_; (with_reducible refine (falseworklaw21_long.calls k _ _ l1 false _ ?side1 ?side2 A9.out).mono ?_); (case side1 => repeat (first | exact (Kd.C_below HR1.out HB.out) | (with_reducible refine Kd.C_alloc ?_ _) | (with_reducible refine Kd.C_drewN ?_ _) | (with_reducible refine Kd.C_drew ?_))); (case side2 => exact HC1.out); rintro e w' ⟨rfl, ⟨nd, rfl⟩⟩; refine ⟨_, rfl, ?_⟩) | (go_at_call 16; (with_reducible refine (falseworklaw21_long.calls k _ _ l2 false _ ?side1 ?side2 A11.out).mono ?_); (case side1 => repeat (first | exact (Kd.C_below HR2.out (by repeat (first | (with_reducible first | exact HB.out | apply zA | apply zN | apply zD | refine below_set ?_ GE208.out | refine below_set ?_ GE209.out) | exact HB.out))) | (with_reducible refine Kd.C_alloc ?_ _) | (with_reducible refine Kd.C_drewN ?_ _) | (with_reducible refine Kd.C_drew ?_))); (case side2 => exact HC2.out); rintro e w' ⟨rfl, ⟨nd, rfl⟩⟩; have hnb15 := NB208_209.out; have hnc15 := NB209_208.out; obtain ⟨hcz16_0, hcz16_1, hcz16_2, hcz16_3⟩ := blkc4 BK208.out; obtain ⟨hfz16_0, hfz16_1, hfz16_2, hfz16_3⟩ := blkf4 BK208.out))
      go_meet
      case rel => exact ⟨_, (true), (by first | rfl | (simp; done) | (simp [*]; done)), H', ⟨by first | omega | exact Nat.le_refl _⟩, ⟨by (with_reducible repeat (first | refine yN ?_ _ | refine yD ?_ | refine yA ?_ _)); exact BK208.out⟩, ⟨by (with_reducible repeat (first | refine yN ?_ _ | refine yD ?_ | refine yA ?_ _)); exact BK209.out⟩, ⟨by repeat (first | (with_reducible first | exact HB.out | apply zA | apply zN | apply zD | refine below_set ?_ GE208.out | refine below_set ?_ GE209.out) | exact HB.out)⟩⟩
     ·rw [if_neg c14] at H
      have c14b0 : decide (1000 < (a3_3.size : Int)) = false := decide_eq_false c14
      have c14b1 : decide (1000 < a3_3.size) = false := decide_eq_false (by omega)
      clear c14
      have H' := Aside0.mk H
      clear H
      go_wp2_with (first | ((with_reducible refine gate_callee (f := 16) rfl ?_); refine goesL_ (some 21) rfl rfl Try.func16 (by kernel_rfl) rfl #[.slice A1 l1.length c1] rfl (by (try simp only [List.map_toArray, List.map_cons, List.map_nil]); first | done | rfl | (simp only [List.length_drop, List.length_take]; rfl)) ?_; (with_reducible refine (falseworklaw21_long.calls k _ _ l1 false _ ?side1 ?side2 A9.out).mono ?_); (case side1 => repeat (first | exact (Kd.C_below HR1.out HB.out) | (with_reducible refine Kd.C_alloc ?_ _) | (with_reducible refine Kd.C_drewN ?_ _) | (with_reducible refine Kd.C_drew ?_))); (case side2 => exact HC1.out); rintro e w' ⟨rfl, ⟨nd, rfl⟩⟩; refine ⟨_, rfl, ?_⟩) | (go_at_call 16; (with_reducible refine (falseworklaw21_long.calls k _ _ l2 false _ ?side1 ?side2 A11.out).mono ?_); (case side1 => repeat (first | exact (Kd.C_below HR2.out (by repeat (first | (with_reducible first | exact HB.out | apply zA | apply zN | apply zD | refine below_set ?_ GE208.out | refine below_set ?_ GE209.out) | exact HB.out))) | (with_reducible refine Kd.C_alloc ?_ _) | (with_reducible refine Kd.C_drewN ?_ _) | (with_reducible refine Kd.C_drew ?_))); (case side2 => exact HC2.out); rintro e w' ⟨rfl, ⟨nd, rfl⟩⟩; have hnb17 := NB208_209.out; have hnc17 := NB209_208.out; obtain ⟨hcz18_0, hcz18_1, hcz18_2, hcz18_3⟩ := blkc4 BK208.out; obtain ⟨hfz18_0, hfz18_1, hfz18_2, hfz18_3⟩ := blkf4 BK208.out; obtain ⟨hcz19_0, hcz19_1, hcz19_2, hcz19_3⟩ := blkc4 BK209.out; obtain ⟨hfz19_0, hfz19_1, hfz19_2, hfz19_3⟩ := blkf4 BK209.out))
      go_meet
      case rel => exact ⟨_, (decide ((a4_3.size : Int) > 1000)), (by first | rfl | (simp; done) | (simp [*]; done)), H', ⟨by first | omega | exact Nat.le_refl _⟩, ⟨by (with_reducible repeat (first | refine yN ?_ _ | refine yD ?_ | refine yA ?_ _)); exact BK208.out⟩, ⟨by (with_reducible repeat (first | refine yN ?_ _ | refine yD ?_ | refine yA ?_ _)); exact BK209.out⟩, ⟨by repeat (first | (with_reducible first | exact HB.out | apply zA | apply zN | apply zD | refine below_set ?_ GE208.out | refine below_set ?_ GE209.out) | exact HB.out)⟩⟩
    ·rw [if_neg c13] at H
     have c13b0 : ((l1.length : Int) == (l2.length : Int)) = false := beq_eq_false_iff_ne.mpr c13
     have c13b1 : ((l1.length : Int) != (l2.length : Int)) = true := bne_iff_ne.mpr c13
     have c13b2 : (l1.length == l2.length) = false := by first | simpa using c13 | (simp at c13 ⊢; omega)
     (first | rw [c13b0] | (simp only [i64_w, i32_w]; rw [c13b0]) | skip)
     have H' := Aside0.mk H
     clear H
     go_wp2_with (first | ((with_reducible refine gate_callee (f := 16) rfl ?_); refine goesL_ (some 21) rfl rfl Try.func16 (by kernel_rfl) rfl #[.slice A1 l1.length c1] rfl (by (try simp only [List.map_toArray, List.map_cons, List.map_nil]); first | done | rfl | (simp only [List.length_drop, List.length_take]; rfl)) ?_; (with_reducible refine (falseworklaw21_long.calls k _ _ l1 false _ ?side1 ?side2 A9.out).mono ?_); (case side1 => repeat (first | exact (Kd.C_below HR1.out HB.out) | (with_reducible refine Kd.C_alloc ?_ _) | (with_reducible refine Kd.C_drewN ?_ _) | (with_reducible refine Kd.C_drew ?_))); (case side2 => exact HC1.out); rintro e w' ⟨rfl, ⟨nd, rfl⟩⟩; refine ⟨_, rfl, ?_⟩) | (go_at_call 16; (with_reducible refine (falseworklaw21_long.calls k _ _ l2 false _ ?side1 ?side2 A11.out).mono ?_); (case side1 => repeat (first | exact (Kd.C_below HR2.out (by repeat (first | (with_reducible first | exact HB.out | apply zA | apply zN | apply zD | refine below_set ?_ GE208.out | refine below_set ?_ GE209.out) | exact HB.out))) | (with_reducible refine Kd.C_alloc ?_ _) | (with_reducible refine Kd.C_drewN ?_ _) | (with_reducible refine Kd.C_drew ?_))); (case side2 => exact HC2.out); rintro e w' ⟨rfl, ⟨nd, rfl⟩⟩))
     go_meet
     case rel => exact ⟨_, (true), (by first | rfl | (simp; done) | (simp [*]; done)), H', ⟨by first | omega | exact Nat.le_refl _⟩, ⟨by (with_reducible repeat (first | refine yN ?_ _ | refine yD ?_ | refine yA ?_ _)); exact BK208.out⟩, ⟨by (with_reducible repeat (first | refine yN ?_ _ | refine yD ?_ | refine yA ?_ _)); exact BK209.out⟩, ⟨by repeat (first | (with_reducible first | exact HB.out | apply zA | apply zN | apply zD | refine below_set ?_ GE208.out | refine below_set ?_ GE209.out) | exact HB.out)⟩⟩
 case rest =>
  clear HC6
  try clear c1
  try clear c2
  try clear p2
  try clear c4
  try clear c10
  try clear c12
  try clear c13
  try clear c13b0
  try clear c13b1
  try clear c13b2
  try clear c14
  try clear c14b0
  try clear c14b1
  try clear c15
  try clear c16
  try clear c17
  try clear hcz16_0
  try clear hcz16_1
  try clear hcz16_2
  try clear hcz16_3
  try clear hcz18_0
  try clear hcz18_1
  try clear hcz18_2
  try clear hcz18_3
  try clear hcz19_0
  try clear hcz19_1
  try clear hcz19_2
  try clear hcz19_3
  try clear hfz16_0
  try clear hfz16_1
  try clear hfz16_2
  try clear hfz16_3
  try clear hfz18_0
  try clear hfz18_1
  try clear hfz18_2
  try clear hfz18_3
  try clear hfz19_0
  try clear hfz19_1
  try clear hfz19_2
  try clear hfz19_3
  obtain ⟨kq, x44_5, rfl, HA, HJ5, BK208, BK209, HB⟩ := hcut
  cases kq with
  | zero => exact absurd HA.out (by simp [falseworklaw21_KeysUnlike.j0])
  | succ kj5 =>
   have H := HA.out
   clear HA
   simp only [falseworklaw21_KeysUnlike.j0] at H
   by_cases c20 : x44_5 = true
   ·subst c20
    have H1 : ((falseworklaw21_awake.f kj5).bind fun t212 => (some t212)) = some r := by rw [if_pos rfl] at H; exact H
    clear H
    have H := H1
    clear H1
    replace H := Option.bind_eq_some_iff.mp H
    obtain ⟨t212, A210, H⟩ := H
    replace H : (some t212) = some r := H
    have A21 := Aside0.mk A210
    clear A210
    obtain rfl := Option.some.inj H
    go_wp2_with (first | ((with_reducible refine gate_callee (f := 8) rfl ?_); refine goesL_ (some 45) rfl rfl Try.func8 (by kernel_rfl) rfl #[] rfl (by (try simp only [List.map_toArray, List.map_cons, List.map_nil]); first | done | rfl | (simp only [List.length_drop, List.length_take]; rfl)) ?_; (with_reducible refine (falseworklaw21_awake.calls kj5  t212 _ A21.out).mono ?_); rintro e w22 ⟨rfl, hb⟩; refine ⟨_, rfl, ?_⟩; have n0_ := Aside0.mk (yB (g := gb208) (o := .cells #[.int .i64 a3_0, .int .i64 a3_1, .int .u64 a3_2, .string a3_3] 24 (0, 0)) (by (with_reducible repeat (first | refine yN ?_ _ | refine yD ?_ | refine yA ?_ _)); exact BK208.out) hb); have n1_ := Aside0.mk (yB (g := gb209) (o := .cells #[.int .i64 a4_0, .int .i64 a4_1, .int .u64 a4_2, .string a4_3] 24 (0, 0)) (by (with_reducible repeat (first | refine yN ?_ _ | refine yD ?_ | refine yA ?_ _)); exact BK209.out) hb); have n2_ := Aside0.mk (zS (by repeat (first | (with_reducible first | exact HB.out | apply zA | apply zN | apply zD | refine below_set ?_ GE208.out | refine below_set ?_ GE209.out) | exact HB.out)) hb); clear BK208; clear BK209; clear HB; have BK208 := n0_; have BK209 := n1_; have HB := n2_; clear n0_ n1_ n2_; (try clear hb); (try clear hb2); (try clear hk); (try clear hi)))
    go_ret
    exact ⟨by first | rfl | (simp [errW_none, errW_some] <;> rfl) | (simp [*, errW_none, errW_some] <;> rfl), by repeat (first | (with_reducible first | exact HB.out | apply zA | apply zN | apply zD | refine below_set ?_ GE208.out | refine below_set ?_ GE209.out) | exact HB.out)⟩
   ·replace c20 := Bool.eq_false_iff.mpr c20
    subst c20
    have H1 : ((falseworklaw21_index.f kj5 (l1.length : Int) a0).bind fun bt213 => ((keys_Entry.f kj5 3 bt213.1 bt213.2.1 bt213.2.2.1 bt213.2.2.2.1 bt213.2.2.2.2 l1 a3_0 a3_1 a3_2 a3_3).bind fun bt220 => ((falseworklaw21_index.f kj5 (l2.length : Int) a0).bind fun bt223 => ((keys_Entry.f kj5 3 bt223.1 bt223.2.1 bt223.2.2.1 bt223.2.2.2.1 bt223.2.2.2.2 l2 a4_0 a4_1 a4_2 a4_3).bind fun bt230 => ((falseworklaw21_num.f bt220.2.2).bind fun t233 => (if t233 = 0 then ((falseworklaw21_num.f bt230.2.2).bind fun t234 => (falseworklaw21_KeysUnlike.j1 kj5 a0 l1 l2 bt220.1 bt220.2.1 bt230.1 bt230.2.1 (t234 != 0) a3_0 a3_1 a3_2 a3_3 a4_0 a4_1 a4_2 a4_3)) else (falseworklaw21_KeysUnlike.j1 kj5 a0 l1 l2 bt220.1 bt220.2.1 bt230.1 bt230.2.1 true a3_0 a3_1 a3_2 a3_3 a4_0 a4_1 a4_2 a4_3))))))) = some r := by rw [if_neg (show ¬ (false = true) by decide)] at H; exact H
    clear H
    have H := H1
    clear H1
    replace H := Option.bind_eq_some_iff.mp H
    obtain ⟨⟨t213, t214, t215, t218, t219⟩, A230, H⟩ := H
    replace H : ((keys_Entry.f kj5 3 t213 t214 t215 t218 t219 l1 a3_0 a3_1 a3_2 a3_3).bind fun bt220 => ((falseworklaw21_index.f kj5 (l2.length : Int) a0).bind fun bt223 => ((keys_Entry.f kj5 3 bt223.1 bt223.2.1 bt223.2.2.1 bt223.2.2.2.1 bt223.2.2.2.2 l2 a4_0 a4_1 a4_2 a4_3).bind fun bt230 => ((falseworklaw21_num.f bt220.2.2).bind fun t233 => (if t233 = 0 then ((falseworklaw21_num.f bt230.2.2).bind fun t234 => (falseworklaw21_KeysUnlike.j1 kj5 a0 l1 l2 bt220.1 bt220.2.1 bt230.1 bt230.2.1 (t234 != 0) a3_0 a3_1 a3_2 a3_3 a4_0 a4_1 a4_2 a4_3)) else (falseworklaw21_KeysUnlike.j1 kj5 a0 l1 l2 bt220.1 bt220.2.1 bt230.1 bt230.2.1 true a3_0 a3_1 a3_2 a3_3 a4_0 a4_1 a4_2 a4_3)))))) = some r := H
    have A23 := Aside0.mk A230
    clear A230
    replace H := Option.bind_eq_some_iff.mp H
    obtain ⟨⟨t220, t221, t222⟩, A240, H⟩ := H
    replace H : ((falseworklaw21_index.f kj5 (l2.length : Int) a0).bind fun bt223 => ((keys_Entry.f kj5 3 bt223.1 bt223.2.1 bt223.2.2.1 bt223.2.2.2.1 bt223.2.2.2.2 l2 a4_0 a4_1 a4_2 a4_3).bind fun bt230 => ((falseworklaw21_num.f t222).bind fun t233 => (if t233 = 0 then ((falseworklaw21_num.f bt230.2.2).bind fun t234 => (falseworklaw21_KeysUnlike.j1 kj5 a0 l1 l2 t220 t221 bt230.1 bt230.2.1 (t234 != 0) a3_0 a3_1 a3_2 a3_3 a4_0 a4_1 a4_2 a4_3)) else (falseworklaw21_KeysUnlike.j1 kj5 a0 l1 l2 t220 t221 bt230.1 bt230.2.1 true a3_0 a3_1 a3_2 a3_3 a4_0 a4_1 a4_2 a4_3))))) = some r := H
    have A24 := Aside0.mk A240
    clear A240
    replace H := Option.bind_eq_some_iff.mp H
    obtain ⟨⟨t223, t224, t225, t228, t229⟩, A250, H⟩ := H
    replace H : ((keys_Entry.f kj5 3 t223 t224 t225 t228 t229 l2 a4_0 a4_1 a4_2 a4_3).bind fun bt230 => ((falseworklaw21_num.f t222).bind fun t233 => (if t233 = 0 then ((falseworklaw21_num.f bt230.2.2).bind fun t234 => (falseworklaw21_KeysUnlike.j1 kj5 a0 l1 l2 t220 t221 bt230.1 bt230.2.1 (t234 != 0) a3_0 a3_1 a3_2 a3_3 a4_0 a4_1 a4_2 a4_3)) else (falseworklaw21_KeysUnlike.j1 kj5 a0 l1 l2 t220 t221 bt230.1 bt230.2.1 true a3_0 a3_1 a3_2 a3_3 a4_0 a4_1 a4_2 a4_3)))) = some r := H
    have A25 := Aside0.mk A250
    clear A250
    replace H := Option.bind_eq_some_iff.mp H
    obtain ⟨⟨t230, t231, t232⟩, A260, H⟩ := H
    replace H : ((falseworklaw21_num.f t222).bind fun t233 => (if t233 = 0 then ((falseworklaw21_num.f t232).bind fun t234 => (falseworklaw21_KeysUnlike.j1 kj5 a0 l1 l2 t220 t221 t230 t231 (t234 != 0) a3_0 a3_1 a3_2 a3_3 a4_0 a4_1 a4_2 a4_3)) else (falseworklaw21_KeysUnlike.j1 kj5 a0 l1 l2 t220 t221 t230 t231 true a3_0 a3_1 a3_2 a3_3 a4_0 a4_1 a4_2 a4_3))) = some r := H
    have A26 := Aside0.mk A260
    clear A260
    have HC27 := Aside0.mk H
    clear H
    try go_wp2
    have n0_ := Aside0.mk (yD BK208.out)
    have n1_ := Aside0.mk (yD BK209.out)
    have n2_ := Aside0.mk (zD HB.out)
    clear BK208
    clear BK209
    clear HB
    have BK208 := n0_
    have BK209 := n1_
    have HB := n2_
    clear n0_ n1_ n2_
    refine start_ (n := 14) (S := fun w' => w'.cell? ⟨gb208, 0, none⟩ = some (.int .i64 a3_0) ∧ w'.cell? ⟨gb208, 1, none⟩ = some (.int .i64 a3_1) ∧ w'.cell? ⟨gb208, 2, none⟩ = some (.int .u64 a3_2) ∧ w'.cell? ⟨gb208, 3, none⟩ = some (.string a3_3)) (ds := []) #[false, false, false, false, false, false, false, false, false, false, false, false, false, false] (by kernel_rfl) rfl rfl ⟨(blk_cell BK208.out 0).trans rfl, (blk_cell BK208.out 1).trans rfl, (blk_cell BK208.out 2).trans rfl, (blk_cell BK208.out 3).trans rfl⟩ (fun hHeld => ?_); refine with_tabW falseworklaw21_KeysUnlike.tab3 falseworklaw21_KeysUnlike.bits3 (fun HT_ HW_ => ?_)
    generalize wc.drew = w28 at BK208 BK209 HB hHeld ⊢
    refine pure_ (i := 0) (N := some 47) (v := ?_) (a' := ?_) #[true, false, false, false, false, false, false, false, false, false, false, false, false, false] rfl rfl (any_of HT_.out (by kernel_rfl)) (fun _ _ _ h => h) (Or.inl ⟨by rfl, ?_⟩) ?_ ?_
    rotate_left
    ·intro w'
     go_simp
     with_reducible rfl
    rotate_left
    ·simp only [Act.put, List.setIfInBounds_toArray, List.set_cons_zero, List.set_cons_succ, i64_w, i32_w]
     rfl
    refine pure_ (i := 1) (N := some 48) (v := ?_) (a' := ?_) #[true, true, false, false, false, false, false, false, false, false, false, false, false, false] rfl rfl (any_of HT_.out (by kernel_rfl)) (fun _ _ _ h => h) (Or.inl ⟨by rfl, ?_⟩) ?_ ?_
    rotate_left
    ·intro w'
     go_simp
     with_reducible rfl
    rotate_left
    ·simp only [Act.put, List.setIfInBounds_toArray, List.set_cons_zero, List.set_cons_succ, i64_w, i32_w]
     rfl
    refine pure_ (i := 2) (N := some 49) (v := ?_) (a' := ?_) #[true, true, true, false, false, false, false, false, false, false, false, false, false, false] rfl rfl (any_of HT_.out (by kernel_rfl)) (fun _ _ _ h => h) (Or.inl ⟨by rfl, ?_⟩) ?_ ?_
    rotate_left
    ·intro w'
     go_simp
     with_reducible rfl
    rotate_left
    ·simp only [Act.put, List.setIfInBounds_toArray, List.set_cons_zero, List.set_cons_succ, i64_w, i32_w]
     rfl
    refine pure_ (i := 4) (N := some 51) (v := ?_) (a' := ?_) #[true, true, true, false, true, false, false, false, false, false, false, false, false, false] rfl rfl (any_of HT_.out (by kernel_rfl)) (fun _ _ _ h => h) (Or.inl ⟨by rfl, ?_⟩) ?_ ?_
    rotate_left
    ·intro w'
     go_simp
     with_reducible rfl
    rotate_left
    ·simp only [Act.put, List.setIfInBounds_toArray, List.set_cons_zero, List.set_cons_succ, i64_w, i32_w]
     rfl
    refine take_ (i := 5) (N := some 52) (v := ?_) (a' := ?_) #[true, true, true, false, true, true, false, false, false, false, false, false, false, false] rfl rfl (take_ofW HT_.out HW_.out (by kernel_rfl)) (fun _ _ _ h => h) (Or.inl ⟨by rfl, ?_⟩) hHeld ?_ ?_
    rotate_left
    ·rintro w' ⟨s0, s1, s2, s3⟩
     go_simp
     with_reducible rfl
    rotate_left
    ·simp only [Act.put, List.setIfInBounds_toArray, List.set_cons_zero, List.set_cons_succ, i64_w, i32_w]
     rfl
    refine one_ (i := 3) (N := some 50) #[true, true, true, true, true, true, false, false, false, false, false, false, false, false] rfl rfl (one_of HT_.out (by kernel_rfl)) (by decide) (fun K hK => ?_)
    refine goes_ Try.func18 (by kernel_rfl) rfl #[.int .i64 (l1.length : Int), .bool a0] (by rfl) rfl rfl (by (try simp only [List.map_toArray, List.map_cons, List.map_nil]); first | done | rfl | (simp only [List.length_drop, List.length_take]; rfl)) ?_
    with_reducible refine (falseworklaw21_index.calls kj5 (l1.length : Int) a0 t213 t214 t215 t218 t219 _ A23.out).mono ?_
    rintro e w29 ⟨v216, rfl, ho0, hb⟩
    refine ⟨_, rfl, ?_⟩
    have n0_ := Aside0.mk (Kd.R_lower ho0 (zZ (by repeat (first | (with_reducible first | exact HB.out | apply zA | apply zN | apply zD | refine below_set ?_ GE208.out | refine below_set ?_ GE209.out) | exact HB.out))))
    have n1_ := Aside0.mk (yB (g := gb208) (o := .cells #[.int .i64 a3_0, .int .i64 a3_1, .int .u64 a3_2, .string a3_3] 24 (0, 0)) (by (with_reducible repeat (first | refine yN ?_ _ | refine yD ?_ | refine yA ?_ _)); exact BK208.out) hb)
    have n2_ := Aside0.mk (yB (g := gb209) (o := .cells #[.int .i64 a4_0, .int .i64 a4_1, .int .u64 a4_2, .string a4_3] 24 (0, 0)) (by (with_reducible repeat (first | refine yN ?_ _ | refine yD ?_ | refine yA ?_ _)); exact BK209.out) hb)
    have n3_ := Aside0.mk (zS (by repeat (first | (with_reducible first | exact HB.out | apply zA | apply zN | apply zD | refine below_set ?_ GE208.out | refine below_set ?_ GE209.out) | exact HB.out)) hb)
    clear BK208
    clear BK209
    clear HB
    have HO217 := n0_
    have BK208 := n1_
    have BK209 := n2_
    have HB := n3_
    clear n0_ n1_ n2_ n3_
    (try clear hb)
    (try clear hb2)
    (try clear hk)
    (try clear hi)
    (try clear ho0)
    obtain ⟨Ao30, co30, eo30⟩ := Kd.R_slice HO217.out
    (first | subst eo30 | (injection eo30 with f1_ f2_ f3_; have f4_ := f1_.symm; have f5_ := f3_.symm; clear f1_ f2_ f3_; subst f4_; subst f5_))
    refine hK.out _ _ ⟨(blk_cell BK208.out 0).trans rfl, (blk_cell BK208.out 1).trans rfl, (blk_cell BK208.out 2).trans rfl, (blk_cell BK208.out 3).trans rfl⟩ (fun hHeld => ?_)
    clear hK K
    refine norm_ (a' := ?_) ?_ ?_
    rotate_left
    ·show Act.put _ (some 50) _ = _
     simp only [Act.put, List.setIfInBounds_toArray, List.set_cons_zero, List.set_cons_succ, i64_w, i32_w]
     rfl
    refine one_ (i := 6) (N := some 53) #[true, true, true, true, true, true, true, false, false, false, false, false, false, false] rfl rfl (one_of HT_.out (by kernel_rfl)) (by decide) (fun K hK => ?_)
    refine goes_ Try.func17 (by kernel_rfl) rfl #[.int .i64 3, .agg #[.int .i64 t213, .string t214, .slice Ao30 t215.length co30, .bool t218, .int .i64 t219], .slice A1 l1.length c1, .agg #[.int .i64 a3_0, .int .i64 a3_1, .int .u64 a3_2, .string a3_3]] (by rfl) rfl rfl (by (try simp only [List.map_toArray, List.map_cons, List.map_nil]); first | done | rfl | (simp only [List.length_drop, List.length_take]; rfl)) ?_
    with_reducible refine (keys_Entry.calls kj5 3 t213 t214 _ _ t215 t218 t219 _ _ l1 a3_0 a3_1 a3_2 a3_3 t220 t221 t222 _ ?side1 ?side2 ?side3 ?side4 A24.out).mono ?_
    (case side1 => repeat (first | exact (Kd.R_reads' HO217.out).2.2 | (with_reducible refine Kd.C_alloc ?_ _) | (with_reducible refine Kd.C_drewN ?_ _) | (with_reducible refine Kd.C_drew ?_)))
    (case side2 => exact (Kd.R_reads' HO217.out).2.1)
    (case side3 => repeat (first | exact (Kd.C_below HR1.out HB.out) | (with_reducible refine Kd.C_alloc ?_ _) | (with_reducible refine Kd.C_drewN ?_ _) | (with_reducible refine Kd.C_drew ?_)))
    (case side4 => exact HC1.out)
    rintro e w31 ⟨rfl, hb⟩
    refine ⟨_, rfl, ?_⟩
    have n0_ := Aside0.mk (Kd.R_below (by (with_reducible repeat (first | apply Kd.R_alloc | apply Kd.R_drewN | apply Kd.R_drew)); exact HO217.out) hb)
    have n1_ := Aside0.mk (yB (g := gb208) (o := .cells #[.int .i64 a3_0, .int .i64 a3_1, .int .u64 a3_2, .string a3_3] 24 (0, 0)) (by (with_reducible repeat (first | refine yN ?_ _ | refine yD ?_ | refine yA ?_ _)); exact BK208.out) hb)
    have n2_ := Aside0.mk (yB (g := gb209) (o := .cells #[.int .i64 a4_0, .int .i64 a4_1, .int .u64 a4_2, .string a4_3] 24 (0, 0)) (by (with_reducible repeat (first | refine yN ?_ _ | refine yD ?_ | refine yA ?_ _)); exact BK209.out) hb)
    have n3_ := Aside0.mk (zS (by repeat (first | (with_reducible first | exact HB.out | apply zA | apply zN | apply zD | refine below_set ?_ GE208.out | refine below_set ?_ GE209.out) | exact HB.out)) hb)
    clear HO217
    clear BK208
    clear BK209
    clear HB
    have HO217 := n0_
    have BK208 := n1_
    have BK209 := n2_
    have HB := n3_
    clear n0_ n1_ n2_ n3_
    (try clear hb)
    (try clear hb2)
    (try clear hk)
    (try clear hi)
    refine hK.out _ _ ⟨(blk_cell BK208.out 0).trans rfl, (blk_cell BK208.out 1).trans rfl, (blk_cell BK208.out 2).trans rfl, (blk_cell BK208.out 3).trans rfl⟩ (fun hHeld => ?_)
    clear hK K
    refine norm_ (a' := ?_) ?_ ?_
    rotate_left
    ·show Act.put _ (some 53) _ = _
     simp only [Act.put, List.setIfInBounds_toArray, List.set_cons_zero, List.set_cons_succ, i64_w, i32_w]
     rfl
    refine pure_ (i := 7) (N := some 46) (v := ?_) (a' := ?_) #[true, true, true, true, true, true, true, true, false, false, false, false, false, false] rfl rfl (any_of HT_.out (by kernel_rfl)) (fun _ _ _ h => h) (Or.inl ⟨by rfl, ?_⟩) ?_ ?_
    rotate_left
    ·intro w'
     go_simp
     with_reducible rfl
    rotate_left
    ·simp only [Act.put, List.setIfInBounds_toArray, List.set_cons_zero, List.set_cons_succ, i64_w, i32_w]
     rfl
    refine pure_ (i := 8) (N := some 54) (v := ?_) (a' := ?_) #[true, true, true, true, true, true, true, true, true, false, false, false, false, false] rfl rfl (any_of HT_.out (by kernel_rfl)) (fun _ _ _ h => h) (Or.inl ⟨by rfl, ?_⟩) ?_ ?_
    rotate_left
    ·intro w'
     go_simp
     with_reducible rfl
    rotate_left
    ·simp only [Act.put, List.setIfInBounds_toArray, List.set_cons_zero, List.set_cons_succ, i64_w, i32_w]
     rfl
    refine pure_ (i := 9) (N := some 55) (v := ?_) (a' := ?_) #[true, true, true, true, true, true, true, true, true, true, false, false, false, false] rfl rfl (any_of HT_.out (by kernel_rfl)) (fun _ _ _ h => h) (Or.inl ⟨by rfl, ?_⟩) ?_ ?_
    rotate_left
    ·intro w'
     go_simp
     with_reducible rfl
    rotate_left
    ·simp only [Act.put, List.setIfInBounds_toArray, List.set_cons_zero, List.set_cons_succ, i64_w, i32_w]
     rfl
    refine pure_ (i := 10) (N := some 56) (v := ?_) (a' := ?_) #[true, true, true, true, true, true, true, true, true, true, true, false, false, false] rfl rfl (any_of HT_.out (by kernel_rfl)) (fun _ _ _ h => h) (Or.inl ⟨by rfl, ?_⟩) ?_ ?_
    rotate_left
    ·intro w'
     go_simp
     with_reducible rfl
    rotate_left
    ·simp only [Act.put, List.setIfInBounds_toArray, List.set_cons_zero, List.set_cons_succ, i64_w, i32_w]
     rfl
    refine pure_ (i := 11) (N := some 11) (v := ?_) (a' := ?_) #[true, true, true, true, true, true, true, true, true, true, true, true, false, false] rfl rfl (any_of HT_.out (by kernel_rfl)) (fun _ _ _ h => h) (Or.inl ⟨by rfl, ?_⟩) ?_ ?_
    rotate_left
    ·intro w'
     go_simp
     with_reducible rfl
    rotate_left
    ·simp only [Act.put, List.setIfInBounds_toArray, List.set_cons_zero, List.set_cons_succ, i64_w, i32_w]
     rfl
    refine pure_ (i := 12) (N := some 12) (v := ?_) (a' := ?_) #[true, true, true, true, true, true, true, true, true, true, true, true, true, false] rfl rfl (any_of HT_.out (by kernel_rfl)) (fun _ _ _ h => h) (Or.inl ⟨by rfl, ?_⟩) ?_ ?_
    rotate_left
    ·intro w'
     go_simp
     with_reducible rfl
    rotate_left
    ·simp only [Act.put, List.setIfInBounds_toArray, List.set_cons_zero, List.set_cons_succ, i64_w, i32_w]
     rfl
    refine pure_ (i := 13) (N := some 13) (v := ?_) (a' := ?_) #[true, true, true, true, true, true, true, true, true, true, true, true, true, true] rfl rfl (any_of HT_.out (by kernel_rfl)) (fun _ _ _ h => h) (Or.inl ⟨by rfl, ?_⟩) ?_ ?_
    rotate_left
    ·intro w'
     go_simp
     with_reducible rfl
    rotate_left
    ·simp only [Act.put, List.setIfInBounds_toArray, List.set_cons_zero, List.set_cons_succ, i64_w, i32_w]
     rfl
    refine done_ (done_of HT_.out (by kernel_rfl)) ?_
    try go_wp2
    have n0_ := Aside0.mk (Kd.R_drew HO217.out)
    have n1_ := Aside0.mk (yD BK208.out)
    have n2_ := Aside0.mk (yD BK209.out)
    have n3_ := Aside0.mk (zD HB.out)
    clear HO217
    clear BK208
    clear BK209
    clear HB
    have HO217 := n0_
    have BK208 := n1_
    have BK209 := n2_
    have HB := n3_
    clear n0_ n1_ n2_ n3_
    refine start_ (n := 14) (S := fun w' => w'.cell? ⟨gb209, 0, none⟩ = some (.int .i64 a4_0) ∧ w'.cell? ⟨gb209, 1, none⟩ = some (.int .i64 a4_1) ∧ w'.cell? ⟨gb209, 2, none⟩ = some (.int .u64 a4_2) ∧ w'.cell? ⟨gb209, 3, none⟩ = some (.string a4_3)) (ds := []) #[false, false, false, false, false, false, false, false, false, false, false, false, false, false] (by kernel_rfl) rfl rfl ⟨(blk_cell BK209.out 0).trans rfl, (blk_cell BK209.out 1).trans rfl, (blk_cell BK209.out 2).trans rfl, (blk_cell BK209.out 3).trans rfl⟩ (fun hHeld => ?_); refine with_tabW falseworklaw21_KeysUnlike.tab4 falseworklaw21_KeysUnlike.bits4 (fun HT_ HW_ => ?_)
    generalize w31.drew = w32 at HO217 BK208 BK209 HB hHeld ⊢
    refine pure_ (i := 0) (N := some 58) (v := ?_) (a' := ?_) #[true, false, false, false, false, false, false, false, false, false, false, false, false, false] rfl rfl (any_of HT_.out (by kernel_rfl)) (fun _ _ _ h => h) (Or.inl ⟨by rfl, ?_⟩) ?_ ?_
    rotate_left
    ·intro w'
     go_simp
     with_reducible rfl
    rotate_left
    ·simp only [Act.put, List.setIfInBounds_toArray, List.set_cons_zero, List.set_cons_succ, i64_w, i32_w]
     rfl
    refine pure_ (i := 1) (N := some 59) (v := ?_) (a' := ?_) #[true, true, false, false, false, false, false, false, false, false, false, false, false, false] rfl rfl (any_of HT_.out (by kernel_rfl)) (fun _ _ _ h => h) (Or.inl ⟨by rfl, ?_⟩) ?_ ?_
    rotate_left
    ·intro w'
     go_simp
     with_reducible rfl
    rotate_left
    ·simp only [Act.put, List.setIfInBounds_toArray, List.set_cons_zero, List.set_cons_succ, i64_w, i32_w]
     rfl
    refine pure_ (i := 2) (N := some 60) (v := ?_) (a' := ?_) #[true, true, true, false, false, false, false, false, false, false, false, false, false, false] rfl rfl (any_of HT_.out (by kernel_rfl)) (fun _ _ _ h => h) (Or.inl ⟨by rfl, ?_⟩) ?_ ?_
    rotate_left
    ·intro w'
     go_simp
     with_reducible rfl
    rotate_left
    ·simp only [Act.put, List.setIfInBounds_toArray, List.set_cons_zero, List.set_cons_succ, i64_w, i32_w]
     rfl
    refine pure_ (i := 4) (N := some 62) (v := ?_) (a' := ?_) #[true, true, true, false, true, false, false, false, false, false, false, false, false, false] rfl rfl (any_of HT_.out (by kernel_rfl)) (fun _ _ _ h => h) (Or.inl ⟨by rfl, ?_⟩) ?_ ?_
    rotate_left
    ·intro w'
     go_simp
     with_reducible rfl
    rotate_left
    ·simp only [Act.put, List.setIfInBounds_toArray, List.set_cons_zero, List.set_cons_succ, i64_w, i32_w]
     rfl
    refine take_ (i := 5) (N := some 63) (v := ?_) (a' := ?_) #[true, true, true, false, true, true, false, false, false, false, false, false, false, false] rfl rfl (take_ofW HT_.out HW_.out (by kernel_rfl)) (fun _ _ _ h => h) (Or.inl ⟨by rfl, ?_⟩) hHeld ?_ ?_
    rotate_left
    ·rintro w' ⟨s0, s1, s2, s3⟩
     go_simp
     with_reducible rfl
    rotate_left
    ·simp only [Act.put, List.setIfInBounds_toArray, List.set_cons_zero, List.set_cons_succ, i64_w, i32_w]
     rfl
    refine one_ (i := 3) (N := some 61) #[true, true, true, true, true, true, false, false, false, false, false, false, false, false] rfl rfl (one_of HT_.out (by kernel_rfl)) (by decide) (fun K hK => ?_)
    refine goes_ Try.func18 (by kernel_rfl) rfl #[.int .i64 (l2.length : Int), .bool a0] (by rfl) rfl rfl (by (try simp only [List.map_toArray, List.map_cons, List.map_nil]); first | done | rfl | (simp only [List.length_drop, List.length_take]; rfl)) ?_
    with_reducible refine (falseworklaw21_index.calls kj5 (l2.length : Int) a0 t223 t224 t225 t228 t229 _ A25.out).mono ?_
    rintro e w33 ⟨v226, rfl, ho0, hb⟩
    refine ⟨_, rfl, ?_⟩
    have n0_ := Aside0.mk (Kd.R_elder' (by (with_reducible repeat (first | apply Kd.R_alloc | apply Kd.R_drewN | apply Kd.R_drew)); exact HO217.out) (Kd.R_base ho0) hb)
    have n1_ := Aside0.mk (Kd.R_lower (Kd.R_new' ho0 (Kd.R_lt (by (with_reducible repeat (first | apply Kd.R_alloc | apply Kd.R_drewN | apply Kd.R_drew)); exact HO217.out))) (zZ (by repeat (first | (with_reducible first | exact HB.out | apply zA | apply zN | apply zD | refine below_set ?_ GE208.out | refine below_set ?_ GE209.out) | exact HB.out))))
    have n2_ := Aside0.mk (yB (g := gb208) (o := .cells #[.int .i64 a3_0, .int .i64 a3_1, .int .u64 a3_2, .string a3_3] 24 (0, 0)) (by (with_reducible repeat (first | refine yN ?_ _ | refine yD ?_ | refine yA ?_ _)); exact BK208.out) hb)
    have n3_ := Aside0.mk (yB (g := gb209) (o := .cells #[.int .i64 a4_0, .int .i64 a4_1, .int .u64 a4_2, .string a4_3] 24 (0, 0)) (by (with_reducible repeat (first | refine yN ?_ _ | refine yD ?_ | refine yA ?_ _)); exact BK209.out) hb)
    have n4_ := Aside0.mk (zS (by repeat (first | (with_reducible first | exact HB.out | apply zA | apply zN | apply zD | refine below_set ?_ GE208.out | refine below_set ?_ GE209.out) | exact HB.out)) hb)
    clear HO217
    clear BK208
    clear BK209
    clear HB
    have HO217 := n0_
    have HO227 := n1_
    have BK208 := n2_
    have BK209 := n3_
    have HB := n4_
    clear n0_ n1_ n2_ n3_ n4_
    (try clear hb)
    (try clear hb2)
    (try clear hk)
    (try clear hi)
    (try clear ho0)
    obtain ⟨Ao34, co34, eo34⟩ := Kd.R_slice HO227.out
    (first | subst eo34 | (injection eo34 with f1_ f2_ f3_; have f4_ := f1_.symm; have f5_ := f3_.symm; clear f1_ f2_ f3_; subst f4_; subst f5_))
    refine hK.out _ _ ⟨(blk_cell BK209.out 0).trans rfl, (blk_cell BK209.out 1).trans rfl, (blk_cell BK209.out 2).trans rfl, (blk_cell BK209.out 3).trans rfl⟩ (fun hHeld => ?_)
    clear hK K
    refine norm_ (a' := ?_) ?_ ?_
    rotate_left
    ·show Act.put _ (some 61) _ = _
     simp only [Act.put, List.setIfInBounds_toArray, List.set_cons_zero, List.set_cons_succ, i64_w, i32_w]
     rfl
    refine one_ (i := 6) (N := some 64) #[true, true, true, true, true, true, true, false, false, false, false, false, false, false] rfl rfl (one_of HT_.out (by kernel_rfl)) (by decide) (fun K hK => ?_)
    refine goes_ Try.func17 (by kernel_rfl) rfl #[.int .i64 3, .agg #[.int .i64 t223, .string t224, .slice Ao34 t225.length co34, .bool t228, .int .i64 t229], .slice A2 l2.length c2, .agg #[.int .i64 a4_0, .int .i64 a4_1, .int .u64 a4_2, .string a4_3]] (by rfl) rfl rfl (by (try simp only [List.map_toArray, List.map_cons, List.map_nil]); first | done | rfl | (simp only [List.length_drop, List.length_take]; rfl)) ?_
    with_reducible refine (keys_Entry.calls kj5 3 t223 t224 _ _ t225 t228 t229 _ _ l2 a4_0 a4_1 a4_2 a4_3 t230 t231 t232 _ ?side1 ?side2 ?side3 ?side4 A26.out).mono ?_
    (case side1 => repeat (first | exact (Kd.R_reads' HO227.out).2.2 | (with_reducible refine Kd.C_alloc ?_ _) | (with_reducible refine Kd.C_drewN ?_ _) | (with_reducible refine Kd.C_drew ?_)))
    (case side2 => exact (Kd.R_reads' HO227.out).2.1)
    (case side3 => repeat (first | exact (Kd.C_below HR2.out HB.out) | (with_reducible refine Kd.C_alloc ?_ _) | (with_reducible refine Kd.C_drewN ?_ _) | (with_reducible refine Kd.C_drew ?_)))
    (case side4 => exact HC2.out)
    rintro e w35 ⟨rfl, hb⟩
    refine ⟨_, rfl, ?_⟩
    have n0_ := Aside0.mk (Kd.R_below (by (with_reducible repeat (first | apply Kd.R_alloc | apply Kd.R_drewN | apply Kd.R_drew)); exact HO217.out) hb)
    have n1_ := Aside0.mk (Kd.R_below (by (with_reducible repeat (first | apply Kd.R_alloc | apply Kd.R_drewN | apply Kd.R_drew)); exact HO227.out) hb)
    have n2_ := Aside0.mk (yB (g := gb208) (o := .cells #[.int .i64 a3_0, .int .i64 a3_1, .int .u64 a3_2, .string a3_3] 24 (0, 0)) (by (with_reducible repeat (first | refine yN ?_ _ | refine yD ?_ | refine yA ?_ _)); exact BK208.out) hb)
    have n3_ := Aside0.mk (yB (g := gb209) (o := .cells #[.int .i64 a4_0, .int .i64 a4_1, .int .u64 a4_2, .string a4_3] 24 (0, 0)) (by (with_reducible repeat (first | refine yN ?_ _ | refine yD ?_ | refine yA ?_ _)); exact BK209.out) hb)
    have n4_ := Aside0.mk (zS (by repeat (first | (with_reducible first | exact HB.out | apply zA | apply zN | apply zD | refine below_set ?_ GE208.out | refine below_set ?_ GE209.out) | exact HB.out)) hb)
    clear HO217
    clear HO227
    clear BK208
    clear BK209
    clear HB
    have HO217 := n0_
    have HO227 := n1_
    have BK208 := n2_
    have BK209 := n3_
    have HB := n4_
    clear n0_ n1_ n2_ n3_ n4_
    (try clear hb)
    (try clear hb2)
    (try clear hk)
    (try clear hi)
    refine hK.out _ _ ⟨(blk_cell BK209.out 0).trans rfl, (blk_cell BK209.out 1).trans rfl, (blk_cell BK209.out 2).trans rfl, (blk_cell BK209.out 3).trans rfl⟩ (fun hHeld => ?_)
    clear hK K
    refine norm_ (a' := ?_) ?_ ?_
    rotate_left
    ·show Act.put _ (some 64) _ = _
     simp only [Act.put, List.setIfInBounds_toArray, List.set_cons_zero, List.set_cons_succ, i64_w, i32_w]
     rfl
    refine pure_ (i := 7) (N := some 57) (v := ?_) (a' := ?_) #[true, true, true, true, true, true, true, true, false, false, false, false, false, false] rfl rfl (any_of HT_.out (by kernel_rfl)) (fun _ _ _ h => h) (Or.inl ⟨by rfl, ?_⟩) ?_ ?_
    rotate_left
    ·intro w'
     go_simp
     with_reducible rfl
    rotate_left
    ·simp only [Act.put, List.setIfInBounds_toArray, List.set_cons_zero, List.set_cons_succ, i64_w, i32_w]
     rfl
    refine pure_ (i := 8) (N := some 65) (v := ?_) (a' := ?_) #[true, true, true, true, true, true, true, true, true, false, false, false, false, false] rfl rfl (any_of HT_.out (by kernel_rfl)) (fun _ _ _ h => h) (Or.inl ⟨by rfl, ?_⟩) ?_ ?_
    rotate_left
    ·intro w'
     go_simp
     with_reducible rfl
    rotate_left
    ·simp only [Act.put, List.setIfInBounds_toArray, List.set_cons_zero, List.set_cons_succ, i64_w, i32_w]
     rfl
    refine pure_ (i := 9) (N := some 66) (v := ?_) (a' := ?_) #[true, true, true, true, true, true, true, true, true, true, false, false, false, false] rfl rfl (any_of HT_.out (by kernel_rfl)) (fun _ _ _ h => h) (Or.inl ⟨by rfl, ?_⟩) ?_ ?_
    rotate_left
    ·intro w'
     go_simp
     with_reducible rfl
    rotate_left
    ·simp only [Act.put, List.setIfInBounds_toArray, List.set_cons_zero, List.set_cons_succ, i64_w, i32_w]
     rfl
    refine pure_ (i := 10) (N := some 67) (v := ?_) (a' := ?_) #[true, true, true, true, true, true, true, true, true, true, true, false, false, false] rfl rfl (any_of HT_.out (by kernel_rfl)) (fun _ _ _ h => h) (Or.inl ⟨by rfl, ?_⟩) ?_ ?_
    rotate_left
    ·intro w'
     go_simp
     with_reducible rfl
    rotate_left
    ·simp only [Act.put, List.setIfInBounds_toArray, List.set_cons_zero, List.set_cons_succ, i64_w, i32_w]
     rfl
    refine pure_ (i := 11) (N := some 14) (v := ?_) (a' := ?_) #[true, true, true, true, true, true, true, true, true, true, true, true, false, false] rfl rfl (any_of HT_.out (by kernel_rfl)) (fun _ _ _ h => h) (Or.inl ⟨by rfl, ?_⟩) ?_ ?_
    rotate_left
    ·intro w'
     go_simp
     with_reducible rfl
    rotate_left
    ·simp only [Act.put, List.setIfInBounds_toArray, List.set_cons_zero, List.set_cons_succ, i64_w, i32_w]
     rfl
    refine pure_ (i := 12) (N := some 15) (v := ?_) (a' := ?_) #[true, true, true, true, true, true, true, true, true, true, true, true, true, false] rfl rfl (any_of HT_.out (by kernel_rfl)) (fun _ _ _ h => h) (Or.inl ⟨by rfl, ?_⟩) ?_ ?_
    rotate_left
    ·intro w'
     go_simp
     with_reducible rfl
    rotate_left
    ·simp only [Act.put, List.setIfInBounds_toArray, List.set_cons_zero, List.set_cons_succ, i64_w, i32_w]
     rfl
    refine pure_ (i := 13) (N := some 16) (v := ?_) (a' := ?_) #[true, true, true, true, true, true, true, true, true, true, true, true, true, true] rfl rfl (any_of HT_.out (by kernel_rfl)) (fun _ _ _ h => h) (Or.inl ⟨by rfl, ?_⟩) ?_ ?_
    rotate_left
    ·intro w'
     go_simp
     with_reducible rfl
    rotate_left
    ·simp only [Act.put, List.setIfInBounds_toArray, List.set_cons_zero, List.set_cons_succ, i64_w, i32_w]
     rfl
    refine done_ (done_of HT_.out (by kernel_rfl)) ?_
    go_upto_region 5 with (fail)
    go_cut [75] (fun v75 wc => ∃ (kq : Nat) (x75_26 : Bool), v75 = .bool x75_26 ∧ Aside0 (falseworklaw21_KeysUnlike.j1 kq a0 l1 l2 t220 t221 t230 t231 x75_26 a3_0 a3_1 a3_2 a3_3 a4_0 a4_1 a4_2 a4_3 = some r) ∧ Aside0 (kq ≤ kj5) ∧ Aside0 (wc.heap[gb208]? = some (.cells #[.int .i64 a3_0, .int .i64 a3_1, .int .u64 a3_2, .string a3_3] 24 (0, 0))) ∧ Aside0 (wc.heap[gb209]? = some (.cells #[.int .i64 a4_0, .int .i64 a4_1, .int .u64 a4_2, .string a4_3] 24 (0, 0))) ∧ Aside0 (Below w.heap.size w wc))
    case first =>
     have H := HC27.out
     clear HC27
     replace H := Option.bind_eq_some_iff.mp H
     obtain ⟨t233, A360, H⟩ := H
     replace H : (if t233 = 0 then ((falseworklaw21_num.f t232).bind fun t234 => (falseworklaw21_KeysUnlike.j1 kj5 a0 l1 l2 t220 t221 t230 t231 (t234 != 0) a3_0 a3_1 a3_2 a3_3 a4_0 a4_1 a4_2 a4_3)) else (falseworklaw21_KeysUnlike.j1 kj5 a0 l1 l2 t220 t221 t230 t231 true a3_0 a3_1 a3_2 a3_3 a4_0 a4_1 a4_2 a4_3)) = some r := H
     have A36 := Aside0.mk A360
     clear A360
     by_cases c37 : t233 = 0
     ·rw [if_pos c37] at H
      have c37b0 : (t233 == 0) = true := beq_iff_eq.mpr c37
      have c37b1 : (t233 != 0) = false := bne_eq_false_iff_eq.mpr c37
      clear c37
      (first | rw [c37b0] | (simp only [i64_w, i32_w]; rw [c37b0]) | skip)
      replace H := Option.bind_eq_some_iff.mp H
      obtain ⟨t234, A380, H⟩ := H
      replace H : (falseworklaw21_KeysUnlike.j1 kj5 a0 l1 l2 t220 t221 t230 t231 (t234 != 0) a3_0 a3_1 a3_2 a3_3 a4_0 a4_1 a4_2 a4_3) = some r := H
      have A38 := Aside0.mk A380
      clear A380
      have H' := Aside0.mk H
      clear H
      go_wp2_with (first | ((with_reducible refine gate_callee (f := 13) rfl ?_); refine goesL_ (some 69) rfl rfl Try.func13 (by kernel_rfl) rfl #[.int .i64 t222] rfl (by (try simp only [List.map_toArray, List.map_cons, List.map_nil]); first | done | rfl | (simp only [List.length_drop, List.length_take]; rfl)) ?_; (with_reducible refine (falseworklaw21_num.calls t222 t233 _ A36.out).mono ?_); rintro e w' ⟨rfl, ⟨nd, rfl⟩⟩; refine ⟨_, rfl, ?_⟩) | (go_at_call 13; (with_reducible refine (falseworklaw21_num.calls t232 t234 _ A38.out).mono ?_); rintro e w' ⟨rfl, ⟨nd, rfl⟩⟩))
      go_meet
      case rel => exact ⟨_, ((t234 != 0)), (by first | rfl | (simp; done) | (simp [*]; done)), H', ⟨by have := HJ5.out; first | omega | exact Nat.le_refl _⟩, ⟨by (with_reducible repeat (first | refine yN ?_ _ | refine yD ?_ | refine yA ?_ _)); exact BK208.out⟩, ⟨by (with_reducible repeat (first | refine yN ?_ _ | refine yD ?_ | refine yA ?_ _)); exact BK209.out⟩, ⟨by repeat (first | (with_reducible first | exact HB.out | apply zA | apply zN | apply zD | refine below_set ?_ GE208.out | refine below_set ?_ GE209.out) | exact HB.out)⟩⟩
     ·rw [if_neg c37] at H
      have c37b0 : (t233 == 0) = false := beq_eq_false_iff_ne.mpr c37
      have c37b1 : (t233 != 0) = true := bne_iff_ne.mpr c37
      (first | rw [c37b0] | (simp only [i64_w, i32_w]; rw [c37b0]) | skip)
      have H' := Aside0.mk H
      clear H
      go_wp2_with (first | ((with_reducible refine gate_callee (f := 13) rfl ?_); refine goesL_ (some 69) rfl rfl Try.func13 (by kernel_rfl) rfl #[.int .i64 t222] rfl (by (try simp only [List.map_toArray, List.map_cons, List.map_nil]); first | done | rfl | (simp only [List.length_drop, List.length_take]; rfl)) ?_; (with_reducible refine (falseworklaw21_num.calls t222 t233 _ A36.out).mono ?_); rintro e w' ⟨rfl, ⟨nd, rfl⟩⟩; refine ⟨_, rfl, ?_⟩))
      go_meet
      case rel => exact ⟨_, (true), (by first | rfl | (simp; done) | (simp [*]; done)), H', ⟨by have := HJ5.out; first | omega | exact Nat.le_refl _⟩, ⟨by (with_reducible repeat (first | refine yN ?_ _ | refine yD ?_ | refine yA ?_ _)); exact BK208.out⟩, ⟨by (with_reducible repeat (first | refine yN ?_ _ | refine yD ?_ | refine yA ?_ _)); exact BK209.out⟩, ⟨by repeat (first | (with_reducible first | exact HB.out | apply zA | apply zN | apply zD | refine below_set ?_ GE208.out | refine below_set ?_ GE209.out) | exact HB.out)⟩⟩
    case rest =>
     clear HC27
     try clear c1
     try clear c2
     try clear p2
     try clear c3
     try clear c4
     try clear c8
     try clear c10
     try clear c12
     try clear c13
     try clear c13b0
     try clear c13b1
     try clear c13b2
     try clear c14
     try clear c14b0
     try clear c14b1
     try clear c15
     try clear c16
     try clear c17
     try clear c18
     try clear c20
     try clear c37
     try clear c37b0
     try clear c37b1
     try clear hcz16_0
     try clear hcz16_1
     try clear hcz16_2
     try clear hcz16_3
     try clear hcz18_0
     try clear hcz18_1
     try clear hcz18_2
     try clear hcz18_3
     try clear hcz19_0
     try clear hcz19_1
     try clear hcz19_2
     try clear hcz19_3
     try clear hfz16_0
     try clear hfz16_1
     try clear hfz16_2
     try clear hfz16_3
     try clear hfz18_0
     try clear hfz18_1
     try clear hfz18_2
     try clear hfz18_3
     try clear hfz19_0
     try clear hfz19_1
     try clear hfz19_2
     try clear hfz19_3
     try clear p2
     obtain ⟨kq, x75_26, rfl, HA, HJ26, BK208, BK209, HB⟩ := hcut
     cases kq with
     | zero => exact absurd HA.out (by simp [falseworklaw21_KeysUnlike.j1])
     | succ kj26 =>
      have H := HA.out
      clear HA
      simp only [falseworklaw21_KeysUnlike.j1] at H
      by_cases c39 : x75_26 = true
      ·subst c39
       have H1 : ((falseworklaw21_awake.f kj26).bind fun t235 => (some t235)) = some r := by rw [if_pos rfl] at H; exact H
       clear H
       have H := H1
       clear H1
       replace H := Option.bind_eq_some_iff.mp H
       obtain ⟨t235, A400, H⟩ := H
       replace H : (some t235) = some r := H
       have A40 := Aside0.mk A400
       clear A400
       obtain rfl := Option.some.inj H
       go_wp2_with (first | ((with_reducible refine gate_callee (f := 8) rfl ?_); refine goesL_ (some 76) rfl rfl Try.func8 (by kernel_rfl) rfl #[] rfl (by (try simp only [List.map_toArray, List.map_cons, List.map_nil]); first | done | rfl | (simp only [List.length_drop, List.length_take]; rfl)) ?_; (with_reducible refine (falseworklaw21_awake.calls kj26  t235 _ A40.out).mono ?_); rintro e w41 ⟨rfl, hb⟩; refine ⟨_, rfl, ?_⟩; have n0_ := Aside0.mk (yB (g := gb208) (o := .cells #[.int .i64 a3_0, .int .i64 a3_1, .int .u64 a3_2, .string a3_3] 24 (0, 0)) (by (with_reducible repeat (first | refine yN ?_ _ | refine yD ?_ | refine yA ?_ _)); exact BK208.out) hb); have n1_ := Aside0.mk (yB (g := gb209) (o := .cells #[.int .i64 a4_0, .int .i64 a4_1, .int .u64 a4_2, .string a4_3] 24 (0, 0)) (by (with_reducible repeat (first | refine yN ?_ _ | refine yD ?_ | refine yA ?_ _)); exact BK209.out) hb); have n2_ := Aside0.mk (zS (by repeat (first | (with_reducible first | exact HB.out | apply zA | apply zN | apply zD | refine below_set ?_ GE208.out | refine below_set ?_ GE209.out) | exact HB.out)) hb); clear BK208; clear BK209; clear HB; have BK208 := n0_; have BK209 := n1_; have HB := n2_; clear n0_ n1_ n2_; (try clear hb); (try clear hb2); (try clear hk); (try clear hi)))
       go_ret
       exact ⟨by first | rfl | (simp [errW_none, errW_some] <;> rfl) | (simp [*, errW_none, errW_some] <;> rfl), by repeat (first | (with_reducible first | exact HB.out | apply zA | apply zN | apply zD | refine below_set ?_ GE208.out | refine below_set ?_ GE209.out) | exact HB.out)⟩
      ·replace c39 := Bool.eq_false_iff.mpr c39
       subst c39
       have H1 : (falseworklaw21_KeysUnlike.l0 kj26 a0 l1 l2 t220 t221 t230 t231 false 0 a3_0 a3_1 a3_2 a3_3 a4_0 a4_1 a4_2 a4_3) = some r := by rw [if_neg (show ¬ (false = true) by decide)] at H; exact H
       clear H
       have H := H1
       clear H1
       have H' := Aside0.mk H
       clear H
       go_wp2
       go_loopg [17, 18] kj26 (fun kq v17 v18 w' => ∃ (x17_3 : Bool) (x18_3 : Int), v17 = .bool x17_3 ∧ v18 = .int .i64 x18_3 ∧ Aside0 (falseworklaw21_KeysUnlike.l0 kq a0 l1 l2 t220 t221 t230 t231 x17_3 x18_3 a3_0 a3_1 a3_2 a3_3 a4_0 a4_1 a4_2 a4_3 = some r) ∧ Aside0 (kq ≤ kj26) ∧ Aside0 (w'.heap[gb208]? = some (.cells #[.int .i64 a3_0, .int .i64 a3_1, .int .u64 a3_2, .string a3_3] 24 (0, 0))) ∧ Aside0 (w'.heap[gb209]? = some (.cells #[.int .i64 a4_0, .int .i64 a4_1, .int .u64 a4_2, .string a4_3] 24 (0, 0))) ∧ Aside0 (Below w.heap.size w w'))
       case atStart => exact ⟨(false), (0), (by first | rfl | (simp; done) | (simp [*]; done)), (by first | rfl | (simp; done) | (simp [*]; done)), H', ⟨Nat.le_refl _⟩, ⟨by (with_reducible repeat (first | refine yN ?_ _ | refine yD ?_ | refine yA ?_ _)); exact BK208.out⟩, ⟨by (with_reducible repeat (first | refine yN ?_ _ | refine yD ?_ | refine yA ?_ _)); exact BK209.out⟩, ⟨by repeat (first | (with_reducible first | exact HB.out | apply zA | apply zN | apply zD | refine below_set ?_ GE208.out | refine below_set ?_ GE209.out) | exact HB.out)⟩⟩
       case round =>
        clear H'
        try clear c1
        try clear c2
        try clear p2
        try clear c3
        try clear c4
        try clear c8
        try clear c10
        try clear c12
        try clear c13
        try clear c13b0
        try clear c13b1
        try clear c13b2
        try clear c14
        try clear c14b0
        try clear c14b1
        try clear c15
        try clear c16
        try clear c17
        try clear c18
        try clear c20
        try clear c37
        try clear c37b0
        try clear c37b1
        try clear c39
        try clear hcz16_0
        try clear hcz16_1
        try clear hcz16_2
        try clear hcz16_3
        try clear hcz18_0
        try clear hcz18_1
        try clear hcz18_2
        try clear hcz18_3
        try clear hcz19_0
        try clear hcz19_1
        try clear hcz19_2
        try clear hcz19_3
        try clear hfz16_0
        try clear hfz16_1
        try clear hfz16_2
        try clear hfz16_3
        try clear hfz18_0
        try clear hfz18_1
        try clear hfz18_2
        try clear hfz18_3
        try clear hfz19_0
        try clear hfz19_1
        try clear hfz19_2
        try clear hfz19_3
        try clear p2
        obtain ⟨x17_3, x18_3, rfl, rfl, HA, HK3, BK208, BK209, HB⟩ := hrel
        cases gk with
        | zero => exact absurd HA.out (by simp [falseworklaw21_KeysUnlike.l0])
        | succ k3 =>
         have H := HA.out
         clear HA
         simp only [falseworklaw21_KeysUnlike.l0] at H
         by_cases c42 : x18_3 < (l1.length : Int)
         ·rw [if_pos c42] at H
          have c42b0 : decide (x18_3 < (l1.length : Int)) = true := decide_eq_true c42
          clear c42
          by_cases c43 : x17_3 = true
          ·subst c43
           have H1 : (falseworklaw21_KeysUnlike.l0 k3 a0 l1 l2 t220 t221 t230 t231 true (wrap64 (x18_3 + 1)) a3_0 a3_1 a3_2 a3_3 a4_0 a4_1 a4_2 a4_3) = some r := by rw [if_pos rfl] at H; exact H
           clear H
           have H := H1
           clear H1
           have H' := Aside0.mk H
           clear H
           go_wp2
           go_roundg k3
           case measure => have := HJ5.out; have := HJ26.out; have := HK3.out; omega
           case rel => exact ⟨(true), (wrap64 (x18_3 + 1)), (by first | rfl | (simp; done) | (simp [*]; done)), (by first | rfl | (simp; done) | (simp [*]; done)), H', ⟨by have := HJ5.out; have := HJ26.out; have := HK3.out; omega⟩, ⟨by (with_reducible repeat (first | refine yN ?_ _ | refine yD ?_ | refine yA ?_ _)); exact BK208.out⟩, ⟨by (with_reducible repeat (first | refine yN ?_ _ | refine yD ?_ | refine yA ?_ _)); exact BK209.out⟩, ⟨by repeat (first | (with_reducible first | exact HB.out | apply zA | apply zN | apply zD | refine below_set ?_ GE208.out | refine below_set ?_ GE209.out) | exact HB.out)⟩⟩
          ·replace c43 := Bool.eq_false_iff.mpr c43
           subst c43
           have H1 : (if 0 ≤ x18_3 then (falseworklaw21_KeysUnlike.l0 k3 a0 l1 l2 t220 t221 t230 t231 (((rd_T24 l1 x18_3).f0) == 0) (wrap64 (x18_3 + 1)) a3_0 a3_1 a3_2 a3_3 a4_0 a4_1 a4_2 a4_3) else (none)) = some r := by rw [if_neg (show ¬ (false = true) by decide)] at H; exact H
           clear H
           have H := H1
           clear H1
           by_cases c44 : 0 ≤ x18_3
           ·rw [if_pos c44] at H
            have c44b0 : decide (0 ≤ x18_3) = true := decide_eq_true c44
            clear c44
            have H' := Aside0.mk H
            clear H
            have p236 : 0 ≤ (x18_3 : Int) := of_decide_eq_true (by first | (with_reducible assumption) | assumption)
            have q236 : x18_3 < (l1.length : Int) := of_decide_eq_true (by first | (with_reducible assumption) | assumption)
            obtain ⟨ad236, e236, hx236_0, hx236_1, hx236_2, hx236_3⟩ := at_T24 HR1.out x18_3 p236 q236
            cases e236
            replace hx236_0 := pw_cell_below HB.out hx236_0
            replace hx236_1 := pw_cell_below HB.out hx236_1
            replace hx236_2 := pw_cell_below HB.out hx236_2
            replace hx236_3 := pw_cell_below HB.out hx236_3
            replace p236 := eq_true p236
            replace q236 := eq_true q236
            go_wp2
            go_roundg k3
            case measure => have := HJ5.out; have := HJ26.out; have := HK3.out; omega
            case rel => exact ⟨((((rd_T24 l1 x18_3).f0) == 0)), (wrap64 (x18_3 + 1)), (by first | rfl | (simp; done) | (simp [*]; done)), (by first | rfl | (simp; done) | (simp [*]; done)), H', ⟨by have := HJ5.out; have := HJ26.out; have := HK3.out; omega⟩, ⟨by (with_reducible repeat (first | refine yN ?_ _ | refine yD ?_ | refine yA ?_ _)); exact BK208.out⟩, ⟨by (with_reducible repeat (first | refine yN ?_ _ | refine yD ?_ | refine yA ?_ _)); exact BK209.out⟩, ⟨by repeat (first | (with_reducible first | exact HB.out | apply zA | apply zN | apply zD | refine below_set ?_ GE208.out | refine below_set ?_ GE209.out) | exact HB.out)⟩⟩
           ·rw [if_neg c44] at H
            exact absurd H (by simp)
         ·rw [if_neg c42] at H
          have c42b0 : decide (x18_3 < (l1.length : Int)) = false := decide_eq_false c42
          clear c42
          replace H := Option.bind_eq_some_iff.mp H
          obtain ⟨t237, A450, H⟩ := H
          replace H : (if t237 = true then (if (a3_0 == a4_0 && (a3_1 == a4_1 && (a3_2 == a4_2 && (a3_3.toList == a4_3.toList)))) = true then (if ((t220.toList == t230.toList) == true) = true then (if ((t221.toList == t231.toList) == (a3_0 == a4_0 && (a3_1 == a4_1 && (a3_2 == a4_2 && (a3_3.toList == a4_3.toList))))) = true then ((falseworklaw21_awake.f k3).bind fun t238 => (some t238)) else (none)) else (none)) else (if a0 = true then (if ((t220.toList == t230.toList) == (!x17_3)) = true then (if ((t221.toList == t231.toList) == (a3_0 == a4_0 && (a3_1 == a4_1 && (a3_2 == a4_2 && (a3_3.toList == a4_3.toList))))) = true then ((falseworklaw21_awake.f k3).bind fun t239 => (some t239)) else (none)) else (none)) else (if ((t220.toList == t230.toList) == false) = true then (if ((t221.toList == t231.toList) == (a3_0 == a4_0 && (a3_1 == a4_1 && (a3_2 == a4_2 && (a3_3.toList == a4_3.toList))))) = true then ((falseworklaw21_awake.f k3).bind fun t240 => (some t240)) else (none)) else (none)))) else (if ((t220.toList == t230.toList) == false) = true then (if ((t221.toList == t231.toList) == (a3_0 == a4_0 && (a3_1 == a4_1 && (a3_2 == a4_2 && (a3_3.toList == a4_3.toList))))) = true then ((falseworklaw21_awake.f k3).bind fun t241 => (some t241)) else (none)) else (none))) = some r := H
          have A45 := Aside0.mk A450
          clear A450
          by_cases c46 : t237 = true
          ·subst c46
           have H1 : (if (a3_0 == a4_0 && (a3_1 == a4_1 && (a3_2 == a4_2 && (a3_3.toList == a4_3.toList)))) = true then (if ((t220.toList == t230.toList) == true) = true then (if ((t221.toList == t231.toList) == (a3_0 == a4_0 && (a3_1 == a4_1 && (a3_2 == a4_2 && (a3_3.toList == a4_3.toList))))) = true then ((falseworklaw21_awake.f k3).bind fun t238 => (some t238)) else (none)) else (none)) else (if a0 = true then (if ((t220.toList == t230.toList) == (!x17_3)) = true then (if ((t221.toList == t231.toList) == (a3_0 == a4_0 && (a3_1 == a4_1 && (a3_2 == a4_2 && (a3_3.toList == a4_3.toList))))) = true then ((falseworklaw21_awake.f k3).bind fun t239 => (some t239)) else (none)) else (none)) else (if ((t220.toList == t230.toList) == false) = true then (if ((t221.toList == t231.toList) == (a3_0 == a4_0 && (a3_1 == a4_1 && (a3_2 == a4_2 && (a3_3.toList == a4_3.toList))))) = true then ((falseworklaw21_awake.f k3).bind fun t240 => (some t240)) else (none)) else (none)))) = some r := by rw [if_pos rfl] at H; exact H
           clear H
           have H := H1
           clear H1
           by_cases c47 : (a3_0 == a4_0 && (a3_1 == a4_1 && (a3_2 == a4_2 && (a3_3.toList == a4_3.toList)))) = true
           ·rw [if_pos c47] at H
            have c47b0 : (a3_0 == a4_0 && (a3_1 == a4_1 && (a3_2 == a4_2 && (a3_3.toList == a4_3.toList)))) = true := c47
            (try (have c47b1 : decide (a3_0 = a4_0 && (a3_1 == a4_1 && (a3_2 == a4_2 && (a3_3.toList == a4_3.toList)))) = true := by simpa using c47))
            (try (have c47b2 : (a3_0 == a4_0 && (a3_1 == a4_1 && (a3_2 == a4_2 && (a3_3.toList == a4_3.toList)))) = true := by simpa using c47))
            clear c47
            by_cases c48 : ((t220.toList == t230.toList) == true) = true
            ·rw [if_pos c48] at H
             have c48b0 : ((t220.toList == t230.toList) == true) = true := c48
             (try (have c48b1 : decide ((t220.toList == t230.toList) = true) = true := by simpa using c48))
             (try (have c48b2 : ((t220.toList == t230.toList) == true) = true := by simpa using c48))
             clear c48
             rcases Bool.eq_false_or_eq_true (t220.toList == t230.toList) with hq49 | hq49
             all_goals (try (exfalso; have c_ := c48b0; simp [hq49] at c_; done))
             all_goals
              (try (have hq49p : t220.toList = t230.toList := by simpa using hq49))
              (try (have hq49n : ¬ t220.toList = t230.toList := by simpa using hq49))
              by_cases c50 : ((t221.toList == t231.toList) == (a3_0 == a4_0 && (a3_1 == a4_1 && (a3_2 == a4_2 && (a3_3.toList == a4_3.toList))))) = true
              ·rw [if_pos c50] at H
               have c50b0 : ((t221.toList == t231.toList) == (a3_0 == a4_0 && (a3_1 == a4_1 && (a3_2 == a4_2 && (a3_3.toList == a4_3.toList))))) = true := c50
               (try (have c50b1 : decide ((t221.toList == t231.toList) = (a3_0 == a4_0 && (a3_1 == a4_1 && (a3_2 == a4_2 && (a3_3.toList == a4_3.toList))))) = true := by simpa using c50))
               (try (have c50b2 : ((t221.toList == t231.toList) == (a3_0 == a4_0 && (a3_1 == a4_1 && (a3_2 == a4_2 && (a3_3.toList == a4_3.toList))))) = true := by simpa using c50))
               clear c50
               rcases Bool.eq_false_or_eq_true (t221.toList == t231.toList) with hq51 | hq51
               all_goals (try (exfalso; have c_ := c50b0; simp [hq51, c47b0] at c_; done))
               all_goals
                (try (have hq51p : t221.toList = t231.toList := by simpa using hq51))
                (try (have hq51n : ¬ t221.toList = t231.toList := by simpa using hq51))
                (try (have hq51v : (a3_0 == a4_0 && (a3_1 == a4_1 && (a3_2 == a4_2 && (a3_3.toList == a4_3.toList)))) = true := by have c_ := (eq_of_beq c50b0).symm; rw [hq51] at c_; exact c_))
                (try (have hq51w : ¬ ((a3_0 == a4_0 && (a3_1 == a4_1 && (a3_2 == a4_2 && (a3_3.toList == a4_3.toList)))) = true) := by have c_ := (eq_of_beq c50b0).symm; rw [hq51] at c_; rw [c_]; decide))
                (try (have hq51vb0 : (a3_0 == a4_0 && (a3_1 == a4_1 && (a3_2 == a4_2 && (a3_3.toList == a4_3.toList)))) = true := hq51v))
                (try (have hq51vb1 : decide (a3_0 = a4_0 && (a3_1 == a4_1 && (a3_2 == a4_2 && (a3_3.toList == a4_3.toList)))) = true := by simpa using hq51v))
                (try (have hq51vb2 : (a3_0 == a4_0 && (a3_1 == a4_1 && (a3_2 == a4_2 && (a3_3.toList == a4_3.toList)))) = true := by simpa using hq51v))
                (try (have hq51wb0 : (a3_0 == a4_0 && (a3_1 == a4_1 && (a3_2 == a4_2 && (a3_3.toList == a4_3.toList)))) = false := by simpa using hq51w))
                (try (have hq51wb1 : decide (a3_0 = a4_0 && (a3_1 == a4_1 && (a3_2 == a4_2 && (a3_3.toList == a4_3.toList)))) = false := by simpa using hq51w))
                (try (have hq51wb2 : (a3_0 == a4_0 && (a3_1 == a4_1 && (a3_2 == a4_2 && (a3_3.toList == a4_3.toList)))) = false := by simpa using hq51w))
                (try (have hq51wb3 : ¬ (a3_0 = a4_0 && (a3_1 == a4_1 && (a3_2 == a4_2 && (a3_3.toList == a4_3.toList)))) := by simpa using hq51w))
                replace H := Option.bind_eq_some_iff.mp H
                obtain ⟨t238, A520, H⟩ := H
                replace H : (some t238) = some r := H
                have A52 := Aside0.mk A520
                clear A520
                obtain rfl := Option.some.inj H
                go_wp2_with (first | ((with_reducible refine gate_callee (f := 19) rfl ?_); refine goesL_ (some 94) rfl rfl Try.func19 (by kernel_rfl) rfl #[.slice A1 l1.length c1, .slice A2 l2.length c2] rfl (by (try simp only [List.map_toArray, List.map_cons, List.map_nil]); first | done | rfl | (simp only [List.length_drop, List.length_take]; rfl)) ?_; (with_reducible refine (falseworkref2_Same.calls k3 _ _ l1 _ _ l2 true _ ?side1 ?side2 ?side3 ?side4 A45.out).mono ?_); (case side1 => repeat (first | exact (Kd.C_below HR1.out HB.out) | (with_reducible refine Kd.C_alloc ?_ _) | (with_reducible refine Kd.C_drewN ?_ _) | (with_reducible refine Kd.C_drew ?_))); (case side2 => exact HC1.out); (case side3 => repeat (first | exact (Kd.C_below HR2.out HB.out) | (with_reducible refine Kd.C_alloc ?_ _) | (with_reducible refine Kd.C_drewN ?_ _) | (with_reducible refine Kd.C_drew ?_))); (case side4 => exact HC2.out); rintro e w' ⟨rfl, ⟨nd, rfl⟩⟩; refine ⟨_, rfl, ?_⟩; have hnb53 := NB208_209.out; have hnc53 := NB209_208.out; obtain ⟨hcz54_0, hcz54_1, hcz54_2, hcz54_3⟩ := blkc4 BK208.out; obtain ⟨hfz54_0, hfz54_1, hfz54_2, hfz54_3⟩ := blkf4 BK208.out; obtain ⟨hcz55_0, hcz55_1, hcz55_2, hcz55_3⟩ := blkc4 BK209.out; obtain ⟨hfz55_0, hfz55_1, hfz55_2, hfz55_3⟩ := blkf4 BK209.out) | (go_at_call 8; (with_reducible refine (falseworklaw21_awake.calls k3  t238 _ A52.out).mono ?_); rintro e w56 ⟨rfl, hb⟩; have n0_ := Aside0.mk (yB (g := gb208) (o := .cells #[.int .i64 a3_0, .int .i64 a3_1, .int .u64 a3_2, .string a3_3] 24 (0, 0)) (by (with_reducible repeat (first | refine yN ?_ _ | refine yD ?_ | refine yA ?_ _)); exact BK208.out) hb); have n1_ := Aside0.mk (yB (g := gb209) (o := .cells #[.int .i64 a4_0, .int .i64 a4_1, .int .u64 a4_2, .string a4_3] 24 (0, 0)) (by (with_reducible repeat (first | refine yN ?_ _ | refine yD ?_ | refine yA ?_ _)); exact BK209.out) hb); have n2_ := Aside0.mk (zS (by repeat (first | (with_reducible first | exact HB.out | apply zA | apply zN | apply zD | refine below_set ?_ GE208.out | refine below_set ?_ GE209.out) | exact HB.out)) hb); clear BK208; clear BK209; clear HB; have BK208 := n0_; have BK209 := n1_; have HB := n2_; clear n0_ n1_ n2_; (try clear hb); (try clear hb2); (try clear hk); (try clear hi)))
                go_ret
                exact ⟨by first | rfl | (simp [errW_none, errW_some] <;> rfl) | (simp [*, errW_none, errW_some] <;> rfl), by repeat (first | (with_reducible first | exact HB.out | apply zA | apply zN | apply zD | refine below_set ?_ GE208.out | refine below_set ?_ GE209.out) | exact HB.out)⟩
              ·rw [if_neg c50] at H
               exact absurd H (by simp)
            ·rw [if_neg c48] at H
             exact absurd H (by simp)
           ·rw [if_neg c47] at H
            have c47b0 : (a3_0 == a4_0 && (a3_1 == a4_1 && (a3_2 == a4_2 && (a3_3.toList == a4_3.toList)))) = false := by simpa using c47
            (try (have c47b1 : decide (a3_0 = a4_0 && (a3_1 == a4_1 && (a3_2 == a4_2 && (a3_3.toList == a4_3.toList)))) = false := by simpa using c47))
            (try (have c47b2 : (a3_0 == a4_0 && (a3_1 == a4_1 && (a3_2 == a4_2 && (a3_3.toList == a4_3.toList)))) = false := by simpa using c47))
            (try (have c47b3 : ¬ (a3_0 = a4_0 && (a3_1 == a4_1 && (a3_2 == a4_2 && (a3_3.toList == a4_3.toList)))) := by simpa using c47))
            clear c47
            by_cases c57 : a0 = true
            ·subst c57
             have H1 : (if ((t220.toList == t230.toList) == (!x17_3)) = true then (if ((t221.toList == t231.toList) == (a3_0 == a4_0 && (a3_1 == a4_1 && (a3_2 == a4_2 && (a3_3.toList == a4_3.toList))))) = true then ((falseworklaw21_awake.f k3).bind fun t239 => (some t239)) else (none)) else (none)) = some r := by rw [if_pos rfl] at H; exact H
             clear H
             have H := H1
             clear H1
             by_cases c58 : ((t220.toList == t230.toList) == (!x17_3)) = true
             ·rw [if_pos c58] at H
              have c58b0 : ((t220.toList == t230.toList) == (!x17_3)) = true := c58
              (try (have c58b1 : decide ((t220.toList == t230.toList) = (!x17_3)) = true := by simpa using c58))
              (try (have c58b2 : ((t220.toList == t230.toList) == (!x17_3)) = true := by simpa using c58))
              clear c58
              rcases Bool.eq_false_or_eq_true (t220.toList == t230.toList) with hq59 | hq59
              all_goals (try (exfalso; have c_ := c58b0; simp [hq59] at c_; done))
              all_goals
               (try (have hq59p : t220.toList = t230.toList := by simpa using hq59))
               (try (have hq59n : ¬ t220.toList = t230.toList := by simpa using hq59))
               (try (have hq59v : (!x17_3) = true := by have c_ := (eq_of_beq c58b0).symm; rw [hq59] at c_; exact c_))
               (try (have hq59w : ¬ ((!x17_3) = true) := by have c_ := (eq_of_beq c58b0).symm; rw [hq59] at c_; rw [c_]; decide))
               (try (have hq59vb0 : (!x17_3) = true := hq59v))
               (try (have hq59wb0 : (!x17_3) = false := by simpa using hq59w))
               (try (have hq59u : x17_3 = true := by have c_ := c58b0; simpa [hq59] using c_))
               (try (have hq59u : x17_3 = false := by have c_ := c58b0; simpa [hq59] using c_))
               by_cases c60 : ((t221.toList == t231.toList) == (a3_0 == a4_0 && (a3_1 == a4_1 && (a3_2 == a4_2 && (a3_3.toList == a4_3.toList))))) = true
               ·rw [if_pos c60] at H
                have c60b0 : ((t221.toList == t231.toList) == (a3_0 == a4_0 && (a3_1 == a4_1 && (a3_2 == a4_2 && (a3_3.toList == a4_3.toList))))) = true := c60
                (try (have c60b1 : decide ((t221.toList == t231.toList) = (a3_0 == a4_0 && (a3_1 == a4_1 && (a3_2 == a4_2 && (a3_3.toList == a4_3.toList))))) = true := by simpa using c60))
                (try (have c60b2 : ((t221.toList == t231.toList) == (a3_0 == a4_0 && (a3_1 == a4_1 && (a3_2 == a4_2 && (a3_3.toList == a4_3.toList))))) = true := by simpa using c60))
                clear c60
                rcases Bool.eq_false_or_eq_true (t221.toList == t231.toList) with hq61 | hq61
                all_goals (try (exfalso; have c_ := c60b0; simp [hq61, c47b0] at c_; done))
                all_goals
                 (try (have hq61p : t221.toList = t231.toList := by simpa using hq61))
                 (try (have hq61n : ¬ t221.toList = t231.toList := by simpa using hq61))
                 (try (have hq61v : (a3_0 == a4_0 && (a3_1 == a4_1 && (a3_2 == a4_2 && (a3_3.toList == a4_3.toList)))) = true := by have c_ := (eq_of_beq c60b0).symm; rw [hq61] at c_; exact c_))
                 (try (have hq61w : ¬ ((a3_0 == a4_0 && (a3_1 == a4_1 && (a3_2 == a4_2 && (a3_3.toList == a4_3.toList)))) = true) := by have c_ := (eq_of_beq c60b0).symm; rw [hq61] at c_; rw [c_]; decide))
                 (try (have hq61vb0 : (a3_0 == a4_0 && (a3_1 == a4_1 && (a3_2 == a4_2 && (a3_3.toList == a4_3.toList)))) = true := hq61v))
                 (try (have hq61vb1 : decide (a3_0 = a4_0 && (a3_1 == a4_1 && (a3_2 == a4_2 && (a3_3.toList == a4_3.toList)))) = true := by simpa using hq61v))
                 (try (have hq61vb2 : (a3_0 == a4_0 && (a3_1 == a4_1 && (a3_2 == a4_2 && (a3_3.toList == a4_3.toList)))) = true := by simpa using hq61v))
                 (try (have hq61wb0 : (a3_0 == a4_0 && (a3_1 == a4_1 && (a3_2 == a4_2 && (a3_3.toList == a4_3.toList)))) = false := by simpa using hq61w))
                 (try (have hq61wb1 : decide (a3_0 = a4_0 && (a3_1 == a4_1 && (a3_2 == a4_2 && (a3_3.toList == a4_3.toList)))) = false := by simpa using hq61w))
                 (try (have hq61wb2 : (a3_0 == a4_0 && (a3_1 == a4_1 && (a3_2 == a4_2 && (a3_3.toList == a4_3.toList)))) = false := by simpa using hq61w))
                 (try (have hq61wb3 : ¬ (a3_0 = a4_0 && (a3_1 == a4_1 && (a3_2 == a4_2 && (a3_3.toList == a4_3.toList)))) := by simpa using hq61w))
                 replace H := Option.bind_eq_some_iff.mp H
                 obtain ⟨t239, A620, H⟩ := H
                 replace H : (some t239) = some r := H
                 have A62 := Aside0.mk A620
                 clear A620
                 obtain rfl := Option.some.inj H
                 go_wp2_with (first | ((with_reducible refine gate_callee (f := 19) rfl ?_); refine goesL_ (some 94) rfl rfl Try.func19 (by kernel_rfl) rfl #[.slice A1 l1.length c1, .slice A2 l2.length c2] rfl (by (try simp only [List.map_toArray, List.map_cons, List.map_nil]); first | done | rfl | (simp only [List.length_drop, List.length_take]; rfl)) ?_; (with_reducible refine (falseworkref2_Same.calls k3 _ _ l1 _ _ l2 true _ ?side1 ?side2 ?side3 ?side4 A45.out).mono ?_); (case side1 => repeat (first | exact (Kd.C_below HR1.out HB.out) | (with_reducible refine Kd.C_alloc ?_ _) | (with_reducible refine Kd.C_drewN ?_ _) | (with_reducible refine Kd.C_drew ?_))); (case side2 => exact HC1.out); (case side3 => repeat (first | exact (Kd.C_below HR2.out HB.out) | (with_reducible refine Kd.C_alloc ?_ _) | (with_reducible refine Kd.C_drewN ?_ _) | (with_reducible refine Kd.C_drew ?_))); (case side4 => exact HC2.out); rintro e w' ⟨rfl, ⟨nd, rfl⟩⟩; refine ⟨_, rfl, ?_⟩; have hnb63 := NB208_209.out; have hnc63 := NB209_208.out; obtain ⟨hcz64_0, hcz64_1, hcz64_2, hcz64_3⟩ := blkc4 BK208.out; obtain ⟨hfz64_0, hfz64_1, hfz64_2, hfz64_3⟩ := blkf4 BK208.out; obtain ⟨hcz65_0, hcz65_1, hcz65_2, hcz65_3⟩ := blkc4 BK209.out; obtain ⟨hfz65_0, hfz65_1, hfz65_2, hfz65_3⟩ := blkf4 BK209.out) | (go_at_call 8; (with_reducible refine (falseworklaw21_awake.calls k3  t239 _ A62.out).mono ?_); rintro e w66 ⟨rfl, hb⟩; have n0_ := Aside0.mk (yB (g := gb208) (o := .cells #[.int .i64 a3_0, .int .i64 a3_1, .int .u64 a3_2, .string a3_3] 24 (0, 0)) (by (with_reducible repeat (first | refine yN ?_ _ | refine yD ?_ | refine yA ?_ _)); exact BK208.out) hb); have n1_ := Aside0.mk (yB (g := gb209) (o := .cells #[.int .i64 a4_0, .int .i64 a4_1, .int .u64 a4_2, .string a4_3] 24 (0, 0)) (by (with_reducible repeat (first | refine yN ?_ _ | refine yD ?_ | refine yA ?_ _)); exact BK209.out) hb); have n2_ := Aside0.mk (zS (by repeat (first | (with_reducible first | exact HB.out | apply zA | apply zN | apply zD | refine below_set ?_ GE208.out | refine below_set ?_ GE209.out) | exact HB.out)) hb); clear BK208; clear BK209; clear HB; have BK208 := n0_; have BK209 := n1_; have HB := n2_; clear n0_ n1_ n2_; (try clear hb); (try clear hb2); (try clear hk); (try clear hi)))
                 go_ret
                 exact ⟨by first | rfl | (simp [errW_none, errW_some] <;> rfl) | (simp [*, errW_none, errW_some] <;> rfl), by repeat (first | (with_reducible first | exact HB.out | apply zA | apply zN | apply zD | refine below_set ?_ GE208.out | refine below_set ?_ GE209.out) | exact HB.out)⟩
               ·rw [if_neg c60] at H
                exact absurd H (by simp)
             ·rw [if_neg c58] at H
              exact absurd H (by simp)
            ·replace c57 := Bool.eq_false_iff.mpr c57
             subst c57
             have H1 : (if ((t220.toList == t230.toList) == false) = true then (if ((t221.toList == t231.toList) == (a3_0 == a4_0 && (a3_1 == a4_1 && (a3_2 == a4_2 && (a3_3.toList == a4_3.toList))))) = true then ((falseworklaw21_awake.f k3).bind fun t240 => (some t240)) else (none)) else (none)) = some r := by rw [if_neg (show ¬ (false = true) by decide)] at H; exact H
             clear H
             have H := H1
             clear H1
             by_cases c67 : ((t220.toList == t230.toList) == false) = true
             ·rw [if_pos c67] at H
              have c67b0 : ((t220.toList == t230.toList) == false) = true := c67
              (try (have c67b1 : decide ((t220.toList == t230.toList) = false) = true := by simpa using c67))
              (try (have c67b2 : ((t220.toList == t230.toList) == false) = true := by simpa using c67))
              clear c67
              rcases Bool.eq_false_or_eq_true (t220.toList == t230.toList) with hq68 | hq68
              all_goals (try (exfalso; have c_ := c67b0; simp [hq68] at c_; done))
              all_goals
               (try (have hq68p : t220.toList = t230.toList := by simpa using hq68))
               (try (have hq68n : ¬ t220.toList = t230.toList := by simpa using hq68))
               by_cases c69 : ((t221.toList == t231.toList) == (a3_0 == a4_0 && (a3_1 == a4_1 && (a3_2 == a4_2 && (a3_3.toList == a4_3.toList))))) = true
               ·rw [if_pos c69] at H
                have c69b0 : ((t221.toList == t231.toList) == (a3_0 == a4_0 && (a3_1 == a4_1 && (a3_2 == a4_2 && (a3_3.toList == a4_3.toList))))) = true := c69
                (try (have c69b1 : decide ((t221.toList == t231.toList) = (a3_0 == a4_0 && (a3_1 == a4_1 && (a3_2 == a4_2 && (a3_3.toList == a4_3.toList))))) = true := by simpa using c69))
                (try (have c69b2 : ((t221.toList == t231.toList) == (a3_0 == a4_0 && (a3_1 == a4_1 && (a3_2 == a4_2 && (a3_3.toList == a4_3.toList))))) = true := by simpa using c69))
                clear c69
                rcases Bool.eq_false_or_eq_true (t221.toList == t231.toList) with hq70 | hq70
                all_goals (try (exfalso; have c_ := c69b0; simp [hq70, c47b0] at c_; done))
                all_goals
                 (try (have hq70p : t221.toList = t231.toList := by simpa using hq70))
                 (try (have hq70n : ¬ t221.toList = t231.toList := by simpa using hq70))
                 (try (have hq70v : (a3_0 == a4_0 && (a3_1 == a4_1 && (a3_2 == a4_2 && (a3_3.toList == a4_3.toList)))) = true := by have c_ := (eq_of_beq c69b0).symm; rw [hq70] at c_; exact c_))
                 (try (have hq70w : ¬ ((a3_0 == a4_0 && (a3_1 == a4_1 && (a3_2 == a4_2 && (a3_3.toList == a4_3.toList)))) = true) := by have c_ := (eq_of_beq c69b0).symm; rw [hq70] at c_; rw [c_]; decide))
                 (try (have hq70vb0 : (a3_0 == a4_0 && (a3_1 == a4_1 && (a3_2 == a4_2 && (a3_3.toList == a4_3.toList)))) = true := hq70v))
                 (try (have hq70vb1 : decide (a3_0 = a4_0 && (a3_1 == a4_1 && (a3_2 == a4_2 && (a3_3.toList == a4_3.toList)))) = true := by simpa using hq70v))
                 (try (have hq70vb2 : (a3_0 == a4_0 && (a3_1 == a4_1 && (a3_2 == a4_2 && (a3_3.toList == a4_3.toList)))) = true := by simpa using hq70v))
                 (try (have hq70wb0 : (a3_0 == a4_0 && (a3_1 == a4_1 && (a3_2 == a4_2 && (a3_3.toList == a4_3.toList)))) = false := by simpa using hq70w))
                 (try (have hq70wb1 : decide (a3_0 = a4_0 && (a3_1 == a4_1 && (a3_2 == a4_2 && (a3_3.toList == a4_3.toList)))) = false := by simpa using hq70w))
                 (try (have hq70wb2 : (a3_0 == a4_0 && (a3_1 == a4_1 && (a3_2 == a4_2 && (a3_3.toList == a4_3.toList)))) = false := by simpa using hq70w))
                 (try (have hq70wb3 : ¬ (a3_0 = a4_0 && (a3_1 == a4_1 && (a3_2 == a4_2 && (a3_3.toList == a4_3.toList)))) := by simpa using hq70w))
                 replace H := Option.bind_eq_some_iff.mp H
                 obtain ⟨t240, A710, H⟩ := H
                 replace H : (some t240) = some r := H
                 have A71 := Aside0.mk A710
                 clear A710
                 obtain rfl := Option.some.inj H
                 go_wp2_with (first | ((with_reducible refine gate_callee (f := 19) rfl ?_); refine goesL_ (some 94) rfl rfl Try.func19 (by kernel_rfl) rfl #[.slice A1 l1.length c1, .slice A2 l2.length c2] rfl (by (try simp only [List.map_toArray, List.map_cons, List.map_nil]); first | done | rfl | (simp only [List.length_drop, List.length_take]; rfl)) ?_; (with_reducible refine (falseworkref2_Same.calls k3 _ _ l1 _ _ l2 true _ ?side1 ?side2 ?side3 ?side4 A45.out).mono ?_); (case side1 => repeat (first | exact (Kd.C_below HR1.out HB.out) | (with_reducible refine Kd.C_alloc ?_ _) | (with_reducible refine Kd.C_drewN ?_ _) | (with_reducible refine Kd.C_drew ?_))); (case side2 => exact HC1.out); (case side3 => repeat (first | exact (Kd.C_below HR2.out HB.out) | (with_reducible refine Kd.C_alloc ?_ _) | (with_reducible refine Kd.C_drewN ?_ _) | (with_reducible refine Kd.C_drew ?_))); (case side4 => exact HC2.out); rintro e w' ⟨rfl, ⟨nd, rfl⟩⟩; refine ⟨_, rfl, ?_⟩; have hnb72 := NB208_209.out; have hnc72 := NB209_208.out; obtain ⟨hcz73_0, hcz73_1, hcz73_2, hcz73_3⟩ := blkc4 BK208.out; obtain ⟨hfz73_0, hfz73_1, hfz73_2, hfz73_3⟩ := blkf4 BK208.out; obtain ⟨hcz74_0, hcz74_1, hcz74_2, hcz74_3⟩ := blkc4 BK209.out; obtain ⟨hfz74_0, hfz74_1, hfz74_2, hfz74_3⟩ := blkf4 BK209.out) | (go_at_call 8; (with_reducible refine (falseworklaw21_awake.calls k3  t240 _ A71.out).mono ?_); rintro e w75 ⟨rfl, hb⟩; have n0_ := Aside0.mk (yB (g := gb208) (o := .cells #[.int .i64 a3_0, .int .i64 a3_1, .int .u64 a3_2, .string a3_3] 24 (0, 0)) (by (with_reducible repeat (first | refine yN ?_ _ | refine yD ?_ | refine yA ?_ _)); exact BK208.out) hb); have n1_ := Aside0.mk (yB (g := gb209) (o := .cells #[.int .i64 a4_0, .int .i64 a4_1, .int .u64 a4_2, .string a4_3] 24 (0, 0)) (by (with_reducible repeat (first | refine yN ?_ _ | refine yD ?_ | refine yA ?_ _)); exact BK209.out) hb); have n2_ := Aside0.mk (zS (by repeat (first | (with_reducible first | exact HB.out | apply zA | apply zN | apply zD | refine below_set ?_ GE208.out | refine below_set ?_ GE209.out) | exact HB.out)) hb); clear BK208; clear BK209; clear HB; have BK208 := n0_; have BK209 := n1_; have HB := n2_; clear n0_ n1_ n2_; (try clear hb); (try clear hb2); (try clear hk); (try clear hi)))
                 go_ret
                 exact ⟨by first | rfl | (simp [errW_none, errW_some] <;> rfl) | (simp [*, errW_none, errW_some] <;> rfl), by repeat (first | (with_reducible first | exact HB.out | apply zA | apply zN | apply zD | refine below_set ?_ GE208.out | refine below_set ?_ GE209.out) | exact HB.out)⟩
               ·rw [if_neg c69] at H
                exact absurd H (by simp)
             ·rw [if_neg c67] at H
              exact absurd H (by simp)
          ·replace c46 := Bool.eq_false_iff.mpr c46
           subst c46
           have H1 : (if ((t220.toList == t230.toList) == false) = true then (if ((t221.toList == t231.toList) == (a3_0 == a4_0 && (a3_1 == a4_1 && (a3_2 == a4_2 && (a3_3.toList == a4_3.toList))))) = true then ((falseworklaw21_awake.f k3).bind fun t241 => (some t241)) else (none)) else (none)) = some r := by rw [if_neg (show ¬ (false = true) by decide)] at H; exact H
           clear H
           have H := H1
           clear H1
           by_cases c76 : ((t220.toList == t230.toList) == false) = true
           ·rw [if_pos c76] at H
            have c76b0 : ((t220.toList == t230.toList) == false) = true := c76
            (try (have c76b1 : decide ((t220.toList == t230.toList) = false) = true := by simpa using c76))
            (try (have c76b2 : ((t220.toList == t230.toList) == false) = true := by simpa using c76))
            clear c76
            rcases Bool.eq_false_or_eq_true (t220.toList == t230.toList) with hq77 | hq77
            all_goals (try (exfalso; have c_ := c76b0; simp [hq77] at c_; done))
            all_goals
             (try (have hq77p : t220.toList = t230.toList := by simpa using hq77))
             (try (have hq77n : ¬ t220.toList = t230.toList := by simpa using hq77))
             by_cases c78 : ((t221.toList == t231.toList) == (a3_0 == a4_0 && (a3_1 == a4_1 && (a3_2 == a4_2 && (a3_3.toList == a4_3.toList))))) = true
             ·rw [if_pos c78] at H
              have c78b0 : ((t221.toList == t231.toList) == (a3_0 == a4_0 && (a3_1 == a4_1 && (a3_2 == a4_2 && (a3_3.toList == a4_3.toList))))) = true := c78
              (try (have c78b1 : decide ((t221.toList == t231.toList) = (a3_0 == a4_0 && (a3_1 == a4_1 && (a3_2 == a4_2 && (a3_3.toList == a4_3.toList))))) = true := by simpa using c78))
              (try (have c78b2 : ((t221.toList == t231.toList) == (a3_0 == a4_0 && (a3_1 == a4_1 && (a3_2 == a4_2 && (a3_3.toList == a4_3.toList))))) = true := by simpa using c78))
              clear c78
              rcases Bool.eq_false_or_eq_true (t221.toList == t231.toList) with hq79 | hq79
              all_goals (try (exfalso; have c_ := c78b0; simp [hq79] at c_; done))
              all_goals
               (try (have hq79p : t221.toList = t231.toList := by simpa using hq79))
               (try (have hq79n : ¬ t221.toList = t231.toList := by simpa using hq79))
               (try (have hq79v : (a3_0 == a4_0 && (a3_1 == a4_1 && (a3_2 == a4_2 && (a3_3.toList == a4_3.toList)))) = true := by have c_ := (eq_of_beq c78b0).symm; rw [hq79] at c_; exact c_))
               (try (have hq79w : ¬ ((a3_0 == a4_0 && (a3_1 == a4_1 && (a3_2 == a4_2 && (a3_3.toList == a4_3.toList)))) = true) := by have c_ := (eq_of_beq c78b0).symm; rw [hq79] at c_; rw [c_]; decide))
               (try (have hq79vb0 : (a3_0 == a4_0 && (a3_1 == a4_1 && (a3_2 == a4_2 && (a3_3.toList == a4_3.toList)))) = true := hq79v))
               (try (have hq79vb1 : decide (a3_0 = a4_0 && (a3_1 == a4_1 && (a3_2 == a4_2 && (a3_3.toList == a4_3.toList)))) = true := by simpa using hq79v))
               (try (have hq79vb2 : (a3_0 == a4_0 && (a3_1 == a4_1 && (a3_2 == a4_2 && (a3_3.toList == a4_3.toList)))) = true := by simpa using hq79v))
               (try (have hq79wb0 : (a3_0 == a4_0 && (a3_1 == a4_1 && (a3_2 == a4_2 && (a3_3.toList == a4_3.toList)))) = false := by simpa using hq79w))
               (try (have hq79wb1 : decide (a3_0 = a4_0 && (a3_1 == a4_1 && (a3_2 == a4_2 && (a3_3.toList == a4_3.toList)))) = false := by simpa using hq79w))
               (try (have hq79wb2 : (a3_0 == a4_0 && (a3_1 == a4_1 && (a3_2 == a4_2 && (a3_3.toList == a4_3.toList)))) = false := by simpa using hq79w))
               (try (have hq79wb3 : ¬ (a3_0 = a4_0 && (a3_1 == a4_1 && (a3_2 == a4_2 && (a3_3.toList == a4_3.toList)))) := by simpa using hq79w))
               replace H := Option.bind_eq_some_iff.mp H
               obtain ⟨t241, A800, H⟩ := H
               replace H : (some t241) = some r := H
               have A80 := Aside0.mk A800
               clear A800
               obtain rfl := Option.some.inj H
               go_wp2_with (first | ((with_reducible refine gate_callee (f := 19) rfl ?_); refine goesL_ (some 94) rfl rfl Try.func19 (by kernel_rfl) rfl #[.slice A1 l1.length c1, .slice A2 l2.length c2] rfl (by (try simp only [List.map_toArray, List.map_cons, List.map_nil]); first | done | rfl | (simp only [List.length_drop, List.length_take]; rfl)) ?_; (with_reducible refine (falseworkref2_Same.calls k3 _ _ l1 _ _ l2 false _ ?side1 ?side2 ?side3 ?side4 A45.out).mono ?_); (case side1 => repeat (first | exact (Kd.C_below HR1.out HB.out) | (with_reducible refine Kd.C_alloc ?_ _) | (with_reducible refine Kd.C_drewN ?_ _) | (with_reducible refine Kd.C_drew ?_))); (case side2 => exact HC1.out); (case side3 => repeat (first | exact (Kd.C_below HR2.out HB.out) | (with_reducible refine Kd.C_alloc ?_ _) | (with_reducible refine Kd.C_drewN ?_ _) | (with_reducible refine Kd.C_drew ?_))); (case side4 => exact HC2.out); rintro e w' ⟨rfl, ⟨nd, rfl⟩⟩; refine ⟨_, rfl, ?_⟩; have hnb81 := NB208_209.out; have hnc81 := NB209_208.out; obtain ⟨hcz82_0, hcz82_1, hcz82_2, hcz82_3⟩ := blkc4 BK208.out; obtain ⟨hfz82_0, hfz82_1, hfz82_2, hfz82_3⟩ := blkf4 BK208.out; obtain ⟨hcz83_0, hcz83_1, hcz83_2, hcz83_3⟩ := blkc4 BK209.out; obtain ⟨hfz83_0, hfz83_1, hfz83_2, hfz83_3⟩ := blkf4 BK209.out) | (go_at_call 8; (with_reducible refine (falseworklaw21_awake.calls k3  t241 _ A80.out).mono ?_); rintro e w84 ⟨rfl, hb⟩; have n0_ := Aside0.mk (yB (g := gb208) (o := .cells #[.int .i64 a3_0, .int .i64 a3_1, .int .u64 a3_2, .string a3_3] 24 (0, 0)) (by (with_reducible repeat (first | refine yN ?_ _ | refine yD ?_ | refine yA ?_ _)); exact BK208.out) hb); have n1_ := Aside0.mk (yB (g := gb209) (o := .cells #[.int .i64 a4_0, .int .i64 a4_1, .int .u64 a4_2, .string a4_3] 24 (0, 0)) (by (with_reducible repeat (first | refine yN ?_ _ | refine yD ?_ | refine yA ?_ _)); exact BK209.out) hb); have n2_ := Aside0.mk (zS (by repeat (first | (with_reducible first | exact HB.out | apply zA | apply zN | apply zD | refine below_set ?_ GE208.out | refine below_set ?_ GE209.out) | exact HB.out)) hb); clear BK208; clear BK209; clear HB; have BK208 := n0_; have BK209 := n1_; have HB := n2_; clear n0_ n1_ n2_; (try clear hb); (try clear hb2); (try clear hk); (try clear hi)))
               go_ret
               exact ⟨by first | rfl | (simp [errW_none, errW_some] <;> rfl) | (simp [*, errW_none, errW_some] <;> rfl), by repeat (first | (with_reducible first | exact HB.out | apply zA | apply zN | apply zD | refine below_set ?_ GE208.out | refine below_set ?_ GE209.out) | exact HB.out)⟩
             ·rw [if_neg c78] at H
              exact absurd H (by simp)
           ·rw [if_neg c76] at H
            exact absurd H (by simp)

end Go.Proofs.Ytifhnkbhjmapeaa.PA
