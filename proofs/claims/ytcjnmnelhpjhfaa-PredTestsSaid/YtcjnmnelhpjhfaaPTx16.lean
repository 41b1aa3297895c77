/- Contracts of the Go functions of this seat: what each call returns is what a Lean function of its arguments says; each theorem bears its own conditions. Written by a program of this session (wip/tools/mkprint.py). -/
import Derived.Test.YtcjnmnelhpjhfaaPTx0
import Derived.Test.YtcjnmnelhpjhfaaPTx9
import Derived.Test.YtcjnmnelhpjhfaaPTx11
import Derived.Test.YtcjnmnelhpjhfaaPTx15
-- squeezed
namespace Go.Proofs.Ytcjnmnelhpjhfaa.PA
open Go.RowKit Go.Proofs.YtcjnmnelhpjhfaaW.PrintWords Go.Proofs.YtcjnmnelhpjhfaaW.PrintLast Go.Proofs.YtcjnmnelhpjhfaaW.PrintMore
attribute [local go_sem] max2_int min2_int max_two min_two max_three min_three max_four min_four   -- for this text's walks alone
set_option linter.unusedVariables false
set_option linter.unusedSimpArgs false

attribute [local go_sem ↓ high] unary_xor_u64 ux_if_u64
attribute [local go_sem] str_gtr str_leq str_geq
/-! ### falseworkref18_Test: function 14 -/
def falseworkref18_Test.l0 : Nat → List (S51) → List (S40) → List (S43) → Int → Int → Option (Int × Int)
 | 0, _, _, _, _, _ => none
 | k + 1, x0, x1, x2, x9, x10 => if x10 < (x2.length : Int) then (if 0 ≤ x10 then ((falseworkref18_Shown.f k x0 ((rd_T43 x2 x10).f0)).bind fun t254 => (if 0 ≤ t254 then (if t254 < (x1.length : Int) then ((falseworkref18_one.f k ((rd_T40 x1 t254).f0) ((rd_T40 x1 t254).f1) ((rd_T40 x1 t254).f2) ((rd_T40 x1 t254).f3) ((rd_T43 x2 x10).f0) ((rd_T43 x2 x10).f1) ((rd_T43 x2 x10).f2.f0) ((rd_T43 x2 x10).f2.f1) ((rd_T43 x2 x10).f2.f2) ((rd_T43 x2 x10).f2.f3)).bind fun t257 => (if t257 = 0 then (if t257 < 0 then (falseworkref18_Test.l0 k x0 x1 x2 0 (wrap64 (x10 + 1))) else (falseworkref18_Test.l0 k x0 x1 x2 0 (wrap64 (x10 + 1)))) else (if t257 < 0 then (if x9 = 0 then (falseworkref18_Test.l0 k x0 x1 x2 x9 (wrap64 (x10 + 1))) else (falseworkref18_Test.l0 k x0 x1 x2 (-1) (wrap64 (x10 + 1)))) else (falseworkref18_Test.l0 k x0 x1 x2 x9 (wrap64 (x10 + 1)))))) else (none)) else (none))) else (none)) else (some (x9, 0))
def falseworkref18_Test.f (k : Nat) (l0 : List (S51)) (l1 : List (S40)) (l2 : List (S43)) : Option (Int × Int) := (falseworkref18_Check.f k l0 l2).bind fun t252 => (if t252 = 0 then (if (l1.length : Int) = (l0.length : Int) then (falseworkref18_Test.l0 k l0 l1 l2 1 0) else (some (0, 1))) else (some (0, t252)))
theorem falseworkref18_Test.mono_l : ∀ k, (∀ y0 y1 y2 y3 y4, LeO (falseworkref18_Test.l0 k y0 y1 y2 y3 y4) (falseworkref18_Test.l0 (k + 1) y0 y1 y2 y3 y4))
 | 0 => fun _ _ _ _ _ r h => by simp [falseworkref18_Test.l0] at h
 | k + 1 => by
  have ih0 := falseworkref18_Test.mono_l k
  ·intro y0 y1 y2 y3 y4
   unfold falseworkref18_Test.l0
   repeat' first
   | (with_reducible exact ih0 _ _ _ _ _)
   | (with_reducible exact falseworkref18_Check.mono _ _ _)
   | (with_reducible exact falseworkref18_Shown.mono _ _ _)
   | (with_reducible exact falseworkref18_one.mono _ _ _ _ _ _ _ _ _ _ _)
   | (with_reducible exact LeO.refl _)
   | (with_reducible exact LeO.none _)
   | (with_reducible refine LeO.ite ?_ ?_)
   | (with_reducible refine LeO.bind ?_ (fun _ => ?_))
   | exact ih0 _ _ _ _ _
   | exact falseworkref18_Check.mono _ _ _
   | exact falseworkref18_Shown.mono _ _ _
   | exact falseworkref18_one.mono _ _ _ _ _ _ _ _ _ _ _
   | exact LeO.none _
   | refine LeO.ite ?_ ?_
   | refine LeO.bind ?_ (fun _ => ?_)
theorem falseworkref18_Test.mono : ∀ a0 a1 a2 k, LeO (falseworkref18_Test.f k a0 a1 a2) (falseworkref18_Test.f (k + 1) a0 a1 a2) := by
 intro a0 a1 a2 k
 have ih0 := falseworkref18_Test.mono_l k
 unfold falseworkref18_Test.f
 repeat' first
   | (with_reducible exact ih0 _ _ _ _ _)
   | (with_reducible exact falseworkref18_Check.mono _ _ _)
   | (with_reducible exact falseworkref18_Shown.mono _ _ _)
   | (with_reducible exact falseworkref18_one.mono _ _ _ _ _ _ _ _ _ _ _)
   | (with_reducible exact LeO.refl _)
   | (with_reducible exact LeO.none _)
   | (with_reducible refine LeO.ite ?_ ?_)
   | (with_reducible refine LeO.bind ?_ (fun _ => ?_))
   | exact ih0 _ _ _ _ _
   | exact falseworkref18_Check.mono _ _ _
   | exact falseworkref18_Shown.mono _ _ _
   | exact falseworkref18_one.mono _ _ _ _ _ _ _ _ _ _ _
   | exact LeO.none _
   | refine LeO.ite ?_ ?_
   | refine LeO.bind ?_ (fun _ => ?_)
def falseworkref18_Test.T10 : Bool × List (List Nat × List Nat) := (true, [([], []), ([], []), ([], []), ([], []), ([2, 3], [2, 3]), ([4], [4]), ([5], [5]), ([1, 6], [1, 6]), ([0, 7], [0, 7]), ([8], [8]), ([], []), ([], []), ([10, 11], [10, 11]), ([12], [12]), ([9, 13, 7], [9, 13]), ([14, 14, 0, 1, 2, 3, 4, 5, 6, 7, 8, 9, 10, 11, 12, 13, 14], [14])])
def falseworkref18_Test.B10 : List Nat := [0, 0, 0, 0, 12, 28, 60, 126, 255, 511, 0, 0, 3072, 7168, 16383, 32767]
theorem falseworkref18_Test.tab10 : rtab .any (opsOf Try.f14 10) = falseworkref18_Test.T10 := by kernel_rfl
theorem falseworkref18_Test.bits10 : waitsOk falseworkref18_Test.T10.2 falseworkref18_Test.B10 = true := by kernel_rfl
set_option maxHeartbeats 8000000 in
set_option maxRecDepth 100000 in
theorem falseworkref18_Test.calls (k : Nat) (A0 : Option Addr) (c0 : Nat) (l0 : List (S51)) (A1 : Option Addr) (c1 : Nat) (l1 : List (S40)) (A2 : Option Addr) (c2 : Nat) (l2 : List (S43)) (r1 : Int) (r2 : Int) (w : World) (hr0 : Kd.C k51 w A0 l0.length l0) (hc0 : l0.length ≤ c0) (hr1 : Kd.C k40 w A1 l1.length l1) (hc1 : l1.length ≤ c1) (hr2 : Kd.C k43 w A2 l2.length l2) (hc2 : l2.length ≤ c2) (h : falseworkref18_Test.f k l0 l1 l2 = some (r1, r2)) :
  Calls Try.prog 14 #[.slice A0 l0.length c0, .slice A1 l1.length c1, .slice A2 l2.length c2] w fun e w' => e = .returned (.tuple #[.int .i64 r1, .int .i64 r2]) ∧ Below w.heap.size w w' := by
 have hu40 := Try.underlying40
 have hu43 := Try.underlying43
 have HR0 := Aside0.mk hr0
 have HC0 := Aside0.mk hc0
 clear hr0 hc0
 have HR1 := Aside0.mk hr1
 have HC1 := Aside0.mk hc1
 clear hr1 hc1
 have HR2 := Aside0.mk hr2
 have HC2 := Aside0.mk hc2
 clear hr2 hc2
 have HB := Aside0.mk (Below.refl w.heap.size w)
 have H : ((falseworkref18_Check.f k l0 l2).bind fun t252 => (if t252 = 0 then (if (l1.length : Int) = (l0.length : Int) then (falseworkref18_Test.l0 k l0 l1 l2 1 0) else (some (0, 1))) else (some (0, t252)))) = some (r1, r2) := h
 clear h
 replace H := Option.bind_eq_some_iff.mp H
 obtain ⟨t252, A40, H⟩ := H
 replace H : (if t252 = 0 then (if (l1.length : Int) = (l0.length : Int) then (falseworkref18_Test.l0 k l0 l1 l2 1 0) else (some (0, 1))) else (some (0, t252))) = some (r1, r2) := H
 have A4 := Aside0.mk A40
 clear A40
 by_cases c5 : t252 = 0
 ·rw [if_pos c5] at H
  have c5b0 : (t252 == 0) = true := beq_iff_eq.mpr c5
  have c5b1 : (t252 != 0) = false := bne_eq_false_iff_eq.mpr c5
  clear c5
  by_cases c6 : (l1.length : Int) = (l0.length : Int)
  ·rw [if_pos c6] at H
   have c6b0 : ((l1.length : Int) == (l0.length : Int)) = true := beq_iff_eq.mpr c6
   have c6b1 : ((l1.length : Int) != (l0.length : Int)) = false := bne_eq_false_iff_eq.mpr c6
   have c6b2 : (l1.length == l0.length) = true := by first | simpa using c6 | (simp at c6 ⊢; omega)
   clear c6
   have H' := Aside0.mk H
   clear H
   go_enter Try.func14, Try.ntmps14
   go_wp2_with (first | ((with_reducible refine gate_callee (f := 11) rfl ?_); refine goesL_ (some 14) rfl rfl Try.func11 (by kernel_rfl) rfl #[.slice A0 l0.length c0, .slice A2 l2.length c2] rfl (by (try simp only [List.map_toArray, List.map_cons, List.map_nil]); first | done | rfl | (simp only [List.length_drop, List.length_take]; rfl)) ?_; (with_reducible refine (falseworkref18_Check.calls k _ _ l0 _ _ l2 t252 _ ?side1 ?side2 ?side3 ?side4 A4.out).mono ?_); (case side1 => repeat (first | exact HR0.out | (with_reducible refine Kd.C_alloc ?_ _) | (with_reducible refine Kd.C_drewN ?_ _) | (with_reducible refine Kd.C_drew ?_))); (case side2 => exact HC0.out); (case side3 => repeat (first | exact HR2.out | (with_reducible refine Kd.C_alloc ?_ _) | (with_reducible refine Kd.C_drewN ?_ _) | (with_reducible refine Kd.C_drew ?_))); (case side4 => exact HC2.out); rintro e w7 ⟨rfl, hb⟩; refine ⟨_, rfl, ?_⟩; have n0_ := Aside0.mk (zS (by repeat (first | (with_reducible first | exact HB.out | apply zA | apply zN | apply zD) | exact HB.out)) hb); clear HB; have HB := n0_; clear n0_; (try clear hb); (try clear hb2); (try clear hk); (try clear hi)))
   go_loopg [9, 10] k (fun kq v9 v10 w' => ∃ (x9_1 : Int) (x10_1 : Int), v9 = .int .i64 x9_1 ∧ v10 = .int .i64 x10_1 ∧ Aside0 (falseworkref18_Test.l0 kq l0 l1 l2 x9_1 x10_1 = some (r1, r2)) ∧ Aside0 (kq ≤ k) ∧ Aside0 (Below w.heap.size w w'))
   case atStart => exact ⟨(1), (0), (by first | rfl | (simp; done) | (simp [*]; done)), (by first | rfl | (simp; done) | (simp [*]; done)), H', ⟨Nat.le_refl _⟩, ⟨by repeat (first | (with_reducible first | exact HB.out | apply zA | apply zN | apply zD) | exact HB.out)⟩⟩
   case round =>
    clear H'
    try clear c1
    try clear c2
    try clear p2
    try clear c5
    try clear c5b0
    try clear c5b1
    try clear c6
    try clear c6b0
    try clear c6b1
    try clear c6b2
    obtain ⟨x9_1, x10_1, rfl, rfl, HA, HK1, HB⟩ := hrel
    cases gk with
    | zero => exact absurd HA.out (by simp [falseworkref18_Test.l0])
    | succ k1 =>
     have H := HA.out
     clear HA
     simp only [falseworkref18_Test.l0] at H
     by_cases c8 : x10_1 < (l2.length : Int)
     ·rw [if_pos c8] at H
      have c8b0 : decide (x10_1 < (l2.length : Int)) = true := decide_eq_true c8
      clear c8
      by_cases c9 : 0 ≤ x10_1
      ·rw [if_pos c9] at H
       have c9b0 : decide (0 ≤ x10_1) = true := decide_eq_true c9
       clear c9
       replace H := Option.bind_eq_some_iff.mp H
       obtain ⟨t254, A100, H⟩ := H
       replace H : (if 0 ≤ t254 then (if t254 < (l1.length : Int) then ((falseworkref18_one.f k1 ((rd_T40 l1 t254).f0) ((rd_T40 l1 t254).f1) ((rd_T40 l1 t254).f2) ((rd_T40 l1 t254).f3) ((rd_T43 l2 x10_1).f0) ((rd_T43 l2 x10_1).f1) ((rd_T43 l2 x10_1).f2.f0) ((rd_T43 l2 x10_1).f2.f1) ((rd_T43 l2 x10_1).f2.f2) ((rd_T43 l2 x10_1).f2.f3)).bind fun t257 => (if t257 = 0 then (if t257 < 0 then (falseworkref18_Test.l0 k1 l0 l1 l2 0 (wrap64 (x10_1 + 1))) else (falseworkref18_Test.l0 k1 l0 l1 l2 0 (wrap64 (x10_1 + 1)))) else (if t257 < 0 then (if x9_1 = 0 then (falseworkref18_Test.l0 k1 l0 l1 l2 x9_1 (wrap64 (x10_1 + 1))) else (falseworkref18_Test.l0 k1 l0 l1 l2 (-1) (wrap64 (x10_1 + 1)))) else (falseworkref18_Test.l0 k1 l0 l1 l2 x9_1 (wrap64 (x10_1 + 1)))))) else (none)) else (none)) = some (r1, r2) := H
       have A10 := Aside0.mk A100
       clear A100
       by_cases c11 : 0 ≤ t254
       ·rw [if_pos c11] at H
        have c11b0 : decide (0 ≤ t254) = true := decide_eq_true c11
        clear c11
        by_cases c12 : t254 < (l1.length : Int)
        ·rw [if_pos c12] at H
         have c12b0 : decide (t254 < (l1.length : Int)) = true := decide_eq_true c12
         clear c12
         replace H := Option.bind_eq_some_iff.mp H
         obtain ⟨t257, A130, H⟩ := H
         replace H : (if t257 = 0 then (if t257 < 0 then (falseworkref18_Test.l0 k1 l0 l1 l2 0 (wrap64 (x10_1 + 1))) else (falseworkref18_Test.l0 k1 l0 l1 l2 0 (wrap64 (x10_1 + 1)))) else (if t257 < 0 then (if x9_1 = 0 then (falseworkref18_Test.l0 k1 l0 l1 l2 x9_1 (wrap64 (x10_1 + 1))) else (falseworkref18_Test.l0 k1 l0 l1 l2 (-1) (wrap64 (x10_1 + 1)))) else (falseworkref18_Test.l0 k1 l0 l1 l2 x9_1 (wrap64 (x10_1 + 1))))) = some (r1, r2) := H
         have A13 := Aside0.mk A130
         clear A130
         by_cases c14 : t257 = 0
         ·rw [if_pos c14] at H
          have c14b0 : (t257 == 0) = true := beq_iff_eq.mpr c14
          have c14b1 : (t257 != 0) = false := bne_eq_false_iff_eq.mpr c14
          clear c14
          by_cases c15 : t257 < 0
          ·rw [if_pos c15] at H
           have c15b0 : decide (t257 < 0) = true := decide_eq_true c15
           clear c15
           have H' := Aside0.mk H
           clear H
           try go_wp2
           have n0_ := Aside0.mk (zD HB.out)
           clear HB
           have HB := n0_
           clear n0_
           have p253 : 0 ≤ (x10_1 : Int) := of_decide_eq_true (by first | (with_reducible assumption) | assumption)
           have q253 : x10_1 < (l2.length : Int) := of_decide_eq_true (by first | (with_reducible assumption) | assumption)
           obtain ⟨ad253, e253, hx253_0, hx253_1, hx253_2, hx253_3, hx253_4, hx253_5⟩ := at_T43 HR2.out x10_1 p253 q253
           have hw253_5 := hx253_5
           have hw253_4 := hx253_4
           have hw253_3 := hx253_3
           have hw253_2 := hx253_2
           have hw253_1 := hx253_1
           have hw253_0 := hx253_0
           cases e253
           replace hx253_0 := pw_cell_below HB.out hx253_0
           replace hx253_1 := pw_cell_below HB.out hx253_1
           replace hx253_2 := pw_cell_below HB.out hx253_2
           replace hx253_3 := pw_cell_below HB.out hx253_3
           replace hx253_4 := pw_cell_below HB.out hx253_4
           replace hx253_5 := pw_cell_below HB.out hx253_5
           replace p253 := eq_true p253
           replace q253 := eq_true q253
           have p256 : 0 ≤ (x10_1 : Int) := of_decide_eq_true (by first | (with_reducible assumption) | assumption)
           have q256 : x10_1 < (l2.length : Int) := of_decide_eq_true (by first | (with_reducible assumption) | assumption)
           obtain ⟨ad256, e256, hx256_0, hx256_1, hx256_2, hx256_3, hx256_4, hx256_5⟩ := at_T43 HR2.out x10_1 p256 q256
           have hw256_5 := hx256_5
           have hw256_4 := hx256_4
           have hw256_3 := hx256_3
           have hw256_2 := hx256_2
           have hw256_1 := hx256_1
           have hw256_0 := hx256_0
           obtain rfl : ad253 = ad256 := (by injection e256)
           replace hx256_0 := pw_cell_below HB.out hx256_0
           replace hx256_1 := pw_cell_below HB.out hx256_1
           replace hx256_2 := pw_cell_below HB.out hx256_2
           replace hx256_3 := pw_cell_below HB.out hx256_3
           replace hx256_4 := pw_cell_below HB.out hx256_4
           replace hx256_5 := pw_cell_below HB.out hx256_5
           replace p256 := eq_true p256
           replace q256 := eq_true q256
           have p255 : 0 ≤ (t254 : Int) := of_decide_eq_true (by first | (with_reducible assumption) | assumption)
           have q255 : t254 < (l1.length : Int) := of_decide_eq_true (by first | (with_reducible assumption) | assumption)
           obtain ⟨ad255, e255, hx255_0, hx255_1, hx255_2, hx255_3⟩ := at_T40 HR1.out t254 p255 q255
           have hw255_3 := hx255_3
           have hw255_2 := hx255_2
           have hw255_1 := hx255_1
           have hw255_0 := hx255_0
           cases e255
           replace hx255_0 := pw_cell_below HB.out hx255_0
           replace hx255_1 := pw_cell_below HB.out hx255_1
           replace hx255_2 := pw_cell_below HB.out hx255_2
           replace hx255_3 := pw_cell_below HB.out hx255_3
           replace p255 := eq_true p255
           replace q255 := eq_true q255
           refine start_ (n := 16) (S := fun w' => w'.cell? (ad253.add ((x10_1).toNat * 6)) = some (.string ((rd_T43 l2 x10_1).f0)) ∧ w'.cell? ⟨(ad253.add ((x10_1).toNat * 6)).block, (ad253.add ((x10_1).toNat * 6)).off + 1, none⟩ = some (.int .i64 ((rd_T43 l2 x10_1).f1)) ∧ w'.cell? ⟨(ad253.add ((x10_1).toNat * 6)).block, (ad253.add ((x10_1).toNat * 6)).off + 2, none⟩ = some (.int .i64 ((rd_T43 l2 x10_1).f2.f0)) ∧ w'.cell? ⟨(ad253.add ((x10_1).toNat * 6)).block, (ad253.add ((x10_1).toNat * 6)).off + 3, none⟩ = some (.int .i64 ((rd_T43 l2 x10_1).f2.f1)) ∧ w'.cell? ⟨(ad253.add ((x10_1).toNat * 6)).block, (ad253.add ((x10_1).toNat * 6)).off + 4, none⟩ = some (.int .u64 ((rd_T43 l2 x10_1).f2.f2)) ∧ w'.cell? ⟨(ad253.add ((x10_1).toNat * 6)).block, (ad253.add ((x10_1).toNat * 6)).off + 5, none⟩ = some (.string ((rd_T43 l2 x10_1).f2.f3)) ∧ w'.cell? (ad253.add ((x10_1).toNat * 6)) = some (.string ((rd_T43 l2 x10_1).f0)) ∧ w'.cell? ⟨(ad253.add ((x10_1).toNat * 6)).block, (ad253.add ((x10_1).toNat * 6)).off + 1, none⟩ = some (.int .i64 ((rd_T43 l2 x10_1).f1)) ∧ w'.cell? ⟨(ad253.add ((x10_1).toNat * 6)).block, (ad253.add ((x10_1).toNat * 6)).off + 2, none⟩ = some (.int .i64 ((rd_T43 l2 x10_1).f2.f0)) ∧ w'.cell? ⟨(ad253.add ((x10_1).toNat * 6)).block, (ad253.add ((x10_1).toNat * 6)).off + 3, none⟩ = some (.int .i64 ((rd_T43 l2 x10_1).f2.f1)) ∧ w'.cell? ⟨(ad253.add ((x10_1).toNat * 6)).block, (ad253.add ((x10_1).toNat * 6)).off + 4, none⟩ = some (.int .u64 ((rd_T43 l2 x10_1).f2.f2)) ∧ w'.cell? ⟨(ad253.add ((x10_1).toNat * 6)).block, (ad253.add ((x10_1).toNat * 6)).off + 5, none⟩ = some (.string ((rd_T43 l2 x10_1).f2.f3)) ∧ w'.cell? (ad255.add ((t254).toNat * 4)) = some (.int .i64 ((rd_T40 l1 t254).f0)) ∧ w'.cell? ⟨(ad255.add ((t254).toNat * 4)).block, (ad255.add ((t254).toNat * 4)).off + 1, none⟩ = some (.int .i64 ((rd_T40 l1 t254).f1)) ∧ w'.cell? ⟨(ad255.add ((t254).toNat * 4)).block, (ad255.add ((t254).toNat * 4)).off + 2, none⟩ = some (.int .u64 ((rd_T40 l1 t254).f2)) ∧ w'.cell? ⟨(ad255.add ((t254).toNat * 4)).block, (ad255.add ((t254).toNat * 4)).off + 3, none⟩ = some (.string ((rd_T40 l1 t254).f3))) (ds := []) #[false, false, false, false, false, false, false, false, false, false, false, false, false, false, false, false] (by kernel_rfl) rfl rfl ⟨(pw_cell_below HB.out hw253_0), (pw_cell_below HB.out hw253_1), (pw_cell_below HB.out hw253_2), (pw_cell_below HB.out hw253_3), (pw_cell_below HB.out hw253_4), (pw_cell_below HB.out hw253_5), (pw_cell_below HB.out hw256_0), (pw_cell_below HB.out hw256_1), (pw_cell_below HB.out hw256_2), (pw_cell_below HB.out hw256_3), (pw_cell_below HB.out hw256_4), (pw_cell_below HB.out hw256_5), (pw_cell_below HB.out hw255_0), (pw_cell_below HB.out hw255_1), (pw_cell_below HB.out hw255_2), (pw_cell_below HB.out hw255_3)⟩ (fun hHeld => ?_); refine with_tabW falseworkref18_Test.tab10 falseworkref18_Test.bits10 (fun HT_ HW_ => ?_)
           generalize wr.drew = w16 at HB hx253_0 hx253_1 hx253_2 hx253_3 hx253_4 hx253_5 hx255_0 hx255_1 hx255_2 hx255_3 hx256_0 hx256_1 hx256_2 hx256_3 hx256_4 hx256_5 hHeld ⊢
           refine pure_ (i := 0) (N := some 29) (v := ?_) (a' := ?_) #[true, false, false, false, false, false, false, false, false, false, false, false, false, false, false, false] rfl rfl (any_of HT_.out (by kernel_rfl)) (fun _ _ _ h => h) (Or.inl ⟨by rfl, ?_⟩) ?_ ?_
           rotate_left
           ·intro w'
            go_simp
            with_reducible rfl
           rotate_left
           ·simp only [Act.put, List.setIfInBounds_toArray, List.set_cons_zero, List.set_cons_succ, i64_w, i32_w]
            rfl
           refine pure_ (i := 1) (N := some 30) (v := ?_) (a' := ?_) #[true, true, false, false, false, false, false, false, false, false, false, false, false, false, false, false] rfl rfl (any_of HT_.out (by kernel_rfl)) (fun _ _ _ h => h) (Or.inl ⟨by rfl, ?_⟩) ?_ ?_
           rotate_left
           ·intro w'
            go_simp
            with_reducible rfl
           rotate_left
           ·simp only [Act.put, List.setIfInBounds_toArray, List.set_cons_zero, List.set_cons_succ, i64_w, i32_w]
            rfl
           refine pure_ (i := 2) (N := some 31) (v := ?_) (a' := ?_) #[true, true, true, false, false, false, false, false, false, false, false, false, false, false, false, false] rfl rfl (any_of HT_.out (by kernel_rfl)) (fun _ _ _ h => h) (Or.inl ⟨by rfl, ?_⟩) ?_ ?_
           rotate_left
           ·intro w'
            go_simp
            with_reducible rfl
           rotate_left
           ·simp only [Act.put, List.setIfInBounds_toArray, List.set_cons_zero, List.set_cons_succ, i64_w, i32_w]
            rfl
           refine pure_ (i := 3) (N := some 32) (v := ?_) (a' := ?_) #[true, true, true, true, false, false, false, false, false, false, false, false, false, false, false, false] rfl rfl (any_of HT_.out (by kernel_rfl)) (fun _ _ _ h => h) (Or.inl ⟨by rfl, ?_⟩) ?_ ?_
           rotate_left
           ·intro w'
            go_simp
            with_reducible rfl
           rotate_left
           ·simp only [Act.put, List.setIfInBounds_toArray, List.set_cons_zero, List.set_cons_succ, i64_w, i32_w]
            rfl
           refine pure_ (i := 4) (N := some 33) (v := ?_) (a' := ?_) #[true, true, true, true, true, false, false, false, false, false, false, false, false, false, false, false] rfl rfl (any_of HT_.out (by kernel_rfl)) (fun _ _ _ h => h) (Or.inl ⟨by rfl, ?_⟩) ?_ ?_
           rotate_left
           ·intro w'
            go_simp
            with_reducible rfl
           rotate_left
           ·simp only [Act.put, List.setIfInBounds_toArray, List.set_cons_zero, List.set_cons_succ, i64_w, i32_w]
            rfl
           refine pure_ (i := 5) (N := some 34) (v := ?_) (a' := ?_) #[true, true, true, true, true, true, false, false, false, false, false, false, false, false, false, false] rfl rfl (any_of HT_.out (by kernel_rfl)) (fun _ _ _ h => h) (Or.inl ⟨by rfl, ?_⟩) ?_ ?_
           rotate_left
           ·intro w'
            go_simp
            with_reducible rfl
           rotate_left
           ·simp only [Act.put, List.setIfInBounds_toArray, List.set_cons_zero, List.set_cons_succ, i64_w, i32_w]
            rfl
           refine pure_ (i := 10) (N := some 39) (v := ?_) (a' := ?_) #[true, true, true, true, true, true, false, false, false, false, true, false, false, false, false, false] rfl rfl (any_of HT_.out (by kernel_rfl)) (fun _ _ _ h => h) (Or.inl ⟨by rfl, ?_⟩) ?_ ?_
           rotate_left
           ·intro w'
            go_simp
            with_reducible rfl
           rotate_left
           ·simp only [Act.put, List.setIfInBounds_toArray, List.set_cons_zero, List.set_cons_succ, i64_w, i32_w]
            rfl
           refine pure_ (i := 11) (N := some 40) (v := ?_) (a' := ?_) #[true, true, true, true, true, true, false, false, false, false, true, true, false, false, false, false] rfl rfl (any_of HT_.out (by kernel_rfl)) (fun _ _ _ h => h) (Or.inl ⟨by rfl, ?_⟩) ?_ ?_
           rotate_left
           ·intro w'
            go_simp
            with_reducible rfl
           rotate_left
           ·simp only [Act.put, List.setIfInBounds_toArray, List.set_cons_zero, List.set_cons_succ, i64_w, i32_w]
            rfl
           refine pure_ (i := 12) (N := some 41) (v := ?_) (a' := ?_) #[true, true, true, true, true, true, false, false, false, false, true, true, true, false, false, false] rfl rfl (any_of HT_.out (by kernel_rfl)) (fun _ _ _ h => h) (Or.inl ⟨by rfl, ?_⟩) ?_ ?_
           rotate_left
           ·intro w'
            go_simp
            with_reducible rfl
           rotate_left
           ·simp only [Act.put, List.setIfInBounds_toArray, List.set_cons_zero, List.set_cons_succ, i64_w, i32_w]
            rfl
           refine take_ (i := 6) (N := some 35) (v := ?_) (a' := ?_) #[true, true, true, true, true, true, true, false, false, false, true, true, true, false, false, false] rfl rfl (take_ofW HT_.out HW_.out (by kernel_rfl)) (fun _ _ _ h => h) (Or.inl ⟨by rfl, ?_⟩) hHeld ?_ ?_
           rotate_left
           ·rintro w' ⟨s0, s1, s2, s3, s4, s5, s6, s7, s8, s9, s10, s11, s12, s13, s14, s15⟩
            go_simp
            with_reducible rfl
           rotate_left
           ·simp only [Act.put, List.setIfInBounds_toArray, List.set_cons_zero, List.set_cons_succ, i64_w, i32_w]
            rfl
           refine take_ (i := 13) (N := some 42) (v := ?_) (a' := ?_) #[true, true, true, true, true, true, true, false, false, false, true, true, true, true, false, false] rfl rfl (take_ofW HT_.out HW_.out (by kernel_rfl)) (fun _ _ _ h => h) (Or.inl ⟨by rfl, ?_⟩) hHeld ?_ ?_
           rotate_left
           ·rintro w' ⟨s0, s1, s2, s3, s4, s5, s6, s7, s8, s9, s10, s11, s12, s13, s14, s15⟩
            go_simp
            with_reducible rfl
           rotate_left
           ·simp only [Act.put, List.setIfInBounds_toArray, List.set_cons_zero, List.set_cons_succ, i64_w, i32_w]
            rfl
           refine one_ (i := 7) (N := some 36) #[true, true, true, true, true, true, true, true, false, false, true, true, true, true, false, false] rfl rfl (one_of HT_.out (by kernel_rfl)) (by decide) (fun K hK => ?_)
           refine goes_ Try.func20 (by kernel_rfl) rfl #[.slice A0 l0.length c0, .string ((rd_T43 l2 x10_1).f0)] (by rfl) rfl rfl (by (try simp only [List.map_toArray, List.map_cons, List.map_nil]); first | done | rfl | (simp only [List.length_drop, List.length_take]; rfl)) ?_
           with_reducible refine (falseworkref18_Shown.calls k1 _ _ l0 ((rd_T43 l2 x10_1).f0) t254 _ ?side1 ?side2 A10.out).mono ?_
           (case side1 => repeat (first | exact (Kd.C_below HR0.out HB.out) | (with_reducible refine Kd.C_alloc ?_ _) | (with_reducible refine Kd.C_drewN ?_ _) | (with_reducible refine Kd.C_drew ?_)))
           (case side2 => exact HC0.out)
           rintro e w' ⟨rfl, ⟨nd, rfl⟩⟩
           refine ⟨_, rfl, ?_⟩
           refine hK.out _ _ ⟨(pw_cell_below HB.out hw253_0), (pw_cell_below HB.out hw253_1), (pw_cell_below HB.out hw253_2), (pw_cell_below HB.out hw253_3), (pw_cell_below HB.out hw253_4), (pw_cell_below HB.out hw253_5), (pw_cell_below HB.out hw256_0), (pw_cell_below HB.out hw256_1), (pw_cell_below HB.out hw256_2), (pw_cell_below HB.out hw256_3), (pw_cell_below HB.out hw256_4), (pw_cell_below HB.out hw256_5), (pw_cell_below HB.out hw255_0), (pw_cell_below HB.out hw255_1), (pw_cell_below HB.out hw255_2), (pw_cell_below HB.out hw255_3)⟩ (fun hHeld => ?_)
           clear hK K
           refine norm_ (a' := ?_) ?_ ?_
           rotate_left
           ·show Act.put _ (some 36) _ = _
            simp only [Act.put, List.setIfInBounds_toArray, List.set_cons_zero, List.set_cons_succ, i64_w, i32_w]
            rfl
           refine pure_ (i := 8) (N := some 37) (v := ?_) (a' := ?_) #[true, true, true, true, true, true, true, true, true, false, true, true, true, true, false, false] rfl rfl (any_of HT_.out (by kernel_rfl)) (fun _ _ _ h => h) (Or.inl ⟨by rfl, ?_⟩) ?_ ?_
           rotate_left
           ·intro w'
            go_simp
            with_reducible rfl
           rotate_left
           ·simp only [Act.put, List.setIfInBounds_toArray, List.set_cons_zero, List.set_cons_succ, i64_w, i32_w]
            rfl
           refine take_ (i := 9) (N := some 38) (v := ?_) (a' := ?_) #[true, true, true, true, true, true, true, true, true, true, true, true, true, true, false, false] rfl rfl (take_ofW HT_.out HW_.out (by kernel_rfl)) (fun _ _ _ h => h) (Or.inl ⟨by rfl, ?_⟩) hHeld ?_ ?_
           rotate_left
           ·rintro w' ⟨s0, s1, s2, s3, s4, s5, s6, s7, s8, s9, s10, s11, s12, s13, s14, s15⟩
            go_simp
            with_reducible rfl
           rotate_left
           ·simp only [Act.put, List.setIfInBounds_toArray, List.set_cons_zero, List.set_cons_succ, i64_w, i32_w]
            rfl
           refine one_ (i := 14) (N := some 43) #[true, true, true, true, true, true, true, true, true, true, true, true, true, true, true, false] rfl rfl (one_of HT_.out (by kernel_rfl)) (by decide) (fun K hK => ?_)
           refine goes_ Try.func23 (by kernel_rfl) rfl #[.agg #[.int .i64 ((rd_T40 l1 t254).f0), .int .i64 ((rd_T40 l1 t254).f1), .int .u64 ((rd_T40 l1 t254).f2), .string ((rd_T40 l1 t254).f3)], .agg #[.string ((rd_T43 l2 x10_1).f0), .int .i64 ((rd_T43 l2 x10_1).f1), .int .i64 ((rd_T43 l2 x10_1).f2.f0), .int .i64 ((rd_T43 l2 x10_1).f2.f1), .int .u64 ((rd_T43 l2 x10_1).f2.f2), .string ((rd_T43 l2 x10_1).f2.f3)]] (by rfl) rfl rfl (by (try simp only [List.map_toArray, List.map_cons, List.map_nil]); first | done | rfl | (simp only [List.length_drop, List.length_take]; rfl)) ?_
           with_reducible refine (falseworkref18_one.calls k1 ((rd_T40 l1 t254).f0) ((rd_T40 l1 t254).f1) ((rd_T40 l1 t254).f2) ((rd_T40 l1 t254).f3) ((rd_T43 l2 x10_1).f0) ((rd_T43 l2 x10_1).f1) ((rd_T43 l2 x10_1).f2.f0) ((rd_T43 l2 x10_1).f2.f1) ((rd_T43 l2 x10_1).f2.f2) ((rd_T43 l2 x10_1).f2.f3) t257 _ A13.out).mono ?_
           rintro e w17 ⟨rfl, hb⟩
           refine ⟨_, rfl, ?_⟩
           have n0_ := Aside0.mk (zS (by repeat (first | (with_reducible first | exact HB.out | apply zA | apply zN | apply zD) | exact HB.out)) hb)
           clear HB
           have HB := n0_
           clear n0_
           (try clear hb)
           (try clear hb2)
           (try clear hk)
           (try clear hi)
           refine hK.out _ _ ⟨(pw_cell_below HB.out hw253_0), (pw_cell_below HB.out hw253_1), (pw_cell_below HB.out hw253_2), (pw_cell_below HB.out hw253_3), (pw_cell_below HB.out hw253_4), (pw_cell_below HB.out hw253_5), (pw_cell_below HB.out hw256_0), (pw_cell_below HB.out hw256_1), (pw_cell_below HB.out hw256_2), (pw_cell_below HB.out hw256_3), (pw_cell_below HB.out hw256_4), (pw_cell_below HB.out hw256_5), (pw_cell_below HB.out hw255_0), (pw_cell_below HB.out hw255_1), (pw_cell_below HB.out hw255_2), (pw_cell_below HB.out hw255_3)⟩ (fun hHeld => ?_)
           clear hK K
           refine norm_ (a' := ?_) ?_ ?_
           rotate_left
           ·show Act.put _ (some 43) _ = _
            simp only [Act.put, List.setIfInBounds_toArray, List.set_cons_zero, List.set_cons_succ, i64_w, i32_w]
            rfl
           refine pure_ (i := 15) (N := some 11) (v := ?_) (a' := ?_) #[true, true, true, true, true, true, true, true, true, true, true, true, true, true, true, true] rfl rfl (any_of HT_.out (by kernel_rfl)) (fun _ _ _ h => h) (Or.inl ⟨by rfl, ?_⟩) ?_ ?_
           rotate_left
           ·intro w'
            go_simp
            with_reducible rfl
           rotate_left
           ·simp only [Act.put, List.setIfInBounds_toArray, List.set_cons_zero, List.set_cons_succ, i64_w, i32_w]
            rfl
           refine done_ (done_of HT_.out (by kernel_rfl)) ?_
           try go_wp2
           go_roundg k1
           case measure => have := HK1.out; omega
           case rel => exact ⟨(0), (wrap64 (x10_1 + 1)), (by first | rfl | (simp; done) | (simp [*]; done)), (by first | rfl | (simp; done) | (simp [*]; done)), H', ⟨by have := HK1.out; omega⟩, ⟨by repeat (first | (with_reducible first | exact HB.out | apply zA | apply zN | apply zD) | exact HB.out)⟩⟩
          ·rw [if_neg c15] at H
           have c15b0 : decide (t257 < 0) = false := decide_eq_false c15
           clear c15
           have H' := Aside0.mk H
           clear H
           try go_wp2
           have n0_ := Aside0.mk (zD HB.out)
           clear HB
           have HB := n0_
           clear n0_
           have p253 : 0 ≤ (x10_1 : Int) := of_decide_eq_true (by first | (with_reducible assumption) | assumption)
           have q253 : x10_1 < (l2.length : Int) := of_decide_eq_true (by first | (with_reducible assumption) | assumption)
           obtain ⟨ad253, e253, hx253_0, hx253_1, hx253_2, hx253_3, hx253_4, hx253_5⟩ := at_T43 HR2.out x10_1 p253 q253
           have hw253_5 := hx253_5
           have hw253_4 := hx253_4
           have hw253_3 := hx253_3
           have hw253_2 := hx253_2
           have hw253_1 := hx253_1
           have hw253_0 := hx253_0
           cases e253
           replace hx253_0 := pw_cell_below HB.out hx253_0
           replace hx253_1 := pw_cell_below HB.out hx253_1
           replace hx253_2 := pw_cell_below HB.out hx253_2
           replace hx253_3 := pw_cell_below HB.out hx253_3
           replace hx253_4 := pw_cell_below HB.out hx253_4
           replace hx253_5 := pw_cell_below HB.out hx253_5
           replace p253 := eq_true p253
           replace q253 := eq_true q253
           have p256 : 0 ≤ (x10_1 : Int) := of_decide_eq_true (by first | (with_reducible assumption) | assumption)
           have q256 : x10_1 < (l2.length : Int) := of_decide_eq_true (by first | (with_reducible assumption) | assumption)
           obtain ⟨ad256, e256, hx256_0, hx256_1, hx256_2, hx256_3, hx256_4, hx256_5⟩ := at_T43 HR2.out x10_1 p256 q256
           have hw256_5 := hx256_5
           have hw256_4 := hx256_4
           have hw256_3 := hx256_3
           have hw256_2 := hx256_2
           have hw256_1 := hx256_1
           have hw256_0 := hx256_0
           obtain rfl : ad253 = ad256 := (by injection e256)
           replace hx256_0 := pw_cell_below HB.out hx256_0
           replace hx256_1 := pw_cell_below HB.out hx256_1
           replace hx256_2 := pw_cell_below HB.out hx256_2
           replace hx256_3 := pw_cell_below HB.out hx256_3
           replace hx256_4 := pw_cell_below HB.out hx256_4
           replace hx256_5 := pw_cell_below HB.out hx256_5
           replace p256 := eq_true p256
           replace q256 := eq_true q256
           have p255 : 0 ≤ (t254 : Int) := of_decide_eq_true (by first | (with_reducible assumption) | assumption)
           have q255 : t254 < (l1.length : Int) := of_decide_eq_true (by first | (with_reducible assumption) | assumption)
           obtain ⟨ad255, e255, hx255_0, hx255_1, hx255_2, hx255_3⟩ := at_T40 HR1.out t254 p255 q255
           have hw255_3 := hx255_3
           have hw255_2 := hx255_2
           have hw255_1 := hx255_1
           have hw255_0 := hx255_0
           cases e255
           replace hx255_0 := pw_cell_below HB.out hx255_0
           replace hx255_1 := pw_cell_below HB.out hx255_1
           replace hx255_2 := pw_cell_below HB.out hx255_2
           replace hx255_3 := pw_cell_below HB.out hx255_3
           replace p255 := eq_true p255
           replace q255 := eq_true q255
           refine start_ (n := 16) (S := fun w' => w'.cell? (ad253.add ((x10_1).toNat * 6)) = some (.string ((rd_T43 l2 x10_1).f0)) ∧ w'.cell? ⟨(ad253.add ((x10_1).toNat * 6)).block, (ad253.add ((x10_1).toNat * 6)).off + 1, none⟩ = some (.int .i64 ((rd_T43 l2 x10_1).f1)) ∧ w'.cell? ⟨(ad253.add ((x10_1).toNat * 6)).block, (ad253.add ((x10_1).toNat * 6)).off + 2, none⟩ = some (.int .i64 ((rd_T43 l2 x10_1).f2.f0)) ∧ w'.cell? ⟨(ad253.add ((x10_1).toNat * 6)).block, (ad253.add ((x10_1).toNat * 6)).off + 3, none⟩ = some (.int .i64 ((rd_T43 l2 x10_1).f2.f1)) ∧ w'.cell? ⟨(ad253.add ((x10_1).toNat * 6)).block, (ad253.add ((x10_1).toNat * 6)).off + 4, none⟩ = some (.int .u64 ((rd_T43 l2 x10_1).f2.f2)) ∧ w'.cell? ⟨(ad253.add ((x10_1).toNat * 6)).block, (ad253.add ((x10_1).toNat * 6)).off + 5, none⟩ = some (.string ((rd_T43 l2 x10_1).f2.f3)) ∧ w'.cell? (ad253.add ((x10_1).toNat * 6)) = some (.string ((rd_T43 l2 x10_1).f0)) ∧ w'.cell? ⟨(ad253.add ((x10_1).toNat * 6)).block, (ad253.add ((x10_1).toNat * 6)).off + 1, none⟩ = some (.int .i64 ((rd_T43 l2 x10_1).f1)) ∧ w'.cell? ⟨(ad253.add ((x10_1).toNat * 6)).block, (ad253.add ((x10_1).toNat * 6)).off + 2, none⟩ = some (.int .i64 ((rd_T43 l2 x10_1).f2.f0)) ∧ w'.cell? ⟨(ad253.add ((x10_1).toNat * 6)).block, (ad253.add ((x10_1).toNat * 6)).off + 3, none⟩ = some (.int .i64 ((rd_T43 l2 x10_1).f2.f1)) ∧ w'.cell? ⟨(ad253.add ((x10_1).toNat * 6)).block, (ad253.add ((x10_1).toNat * 6)).off + 4, none⟩ = some (.int .u64 ((rd_T43 l2 x10_1).f2.f2)) ∧ w'.cell? ⟨(ad253.add ((x10_1).toNat * 6)).block, (ad253.add ((x10_1).toNat * 6)).off + 5, none⟩ = some (.string ((rd_T43 l2 x10_1).f2.f3)) ∧ w'.cell? (ad255.add ((t254).toNat * 4)) = some (.int .i64 ((rd_T40 l1 t254).f0)) ∧ w'.cell? ⟨(ad255.add ((t254).toNat * 4)).block, (ad255.add ((t254).toNat * 4)).off + 1, none⟩ = some (.int .i64 ((rd_T40 l1 t254).f1)) ∧ w'.cell? ⟨(ad255.add ((t254).toNat * 4)).block, (ad255.add ((t254).toNat * 4)).off + 2, none⟩ = some (.int .u64 ((rd_T40 l1 t254).f2)) ∧ w'.cell? ⟨(ad255.add ((t254).toNat * 4)).block, (ad255.add ((t254).toNat * 4)).off + 3, none⟩ = some (.string ((rd_T40 l1 t254).f3))) (ds := []) #[false, false, false, false, false, false, false, false, false, false, false, false, false, false, false, false] (by kernel_rfl) rfl rfl ⟨(pw_cell_below HB.out hw253_0), (pw_cell_below HB.out hw253_1), (pw_cell_below HB.out hw253_2), (pw_cell_below HB.out hw253_3), (pw_cell_below HB.out hw253_4), (pw_cell_below HB.out hw253_5), (pw_cell_below HB.out hw256_0), (pw_cell_below HB.out hw256_1), (pw_cell_below HB.out hw256_2), (pw_cell_below HB.out hw256_3), (pw_cell_below HB.out hw256_4), (pw_cell_below HB.out hw256_5), (pw_cell_below HB.out hw255_0), (pw_cell_below HB.out hw255_1), (pw_cell_below HB.out hw255_2), (pw_cell_below HB.out hw255_3)⟩ (fun hHeld => ?_); refine with_tabW falseworkref18_Test.tab10 falseworkref18_Test.bits10 (fun HT_ HW_ => ?_)
           generalize wr.drew = w18 at HB hx253_0 hx253_1 hx253_2 hx253_3 hx253_4 hx253_5 hx255_0 hx255_1 hx255_2 hx255_3 hx256_0 hx256_1 hx256_2 hx256_3 hx256_4 hx256_5 hHeld ⊢
           refine pure_ (i := 0) (N := some 29) (v := ?_) (a' := ?_) #[true, false, false, false, false, false, false, false, false, false, false, false, false, false, false, false] rfl rfl (any_of HT_.out (by kernel_rfl)) (fun _ _ _ h => h) (Or.inl ⟨by rfl, ?_⟩) ?_ ?_
           rotate_left
           ·intro w'
            go_simp
            with_reducible rfl
           rotate_left
           ·simp only [Act.put, List.setIfInBounds_toArray, List.set_cons_zero, List.set_cons_succ, i64_w, i32_w]
            rfl
           refine pure_ (i := 1) (N := some 30) (v := ?_) (a' := ?_) #[true, true, false, false, false, false, false, false, false, false, false, false, false, false, false, false] rfl rfl (any_of HT_.out (by kernel_rfl)) (fun _ _ _ h => h) (Or.inl ⟨by rfl, ?_⟩) ?_ ?_
           rotate_left
           ·intro w'
            go_simp
            with_reducible rfl
           rotate_left
           ·simp only [Act.put, List.setIfInBounds_toArray, List.set_cons_zero, List.set_cons_succ, i64_w, i32_w]
            rfl
           refine pure_ (i := 2) (N := some 31) (v := ?_) (a' := ?_) #[true, true, true, false, false, false, false, false, false, false, false, false, false, false, false, false] rfl rfl (any_of HT_.out (by kernel_rfl)) (fun _ _ _ h => h) (Or.inl ⟨by rfl, ?_⟩) ?_ ?_
           rotate_left
           ·intro w'
            go_simp
            with_reducible rfl
           rotate_left
           ·simp only [Act.put, List.setIfInBounds_toArray, List.set_cons_zero, List.set_cons_succ, i64_w, i32_w]
            rfl
           refine pure_ (i := 3) (N := some 32) (v := ?_) (a' := ?_) #[true, true, true, true, false, false, false, false, false, false, false, false, false, false, false, false] rfl rfl (any_of HT_.out (by kernel_rfl)) (fun _ _ _ h => h) (Or.inl ⟨by rfl, ?_⟩) ?_ ?_
           rotate_left
           ·intro w'
            go_simp
            with_reducible rfl
           rotate_left
           ·simp only [Act.put, List.setIfInBounds_toArray, List.set_cons_zero, List.set_cons_succ, i64_w, i32_w]
            rfl
           refine pure_ (i := 4) (N := some 33) (v := ?_) (a' := ?_) #[true, true, true, true, true, false, false, false, false, false, false, false, false, false, false, false] rfl rfl (any_of HT_.out (by kernel_rfl)) (fun _ _ _ h => h) (Or.inl ⟨by rfl, ?_⟩) ?_ ?_
           rotate_left
           ·intro w'
            go_simp
            with_reducible rfl
           rotate_left
           ·simp only [Act.put, List.setIfInBounds_toArray, List.set_cons_zero, List.set_cons_succ, i64_w, i32_w]
            rfl
           refine pure_ (i := 5) (N := some 34) (v := ?_) (a' := ?_) #[true, true, true, true, true, true, false, false, false, false, false, false, false, false, false, false] rfl rfl (any_of HT_.out (by kernel_rfl)) (fun _ _ _ h => h) (Or.inl ⟨by rfl, ?_⟩) ?_ ?_
           rotate_left
           ·intro w'
            go_simp
            with_reducible rfl
           rotate_left
           ·simp only [Act.put, List.setIfInBounds_toArray, List.set_cons_zero, List.set_cons_succ, i64_w, i32_w]
            rfl
           refine pure_ (i := 10) (N := some 39) (v := ?_) (a' := ?_) #[true, true, true, true, true, true, false, false, false, false, true, false, false, false, false, false] rfl rfl (any_of HT_.out (by kernel_rfl)) (fun _ _ _ h => h) (Or.inl ⟨by rfl, ?_⟩) ?_ ?_
           rotate_left
           ·intro w'
            go_simp
            with_reducible rfl
           rotate_left
           ·simp only [Act.put, List.setIfInBounds_toArray, List.set_cons_zero, List.set_cons_succ, i64_w, i32_w]
            rfl
           refine pure_ (i := 11) (N := some 40) (v := ?_) (a' := ?_) #[true, true, true, true, true, true, false, false, false, false, true, true, false, false, false, false] rfl rfl (any_of HT_.out (by kernel_rfl)) (fun _ _ _ h => h) (Or.inl ⟨by rfl, ?_⟩) ?_ ?_
           rotate_left
           ·intro w'
            go_simp
            with_reducible rfl
           rotate_left
           ·simp only [Act.put, List.setIfInBounds_toArray, List.set_cons_zero, List.set_cons_succ, i64_w, i32_w]
            rfl
           refine pure_ (i := 12) (N := some 41) (v := ?_) (a' := ?_) #[true, true, true, true, true, true, false, false, false, false, true, true, true, false, false, false] rfl rfl (any_of HT_.out (by kernel_rfl)) (fun _ _ _ h => h) (Or.inl ⟨by rfl, ?_⟩) ?_ ?_
           rotate_left
           ·intro w'
            go_simp
            with_reducible rfl
           rotate_left
           ·simp only [Act.put, List.setIfInBounds_toArray, List.set_cons_zero, List.set_cons_succ, i64_w, i32_w]
            rfl
           refine take_ (i := 6) (N := some 35) (v := ?_) (a' := ?_) #[true, true, true, true, true, true, true, false, false, false, true, true, true, false, false, false] rfl rfl (take_ofW HT_.out HW_.out (by kernel_rfl)) (fun _ _ _ h => h) (Or.inl ⟨by rfl, ?_⟩) hHeld ?_ ?_
           rotate_left
           ·rintro w' ⟨s0, s1, s2, s3, s4, s5, s6, s7, s8, s9, s10, s11, s12, s13, s14, s15⟩
            go_simp
            with_reducible rfl
           rotate_left
           ·simp only [Act.put, List.setIfInBounds_toArray, List.set_cons_zero, List.set_cons_succ, i64_w, i32_w]
            rfl
           refine take_ (i := 13) (N := some 42) (v := ?_) (a' := ?_) #[true, true, true, true, true, true, true, false, false, false, true, true, true, true, false, false] rfl rfl (take_ofW HT_.out HW_.out (by kernel_rfl)) (fun _ _ _ h => h) (Or.inl ⟨by rfl, ?_⟩) hHeld ?_ ?_
           rotate_left
           ·rintro w' ⟨s0, s1, s2, s3, s4, s5, s6, s7, s8, s9, s10, s11, s12, s13, s14, s15⟩
            go_simp
            with_reducible rfl
           rotate_left
           ·simp only [Act.put, List.setIfInBounds_toArray, List.set_cons_zero, List.set_cons_succ, i64_w, i32_w]
            rfl
           refine one_ (i := 7) (N := some 36) #[true, true, true, true, true, true, true, true, false, false, true, true, true, true, false, false] rfl rfl (one_of HT_.out (by kernel_rfl)) (by decide) (fun K hK => ?_)
           refine goes_ Try.func20 (by kernel_rfl) rfl #[.slice A0 l0.length c0, .string ((rd_T43 l2 x10_1).f0)] (by rfl) rfl rfl (by (try simp only [List.map_toArray, List.map_cons, List.map_nil]); first | done | rfl | (simp only [List.length_drop, List.length_take]; rfl)) ?_
           with_reducible refine (falseworkref18_Shown.calls k1 _ _ l0 ((rd_T43 l2 x10_1).f0) t254 _ ?side1 ?side2 A10.out).mono ?_
           (case side1 => repeat (first | exact (Kd.C_below HR0.out HB.out) | (with_reducible refine Kd.C_alloc ?_ _) | (with_reducible refine Kd.C_drewN ?_ _) | (with_reducible refine Kd.C_drew ?_)))
           (case side2 => exact HC0.out)
           rintro e w' ⟨rfl, ⟨nd, rfl⟩⟩
           refine ⟨_, rfl, ?_⟩
           refine hK.out _ _ ⟨(pw_cell_below HB.out hw253_0), (pw_cell_below HB.out hw253_1), (pw_cell_below HB.out hw253_2), (pw_cell_below HB.out hw253_3), (pw_cell_below HB.out hw253_4), (pw_cell_below HB.out hw253_5), (pw_cell_below HB.out hw256_0), (pw_cell_below HB.out hw256_1), (pw_cell_below HB.out hw256_2), (pw_cell_below HB.out hw256_3), (pw_cell_below HB.out hw256_4), (pw_cell_below HB.out hw256_5), (pw_cell_below HB.out hw255_0), (pw_cell_below HB.out hw255_1), (pw_cell_below HB.out hw255_2), (pw_cell_below HB.out hw255_3)⟩ (fun hHeld => ?_)
           clear hK K
           refine norm_ (a' := ?_) ?_ ?_
           rotate_left
           ·show Act.put _ (some 36) _ = _
            simp only [Act.put, List.setIfInBounds_toArray, List.set_cons_zero, List.set_cons_succ, i64_w, i32_w]
            rfl
           refine pure_ (i := 8) (N := some 37) (v := ?_) (a' := ?_) #[true, true, true, true, true, true, true, true, true, false, true, true, true, true, false, false] rfl rfl (any_of HT_.out (by kernel_rfl)) (fun _ _ _ h => h) (Or.inl ⟨by rfl, ?_⟩) ?_ ?_
           rotate_left
           ·intro w'
            go_simp
            with_reducible rfl
           rotate_left
           ·simp only [Act.put, List.setIfInBounds_toArray, List.set_cons_zero, List.set_cons_succ, i64_w, i32_w]
            rfl
           refine take_ (i := 9) (N := some 38) (v := ?_) (a' := ?_) #[true, true, true, true, true, true, true, true, true, true, true, true, true, true, false, false] rfl rfl (take_ofW HT_.out HW_.out (by kernel_rfl)) (fun _ _ _ h => h) (Or.inl ⟨by rfl, ?_⟩) hHeld ?_ ?_
           rotate_left
           ·rintro w' ⟨s0, s1, s2, s3, s4, s5, s6, s7, s8, s9, s10, s11, s12, s13, s14, s15⟩
            go_simp
            with_reducible rfl
           rotate_left
           ·simp only [Act.put, List.setIfInBounds_toArray, List.set_cons_zero, List.set_cons_succ, i64_w, i32_w]
            rfl
           refine one_ (i := 14) (N := some 43) #[true, true, true, true, true, true, true, true, true, true, true, true, true, true, true, false] rfl rfl (one_of HT_.out (by kernel_rfl)) (by decide) (fun K hK => ?_)
           refine goes_ Try.func23 (by kernel_rfl) rfl #[.agg #[.int .i64 ((rd_T40 l1 t254).f0), .int .i64 ((rd_T40 l1 t254).f1), .int .u64 ((rd_T40 l1 t254).f2), .string ((rd_T40 l1 t254).f3)], .agg #[.string ((rd_T43 l2 x10_1).f0), .int .i64 ((rd_T43 l2 x10_1).f1), .int .i64 ((rd_T43 l2 x10_1).f2.f0), .int .i64 ((rd_T43 l2 x10_1).f2.f1), .int .u64 ((rd_T43 l2 x10_1).f2.f2), .string ((rd_T43 l2 x10_1).f2.f3)]] (by rfl) rfl rfl (by (try simp only [List.map_toArray, List.map_cons, List.map_nil]); first | done | rfl | (simp only [List.length_drop, List.length_take]; rfl)) ?_
           with_reducible refine (falseworkref18_one.calls k1 ((rd_T40 l1 t254).f0) ((rd_T40 l1 t254).f1) ((rd_T40 l1 t254).f2) ((rd_T40 l1 t254).f3) ((rd_T43 l2 x10_1).f0) ((rd_T43 l2 x10_1).f1) ((rd_T43 l2 x10_1).f2.f0) ((rd_T43 l2 x10_1).f2.f1) ((rd_T43 l2 x10_1).f2.f2) ((rd_T43 l2 x10_1).f2.f3) t257 _ A13.out).mono ?_
           rintro e w19 ⟨rfl, hb⟩
           refine ⟨_, rfl, ?_⟩
           have n0_ := Aside0.mk (zS (by repeat (first | (with_reducible first | exact HB.out | apply zA | apply zN | apply zD) | exact HB.out)) hb)
           clear HB
           have HB := n0_
           clear n0_
           (try clear hb)
           (try clear hb2)
           (try clear hk)
           (try clear hi)
           refine hK.out _ _ ⟨(pw_cell_below HB.out hw253_0), (pw_cell_below HB.out hw253_1), (pw_cell_below HB.out hw253_2), (pw_cell_below HB.out hw253_3), (pw_cell_below HB.out hw253_4), (pw_cell_below HB.out hw253_5), (pw_cell_below HB.out hw256_0), (pw_cell_below HB.out hw256_1), (pw_cell_below HB.out hw256_2), (pw_cell_below HB.out hw256_3), (pw_cell_below HB.out hw256_4), (pw_cell_below HB.out hw256_5), (pw_cell_below HB.out hw255_0), (pw_cell_below HB.out hw255_1), (pw_cell_below HB.out hw255_2), (pw_cell_below HB.out hw255_3)⟩ (fun hHeld => ?_)
           clear hK K
           refine norm_ (a' := ?_) ?_ ?_
           rotate_left
           ·show Act.put _ (some 43) _ = _
            simp only [Act.put, List.setIfInBounds_toArray, List.set_cons_zero, List.set_cons_succ, i64_w, i32_w]
            rfl
           refine pure_ (i := 15) (N := some 11) (v := ?_) (a' := ?_) #[true, true, true, true, true, true, true, true, true, true, true, true, true, true, true, true] rfl rfl (any_of HT_.out (by kernel_rfl)) (fun _ _ _ h => h) (Or.inl ⟨by rfl, ?_⟩) ?_ ?_
           rotate_left
           ·intro w'
            go_simp
            with_reducible rfl
           rotate_left
           ·simp only [Act.put, List.setIfInBounds_toArray, List.set_cons_zero, List.set_cons_succ, i64_w, i32_w]
            rfl
           refine done_ (done_of HT_.out (by kernel_rfl)) ?_
           try go_wp2
           go_roundg k1
           case measure => have := HK1.out; omega
           case rel => exact ⟨(0), (wrap64 (x10_1 + 1)), (by first | rfl | (simp; done) | (simp [*]; done)), (by first | rfl | (simp; done) | (simp [*]; done)), H', ⟨by have := HK1.out; omega⟩, ⟨by repeat (first | (with_reducible first | exact HB.out | apply zA | apply zN | apply zD) | exact HB.out)⟩⟩
         ·rw [if_neg c14] at H
          have c14b0 : (t257 == 0) = false := beq_eq_false_iff_ne.mpr c14
          have c14b1 : (t257 != 0) = true := bne_iff_ne.mpr c14
          by_cases c20 : t257 < 0
          ·rw [if_pos c20] at H
           have c20b0 : decide (t257 < 0) = true := decide_eq_true c20
           clear c20
           by_cases c21 : x9_1 = 0
           ·rw [if_pos c21] at H
            have c21b0 : (x9_1 == 0) = true := beq_iff_eq.mpr c21
            have c21b1 : (x9_1 != 0) = false := bne_eq_false_iff_eq.mpr c21
            clear c21
            have H' := Aside0.mk H
            clear H
            try go_wp2
            have n0_ := Aside0.mk (zD HB.out)
            clear HB
            have HB := n0_
            clear n0_
            have p253 : 0 ≤ (x10_1 : Int) := of_decide_eq_true (by first | (with_reducible assumption) | assumption)
            have q253 : x10_1 < (l2.length : Int) := of_decide_eq_true (by first | (with_reducible assumption) | assumption)
            obtain ⟨ad253, e253, hx253_0, hx253_1, hx253_2, hx253_3, hx253_4, hx253_5⟩ := at_T43 HR2.out x10_1 p253 q253
            have hw253_5 := hx253_5
            have hw253_4 := hx253_4
            have hw253_3 := hx253_3
            have hw253_2 := hx253_2
            have hw253_1 := hx253_1
            have hw253_0 := hx253_0
            cases e253
            replace hx253_0 := pw_cell_below HB.out hx253_0
            replace hx253_1 := pw_cell_below HB.out hx253_1
            replace hx253_2 := pw_cell_below HB.out hx253_2
            replace hx253_3 := pw_cell_below HB.out hx253_3
            replace hx253_4 := pw_cell_below HB.out hx253_4
            replace hx253_5 := pw_cell_below HB.out hx253_5
            replace p253 := eq_true p253
            replace q253 := eq_true q253
            have p256 : 0 ≤ (x10_1 : Int) := of_decide_eq_true (by first | (with_reducible assumption) | assumption)
            have q256 : x10_1 < (l2.length : Int) := of_decide_eq_true (by first | (with_reducible assumption) | assumption)
            obtain ⟨ad256, e256, hx256_0, hx256_1, hx256_2, hx256_3, hx256_4, hx256_5⟩ := at_T43 HR2.out x10_1 p256 q256
            have hw256_5 := hx256_5
            have hw256_4 := hx256_4
            have hw256_3 := hx256_3
            have hw256_2 := hx256_2
            have hw256_1 := hx256_1
            have hw256_0 := hx256_0
            obtain rfl : ad253 = ad256 := (by injection e256)
            replace hx256_0 := pw_cell_below HB.out hx256_0
            replace hx256_1 := pw_cell_below HB.out hx256_1
            replace hx256_2 := pw_cell_below HB.out hx256_2
            replace hx256_3 := pw_cell_below HB.out hx256_3
            replace hx256_4 := pw_cell_below HB.out hx256_4
            replace hx256_5 := pw_cell_below HB.out hx256_5
            replace p256 := eq_true p256
            replace q256 := eq_true q256
            have p255 : 0 ≤ (t254 : Int) := of_decide_eq_true (by first | (with_reducible assumption) | assumption)
            have q255 : t254 < (l1.length : Int) := of_decide_eq_true (by first | (with_reducible assumption) | assumption)
            obtain ⟨ad255, e255, hx255_0, hx255_1, hx255_2, hx255_3⟩ := at_T40 HR1.out t254 p255 q255
            have hw255_3 := hx255_3
            have hw255_2 := hx255_2
            have hw255_1 := hx255_1
            have hw255_0 := hx255_0
            cases e255
            replace hx255_0 := pw_cell_below HB.out hx255_0
            replace hx255_1 := pw_cell_below HB.out hx255_1
            replace hx255_2 := pw_cell_below HB.out hx255_2
            replace hx255_3 := pw_cell_below HB.out hx255_3
            replace p255 := eq_true p255
            replace q255 := eq_true q255
            refine start_ (n := 16) (S := fun w' => w'.cell? (ad253.add ((x10_1).toNat * 6)) = some (.string ((rd_T43 l2 x10_1).f0)) ∧ w'.cell? ⟨(ad253.add ((x10_1).toNat * 6)).block, (ad253.add ((x10_1).toNat * 6)).off + 1, none⟩ = some (.int .i64 ((rd_T43 l2 x10_1).f1)) ∧ w'.cell? ⟨(ad253.add ((x10_1).toNat * 6)).block, (ad253.add ((x10_1).toNat * 6)).off + 2, none⟩ = some (.int .i64 ((rd_T43 l2 x10_1).f2.f0)) ∧ w'.cell? ⟨(ad253.add ((x10_1).toNat * 6)).block, (ad253.add ((x10_1).toNat * 6)).off + 3, none⟩ = some (.int .i64 ((rd_T43 l2 x10_1).f2.f1)) ∧ w'.cell? ⟨(ad253.add ((x10_1).toNat * 6)).block, (ad253.add ((x10_1).toNat * 6)).off + 4, none⟩ = some (.int .u64 ((rd_T43 l2 x10_1).f2.f2)) ∧ w'.cell? ⟨(ad253.add ((x10_1).toNat * 6)).block, (ad253.add ((x10_1).toNat * 6)).off + 5, none⟩ = some (.string ((rd_T43 l2 x10_1).f2.f3)) ∧ w'.cell? (ad253.add ((x10_1).toNat * 6)) = some (.string ((rd_T43 l2 x10_1).f0)) ∧ w'.cell? ⟨(ad253.add ((x10_1).toNat * 6)).block, (ad253.add ((x10_1).toNat * 6)).off + 1, none⟩ = some (.int .i64 ((rd_T43 l2 x10_1).f1)) ∧ w'.cell? ⟨(ad253.add ((x10_1).toNat * 6)).block, (ad253.add ((x10_1).toNat * 6)).off + 2, none⟩ = some (.int .i64 ((rd_T43 l2 x10_1).f2.f0)) ∧ w'.cell? ⟨(ad253.add ((x10_1).toNat * 6)).block, (ad253.add ((x10_1).toNat * 6)).off + 3, none⟩ = some (.int .i64 ((rd_T43 l2 x10_1).f2.f1)) ∧ w'.cell? ⟨(ad253.add ((x10_1).toNat * 6)).block, (ad253.add ((x10_1).toNat * 6)).off + 4, none⟩ = some (.int .u64 ((rd_T43 l2 x10_1).f2.f2)) ∧ w'.cell? ⟨(ad253.add ((x10_1).toNat * 6)).block, (ad253.add ((x10_1).toNat * 6)).off + 5, none⟩ = some (.string ((rd_T43 l2 x10_1).f2.f3)) ∧ w'.cell? (ad255.add ((t254).toNat * 4)) = some (.int .i64 ((rd_T40 l1 t254).f0)) ∧ w'.cell? ⟨(ad255.add ((t254).toNat * 4)).block, (ad255.add ((t254).toNat * 4)).off + 1, none⟩ = some (.int .i64 ((rd_T40 l1 t254).f1)) ∧ w'.cell? ⟨(ad255.add ((t254).toNat * 4)).block, (ad255.add ((t254).toNat * 4)).off + 2, none⟩ = some (.int .u64 ((rd_T40 l1 t254).f2)) ∧ w'.cell? ⟨(ad255.add ((t254).toNat * 4)).block, (ad255.add ((t254).toNat * 4)).off + 3, none⟩ = some (.string ((rd_T40 l1 t254).f3))) (ds := []) #[false, false, false, false, false, false, false, false, false, false, false, false, false, false, false, false] (by kernel_rfl) rfl rfl ⟨(pw_cell_below HB.out hw253_0), (pw_cell_below HB.out hw253_1), (pw_cell_below HB.out hw253_2), (pw_cell_below HB.out hw253_3), (pw_cell_below HB.out hw253_4), (pw_cell_below HB.out hw253_5), (pw_cell_below HB.out hw256_0), (pw_cell_below HB.out hw256_1), (pw_cell_below HB.out hw256_2), (pw_cell_below HB.out hw256_3), (pw_cell_below HB.out hw256_4), (pw_cell_below HB.out hw256_5), (pw_cell_below HB.out hw255_0), (pw_cell_below HB.out hw255_1), (pw_cell_below HB.out hw255_2), (pw_cell_below HB.out hw255_3)⟩ (fun hHeld => ?_); refine with_tabW falseworkref18_Test.tab10 falseworkref18_Test.bits10 (fun HT_ HW_ => ?_)
            generalize wr.drew = w22 at HB hx253_0 hx253_1 hx253_2 hx253_3 hx253_4 hx253_5 hx255_0 hx255_1 hx255_2 hx255_3 hx256_0 hx256_1 hx256_2 hx256_3 hx256_4 hx256_5 hHeld ⊢
            refine pure_ (i := 0) (N := some 29) (v := ?_) (a' := ?_) #[true, false, false, false, false, false, false, false, false, false, false, false, false, false, false, false] rfl rfl (any_of HT_.out (by kernel_rfl)) (fun _ _ _ h => h) (Or.inl ⟨by rfl, ?_⟩) ?_ ?_
            rotate_left
            ·intro w'
             go_simp
             with_reducible rfl
            rotate_left
            ·simp only [Act.put, List.setIfInBounds_toArray, List.set_cons_zero, List.set_cons_succ, i64_w, i32_w]
             rfl
            refine pure_ (i := 1) (N := some 30) (v := ?_) (a' := ?_) #[true, true, false, false, false, false, false, false, false, false, false, false, false, false, false, false] rfl rfl (any_of HT_.out (by kernel_rfl)) (fun _ _ _ h => h) (Or.inl ⟨by rfl, ?_⟩) ?_ ?_
            rotate_left
            ·intro w'
             go_simp
             with_reducible rfl
            rotate_left
            ·simp only [Act.put, List.setIfInBounds_toArray, List.set_cons_zero, List.set_cons_succ, i64_w, i32_w]
             rfl
            refine pure_ (i := 2) (N := some 31) (v := ?_) (a' := ?_) #[true, true, true, false, false, false, false, false, false, false, false, false, false, false, false, false] rfl rfl (any_of HT_.out (by kernel_rfl)) (fun _ _ _ h => h) (Or.inl ⟨by rfl, ?_⟩) ?_ ?_
            rotate_left
            ·intro w'
             go_simp
             with_reducible rfl
            rotate_left
            ·simp only [Act.put, List.setIfInBounds_toArray, List.set_cons_zero, List.set_cons_succ, i64_w, i32_w]
             rfl
            refine pure_ (i := 3) (N := some 32) (v := ?_) (a' := ?_) #[true, true, true, true, false, false, false, false, false, false, false, false, false, false, false, false] rfl rfl (any_of HT_.out (by kernel_rfl)) (fun _ _ _ h => h) (Or.inl ⟨by rfl, ?_⟩) ?_ ?_
            rotate_left
            ·intro w'
             go_simp
             with_reducible rfl
            rotate_left
            ·simp only [Act.put, List.setIfInBounds_toArray, List.set_cons_zero, List.set_cons_succ, i64_w, i32_w]
             rfl
            refine pure_ (i := 4) (N := some 33) (v := ?_) (a' := ?_) #[true, true, true, true, true, false, false, false, false, false, false, false, false, false, false, false] rfl rfl (any_of HT_.out (by kernel_rfl)) (fun _ _ _ h => h) (Or.inl ⟨by rfl, ?_⟩) ?_ ?_
            rotate_left
            ·intro w'
             go_simp
             with_reducible rfl
            rotate_left
            ·simp only [Act.put, List.setIfInBounds_toArray, List.set_cons_zero, List.set_cons_succ, i64_w, i32_w]
             rfl
            refine pure_ (i := 5) (N := some 34) (v := ?_) (a' := ?_) #[true, true, true, true, true, true, false, false, false, false, false, false, false, false, false, false] rfl rfl (any_of HT_.out (by kernel_rfl)) (fun _ _ _ h => h) (Or.inl ⟨by rfl, ?_⟩) ?_ ?_
            rotate_left
            ·intro w'
             go_simp
             with_reducible rfl
            rotate_left
            ·simp only [Act.put, List.setIfInBounds_toArray, List.set_cons_zero, List.set_cons_succ, i64_w, i32_w]
             rfl
            refine pure_ (i := 10) (N := some 39) (v := ?_) (a' := ?_) #[true, true, true, true, true, true, false, false, false, false, true, false, false, false, false, false] rfl rfl (any_of HT_.out (by kernel_rfl)) (fun _ _ _ h => h) (Or.inl ⟨by rfl, ?_⟩) ?_ ?_
            rotate_left
            ·intro w'
             go_simp
             with_reducible rfl
            rotate_left
            ·simp only [Act.put, List.setIfInBounds_toArray, List.set_cons_zero, List.set_cons_succ, i64_w, i32_w]
             rfl
            refine pure_ (i := 11) (N := some 40) (v := ?_) (a' := ?_) #[true, true, true, true, true, true, false, false, false, false, true, true, false, false, false, false] rfl rfl (any_of HT_.out (by kernel_rfl)) (fun _ _ _ h => h) (Or.inl ⟨by rfl, ?_⟩) ?_ ?_
            rotate_left
            ·intro w'
             go_simp
             with_reducible rfl
            rotate_left
            ·simp only [Act.put, List.setIfInBounds_toArray, List.set_cons_zero, List.set_cons_succ, i64_w, i32_w]
             rfl
            refine pure_ (i := 12) (N := some 41) (v := ?_) (a' := ?_) #[true, true, true, true, true, true, false, false, false, false, true, true, true, false, false, false] rfl rfl (any_of HT_.out (by kernel_rfl)) (fun _ _ _ h => h) (Or.inl ⟨by rfl, ?_⟩) ?_ ?_
            rotate_left
            ·intro w'
             go_simp
             with_reducible rfl
            rotate_left
            ·simp only [Act.put, List.setIfInBounds_toArray, List.set_cons_zero, List.set_cons_succ, i64_w, i32_w]
             rfl
            refine take_ (i := 6) (N := some 35) (v := ?_) (a' := ?_) #[true, true, true, true, true, true, true, false, false, false, true, true, true, false, false, false] rfl rfl (take_ofW HT_.out HW_.out (by kernel_rfl)) (fun _ _ _ h => h) (Or.inl ⟨by rfl, ?_⟩) hHeld ?_ ?_
            rotate_left
            ·rintro w' ⟨s0, s1, s2, s3, s4, s5, s6, s7, s8, s9, s10, s11, s12, s13, s14, s15⟩
             go_simp
             with_reducible rfl
            rotate_left
            ·simp only [Act.put, List.setIfInBounds_toArray, List.set_cons_zero, List.set_cons_succ, i64_w, i32_w]
             rfl
            refine take_ (i := 13) (N := some 42) (v := ?_) (a' := ?_) #[true, true, true, true, true, true, true, false, false, false, true, true, true, true, false, false] rfl rfl (take_ofW HT_.out HW_.out (by kernel_rfl)) (fun _ _ _ h => h) (Or.inl ⟨by rfl, ?_⟩) hHeld ?_ ?_
            rotate_left
            ·rintro w' ⟨s0, s1, s2, s3, s4, s5, s6, s7, s8, s9, s10, s11, s12, s13, s14, s15⟩
             go_simp
             with_reducible rfl
            rotate_left
            ·simp only [Act.put, List.setIfInBounds_toArray, List.set_cons_zero, List.set_cons_succ, i64_w, i32_w]
             rfl
            refine one_ (i := 7) (N := some 36) #[true, true, true, true, true, true, true, true, false, false, true, true, true, true, false, false] rfl rfl (one_of HT_.out (by kernel_rfl)) (by decide) (fun K hK => ?_)
            refine goes_ Try.func20 (by kernel_rfl) rfl #[.slice A0 l0.length c0, .string ((rd_T43 l2 x10_1).f0)] (by rfl) rfl rfl (by (try simp only [List.map_toArray, List.map_cons, List.map_nil]); first | done | rfl | (simp only [List.length_drop, List.length_take]; rfl)) ?_
            with_reducible refine (falseworkref18_Shown.calls k1 _ _ l0 ((rd_T43 l2 x10_1).f0) t254 _ ?side1 ?side2 A10.out).mono ?_
            (case side1 => repeat (first | exact (Kd.C_below HR0.out HB.out) | (with_reducible refine Kd.C_alloc ?_ _) | (with_reducible refine Kd.C_drewN ?_ _) | (with_reducible refine Kd.C_drew ?_)))
            (case side2 => exact HC0.out)
            rintro e w' ⟨rfl, ⟨nd, rfl⟩⟩
            refine ⟨_, rfl, ?_⟩
            refine hK.out _ _ ⟨(pw_cell_below HB.out hw253_0), (pw_cell_below HB.out hw253_1), (pw_cell_below HB.out hw253_2), (pw_cell_below HB.out hw253_3), (pw_cell_below HB.out hw253_4), (pw_cell_below HB.out hw253_5), (pw_cell_below HB.out hw256_0), (pw_cell_below HB.out hw256_1), (pw_cell_below HB.out hw256_2), (pw_cell_below HB.out hw256_3), (pw_cell_below HB.out hw256_4), (pw_cell_below HB.out hw256_5), (pw_cell_below HB.out hw255_0), (pw_cell_below HB.out hw255_1), (pw_cell_below HB.out hw255_2), (pw_cell_below HB.out hw255_3)⟩ (fun hHeld => ?_)
            clear hK K
            refine norm_ (a' := ?_) ?_ ?_
            rotate_left
            ·show Act.put _ (some 36) _ = _
             simp only [Act.put, List.setIfInBounds_toArray, List.set_cons_zero, List.set_cons_succ, i64_w, i32_w]
             rfl
            refine pure_ (i := 8) (N := some 37) (v := ?_) (a' := ?_) #[true, true, true, true, true, true, true, true, true, false, true, true, true, true, false, false] rfl rfl (any_of HT_.out (by kernel_rfl)) (fun _ _ _ h => h) (Or.inl ⟨by rfl, ?_⟩) ?_ ?_
            rotate_left
            ·intro w'
             go_simp
             with_reducible rfl
            rotate_left
            ·simp only [Act.put, List.setIfInBounds_toArray, List.set_cons_zero, List.set_cons_succ, i64_w, i32_w]
             rfl
            refine take_ (i := 9) (N := some 38) (v := ?_) (a' := ?_) #[true, true, true, true, true, true, true, true, true, true, true, true, true, true, false, false] rfl rfl (take_ofW HT_.out HW_.out (by kernel_rfl)) (fun _ _ _ h => h) (Or.inl ⟨by rfl, ?_⟩) hHeld ?_ ?_
            rotate_left
            ·rintro w' ⟨s0, s1, s2, s3, s4, s5, s6, s7, s8, s9, s10, s11, s12, s13, s14, s15⟩
             go_simp
             with_reducible rfl
            rotate_left
            ·simp only [Act.put, List.setIfInBounds_toArray, List.set_cons_zero, List.set_cons_succ, i64_w, i32_w]
             rfl
            refine one_ (i := 14) (N := some 43) #[true, true, true, true, true, true, true, true, true, true, true, true, true, true, true, false] rfl rfl (one_of HT_.out (by kernel_rfl)) (by decide) (fun K hK => ?_)
            refine goes_ Try.func23 (by kernel_rfl) rfl #[.agg #[.int .i64 ((rd_T40 l1 t254).f0), .int .i64 ((rd_T40 l1 t254).f1), .int .u64 ((rd_T40 l1 t254).f2), .string ((rd_T40 l1 t254).f3)], .agg #[.string ((rd_T43 l2 x10_1).f0), .int .i64 ((rd_T43 l2 x10_1).f1), .int .i64 ((rd_T43 l2 x10_1).f2.f0), .int .i64 ((rd_T43 l2 x10_1).f2.f1), .int .u64 ((rd_T43 l2 x10_1).f2.f2), .string ((rd_T43 l2 x10_1).f2.f3)]] (by rfl) rfl rfl (by (try simp only [List.map_toArray, List.map_cons, List.map_nil]); first | done | rfl | (simp only [List.length_drop, List.length_take]; rfl)) ?_
            with_reducible refine (falseworkref18_one.calls k1 ((rd_T40 l1 t254).f0) ((rd_T40 l1 t254).f1) ((rd_T40 l1 t254).f2) ((rd_T40 l1 t254).f3) ((rd_T43 l2 x10_1).f0) ((rd_T43 l2 x10_1).f1) ((rd_T43 l2 x10_1).f2.f0) ((rd_T43 l2 x10_1).f2.f1) ((rd_T43 l2 x10_1).f2.f2) ((rd_T43 l2 x10_1).f2.f3) t257 _ A13.out).mono ?_
            rintro e w23 ⟨rfl, hb⟩
            refine ⟨_, rfl, ?_⟩
            have n0_ := Aside0.mk (zS (by repeat (first | (with_reducible first | exact HB.out | apply zA | apply zN | apply zD) | exact HB.out)) hb)
            clear HB
            have HB := n0_
            clear n0_
            (try clear hb)
            (try clear hb2)
            (try clear hk)
            (try clear hi)
            refine hK.out _ _ ⟨(pw_cell_below HB.out hw253_0), (pw_cell_below HB.out hw253_1), (pw_cell_below HB.out hw253_2), (pw_cell_below HB.out hw253_3), (pw_cell_below HB.out hw253_4), (pw_cell_below HB.out hw253_5), (pw_cell_below HB.out hw256_0), (pw_cell_below HB.out hw256_1), (pw_cell_below HB.out hw256_2), (pw_cell_below HB.out hw256_3), (pw_cell_below HB.out hw256_4), (pw_cell_below HB.out hw256_5), (pw_cell_below HB.out hw255_0), (pw_cell_below HB.out hw255_1), (pw_cell_below HB.out hw255_2), (pw_cell_below HB.out hw255_3)⟩ (fun hHeld => ?_)
            clear hK K
            refine norm_ (a' := ?_) ?_ ?_
            rotate_left
            ·show Act.put _ (some 43) _ = _
             simp only [Act.put, List.setIfInBounds_toArray, List.set_cons_zero, List.set_cons_succ, i64_w, i32_w]
             rfl
            refine pure_ (i := 15) (N := some 11) (v := ?_) (a' := ?_) #[true, true, true, true, true, true, true, true, true, true, true, true, true, true, true, true] rfl rfl (any_of HT_.out (by kernel_rfl)) (fun _ _ _ h => h) (Or.inl ⟨by rfl, ?_⟩) ?_ ?_
            rotate_left
            ·intro w'
             go_simp
             with_reducible rfl
            rotate_left
            ·simp only [Act.put, List.setIfInBounds_toArray, List.set_cons_zero, List.set_cons_succ, i64_w, i32_w]
             rfl
            refine done_ (done_of HT_.out (by kernel_rfl)) ?_
            try go_wp2
            go_roundg k1
            case measure => have := HK1.out; omega
            case rel => exact ⟨(x9_1), (wrap64 (x10_1 + 1)), (by first | rfl | (simp; done) | (simp [*]; done)), (by first | rfl | (simp; done) | (simp [*]; done)), H', ⟨by have := HK1.out; omega⟩, ⟨by repeat (first | (with_reducible first | exact HB.out | apply zA | apply zN | apply zD) | exact HB.out)⟩⟩
           ·rw [if_neg c21] at H
            have c21b0 : (x9_1 == 0) = false := beq_eq_false_iff_ne.mpr c21
            have c21b1 : (x9_1 != 0) = true := bne_iff_ne.mpr c21
            have H' := Aside0.mk H
            clear H
            try go_wp2
            have n0_ := Aside0.mk (zD HB.out)
            clear HB
            have HB := n0_
            clear n0_
            have p253 : 0 ≤ (x10_1 : Int) := of_decide_eq_true (by first | (with_reducible assumption) | assumption)
            have q253 : x10_1 < (l2.length : Int) := of_decide_eq_true (by first | (with_reducible assumption) | assumption)
            obtain ⟨ad253, e253, hx253_0, hx253_1, hx253_2, hx253_3, hx253_4, hx253_5⟩ := at_T43 HR2.out x10_1 p253 q253
            have hw253_5 := hx253_5
            have hw253_4 := hx253_4
            have hw253_3 := hx253_3
            have hw253_2 := hx253_2
            have hw253_1 := hx253_1
            have hw253_0 := hx253_0
            cases e253
            replace hx253_0 := pw_cell_below HB.out hx253_0
            replace hx253_1 := pw_cell_below HB.out hx253_1
            replace hx253_2 := pw_cell_below HB.out hx253_2
            replace hx253_3 := pw_cell_below HB.out hx253_3
            replace hx253_4 := pw_cell_below HB.out hx253_4
            replace hx253_5 := pw_cell_below HB.out hx253_5
            replace p253 := eq_true p253
            replace q253 := eq_true q253
            have p256 : 0 ≤ (x10_1 : Int) := of_decide_eq_true (by first | (with_reducible assumption) | assumption)
            have q256 : x10_1 < (l2.length : Int) := of_decide_eq_true (by first | (with_reducible assumption) | assumption)
            obtain ⟨ad256, e256, hx256_0, hx256_1, hx256_2, hx256_3, hx256_4, hx256_5⟩ := at_T43 HR2.out x10_1 p256 q256
            have hw256_5 := hx256_5
            have hw256_4 := hx256_4
            have hw256_3 := hx256_3
            have hw256_2 := hx256_2
            have hw256_1 := hx256_1
            have hw256_0 := hx256_0
            obtain rfl : ad253 = ad256 := (by injection e256)
            replace hx256_0 := pw_cell_below HB.out hx256_0
            replace hx256_1 := pw_cell_below HB.out hx256_1
            replace hx256_2 := pw_cell_below HB.out hx256_2
            replace hx256_3 := pw_cell_below HB.out hx256_3
            replace hx256_4 := pw_cell_below HB.out hx256_4
            replace hx256_5 := pw_cell_below HB.out hx256_5
            replace p256 := eq_true p256
            replace q256 := eq_true q256
            have p255 : 0 ≤ (t254 : Int) := of_decide_eq_true (by first | (with_reducible assumption) | assumption)
            have q255 : t254 < (l1.length : Int) := of_decide_eq_true (by first | (with_reducible assumption) | assumption)
            obtain ⟨ad255, e255, hx255_0, hx255_1, hx255_2, hx255_3⟩ := at_T40 HR1.out t254 p255 q255
            have hw255_3 := hx255_3
            have hw255_2 := hx255_2
            have hw255_1 := hx255_1
            have hw255_0 := hx255_0
            cases e255
            replace hx255_0 := pw_cell_below HB.out hx255_0
            replace hx255_1 := pw_cell_below HB.out hx255_1
            replace hx255_2 := pw_cell_below HB.out hx255_2
            replace hx255_3 := pw_cell_below HB.out hx255_3
            replace p255 := eq_true p255
            replace q255 := eq_true q255
            refine start_ (n := 16) (S := fun w' => w'.cell? (ad253.add ((x10_1).toNat * 6)) = some (.string ((rd_T43 l2 x10_1).f0)) ∧ w'.cell? ⟨(ad253.add ((x10_1).toNat * 6)).block, (ad253.add ((x10_1).toNat * 6)).off + 1, none⟩ = some (.int .i64 ((rd_T43 l2 x10_1).f1)) ∧ w'.cell? ⟨(ad253.add ((x10_1).toNat * 6)).block, (ad253.add ((x10_1).toNat * 6)).off + 2, none⟩ = some (.int .i64 ((rd_T43 l2 x10_1).f2.f0)) ∧ w'.cell? ⟨(ad253.add ((x10_1).toNat * 6)).block, (ad253.add ((x10_1).toNat * 6)).off + 3, none⟩ = some (.int .i64 ((rd_T43 l2 x10_1).f2.f1)) ∧ w'.cell? ⟨(ad253.add ((x10_1).toNat * 6)).block, (ad253.add ((x10_1).toNat * 6)).off + 4, none⟩ = some (.int .u64 ((rd_T43 l2 x10_1).f2.f2)) ∧ w'.cell? ⟨(ad253.add ((x10_1).toNat * 6)).block, (ad253.add ((x10_1).toNat * 6)).off + 5, none⟩ = some (.string ((rd_T43 l2 x10_1).f2.f3)) ∧ w'.cell? (ad253.add ((x10_1).toNat * 6)) = some (.string ((rd_T43 l2 x10_1).f0)) ∧ w'.cell? ⟨(ad253.add ((x10_1).toNat * 6)).block, (ad253.add ((x10_1).toNat * 6)).off + 1, none⟩ = some (.int .i64 ((rd_T43 l2 x10_1).f1)) ∧ w'.cell? ⟨(ad253.add ((x10_1).toNat * 6)).block, (ad253.add ((x10_1).toNat * 6)).off + 2, none⟩ = some (.int .i64 ((rd_T43 l2 x10_1).f2.f0)) ∧ w'.cell? ⟨(ad253.add ((x10_1).toNat * 6)).block, (ad253.add ((x10_1).toNat * 6)).off + 3, none⟩ = some (.int .i64 ((rd_T43 l2 x10_1).f2.f1)) ∧ w'.cell? ⟨(ad253.add ((x10_1).toNat * 6)).block, (ad253.add ((x10_1).toNat * 6)).off + 4, none⟩ = some (.int .u64 ((rd_T43 l2 x10_1).f2.f2)) ∧ w'.cell? ⟨(ad253.add ((x10_1).toNat * 6)).block, (ad253.add ((x10_1).toNat * 6)).off + 5, none⟩ = some (.string ((rd_T43 l2 x10_1).f2.f3)) ∧ w'.cell? (ad255.add ((t254).toNat * 4)) = some (.int .i64 ((rd_T40 l1 t254).f0)) ∧ w'.cell? ⟨(ad255.add ((t254).toNat * 4)).block, (ad255.add ((t254).toNat * 4)).off + 1, none⟩ = some (.int .i64 ((rd_T40 l1 t254).f1)) ∧ w'.cell? ⟨(ad255.add ((t254).toNat * 4)).block, (ad255.add ((t254).toNat * 4)).off + 2, none⟩ = some (.int .u64 ((rd_T40 l1 t254).f2)) ∧ w'.cell? ⟨(ad255.add ((t254).toNat * 4)).block, (ad255.add ((t254).toNat * 4)).off + 3, none⟩ = some (.string ((rd_T40 l1 t254).f3))) (ds := []) #[false, false, false, false, false, false, false, false, false, false, false, false, false, false, false, false] (by kernel_rfl) rfl rfl ⟨(pw_cell_below HB.out hw253_0), (pw_cell_below HB.out hw253_1), (pw_cell_below HB.out hw253_2), (pw_cell_below HB.out hw253_3), (pw_cell_below HB.out hw253_4), (pw_cell_below HB.out hw253_5), (pw_cell_below HB.out hw256_0), (pw_cell_below HB.out hw256_1), (pw_cell_below HB.out hw256_2), (pw_cell_below HB.out hw256_3), (pw_cell_below HB.out hw256_4), (pw_cell_below HB.out hw256_5), (pw_cell_below HB.out hw255_0), (pw_cell_below HB.out hw255_1), (pw_cell_below HB.out hw255_2), (pw_cell_below HB.out hw255_3)⟩ (fun hHeld => ?_); refine with_tabW falseworkref18_Test.tab10 falseworkref18_Test.bits10 (fun HT_ HW_ => ?_)
            generalize wr.drew = w24 at HB hx253_0 hx253_1 hx253_2 hx253_3 hx253_4 hx253_5 hx255_0 hx255_1 hx255_2 hx255_3 hx256_0 hx256_1 hx256_2 hx256_3 hx256_4 hx256_5 hHeld ⊢
            refine pure_ (i := 0) (N := some 29) (v := ?_) (a' := ?_) #[true, false, false, false, false, false, false, false, false, false, false, false, false, false, false, false] rfl rfl (any_of HT_.out (by kernel_rfl)) (fun _ _ _ h => h) (Or.inl ⟨by rfl, ?_⟩) ?_ ?_
            rotate_left
            ·intro w'
             go_simp
             with_reducible rfl
            rotate_left
            ·simp only [Act.put, List.setIfInBounds_toArray, List.set_cons_zero, List.set_cons_succ, i64_w, i32_w]
             rfl
            refine pure_ (i := 1) (N := some 30) (v := ?_) (a' := ?_) #[true, true, false, false, false, false, false, false, false, false, false, false, false, false, false, false] rfl rfl (any_of HT_.out (by kernel_rfl)) (fun _ _ _ h => h) (Or.inl ⟨by rfl, ?_⟩) ?_ ?_
            rotate_left
            ·intro w'
             go_simp
             with_reducible rfl
            rotate_left
            ·simp only [Act.put, List.setIfInBounds_toArray, List.set_cons_zero, List.set_cons_succ, i64_w, i32_w]
             rfl
            refine pure_ (i := 2) (N := some 31) (v := ?_) (a' := ?_) #[true, true, true, false, false, false, false, false, false, false, false, false, false, false, false, false] rfl rfl (any_of HT_.out (by kernel_rfl)) (fun _ _ _ h => h) (Or.inl ⟨by rfl, ?_⟩) ?_ ?_
            rotate_left
            ·intro w'
             go_simp
             with_reducible rfl
            rotate_left
            ·simp only [Act.put, List.setIfInBounds_toArray, List.set_cons_zero, List.set_cons_succ, i64_w, i32_w]
             rfl
            refine pure_ (i := 3) (N := some 32) (v := ?_) (a' := ?_) #[true, true, true, true, false, false, false, false, false, false, false, false, false, false, false, false] rfl rfl (any_of HT_.out (by kernel_rfl)) (fun _ _ _ h => h) (Or.inl ⟨by rfl, ?_⟩) ?_ ?_
            rotate_left
            ·intro w'
             go_simp
             with_reducible rfl
            rotate_left
            ·simp only [Act.put, List.setIfInBounds_toArray, List.set_cons_zero, List.set_cons_succ, i64_w, i32_w]
             rfl
            refine pure_ (i := 4) (N := some 33) (v := ?_) (a' := ?_) #[true, true, true, true, true, false, false, false, false, false, false, false, false, false, false, false] rfl rfl (any_of HT_.out (by kernel_rfl)) (fun _ _ _ h => h) (Or.inl ⟨by rfl, ?_⟩) ?_ ?_
            rotate_left
            ·intro w'
             go_simp
             with_reducible rfl
            rotate_left
            ·simp only [Act.put, List.setIfInBounds_toArray, List.set_cons_zero, List.set_cons_succ, i64_w, i32_w]
             rfl
            refine pure_ (i := 5) (N := some 34) (v := ?_) (a' := ?_) #[true, true, true, true, true, true, false, false, false, false, false, false, false, false, false, false] rfl rfl (any_of HT_.out (by kernel_rfl)) (fun _ _ _ h => h) (Or.inl ⟨by rfl, ?_⟩) ?_ ?_
            rotate_left
            ·intro w'
             go_simp
             with_reducible rfl
            rotate_left
            ·simp only [Act.put, List.setIfInBounds_toArray, List.set_cons_zero, List.set_cons_succ, i64_w, i32_w]
             rfl
            refine pure_ (i := 10) (N := some 39) (v := ?_) (a' := ?_) #[true, true, true, true, true, true, false, false, false, false, true, false, false, false, false, false] rfl rfl (any_of HT_.out (by kernel_rfl)) (fun _ _ _ h => h) (Or.inl ⟨by rfl, ?_⟩) ?_ ?_
            rotate_left
            ·intro w'
             go_simp
             with_reducible rfl
            rotate_left
            ·simp only [Act.put, List.setIfInBounds_toArray, List.set_cons_zero, List.set_cons_succ, i64_w, i32_w]
             rfl
            refine pure_ (i := 11) (N := some 40) (v := ?_) (a' := ?_) #[true, true, true, true, true, true, false, false, false, false, true, true, false, false, false, false] rfl rfl (any_of HT_.out (by kernel_rfl)) (fun _ _ _ h => h) (Or.inl ⟨by rfl, ?_⟩) ?_ ?_
            rotate_left
            ·intro w'
             go_simp
             with_reducible rfl
            rotate_left
            ·simp only [Act.put, List.setIfInBounds_toArray, List.set_cons_zero, List.set_cons_succ, i64_w, i32_w]
             rfl
            refine pure_ (i := 12) (N := some 41) (v := ?_) (a' := ?_) #[true, true, true, true, true, true, false, false, false, false, true, true, true, false, false, false] rfl rfl (any_of HT_.out (by kernel_rfl)) (fun _ _ _ h => h) (Or.inl ⟨by rfl, ?_⟩) ?_ ?_
            rotate_left
            ·intro w'
             go_simp
             with_reducible rfl
            rotate_left
            ·simp only [Act.put, List.setIfInBounds_toArray, List.set_cons_zero, List.set_cons_succ, i64_w, i32_w]
             rfl
            refine take_ (i := 6) (N := some 35) (v := ?_) (a' := ?_) #[true, true, true, true, true, true, true, false, false, false, true, true, true, false, false, false] rfl rfl (take_ofW HT_.out HW_.out (by kernel_rfl)) (fun _ _ _ h => h) (Or.inl ⟨by rfl, ?_⟩) hHeld ?_ ?_
            rotate_left
            ·rintro w' ⟨s0, s1, s2, s3, s4, s5, s6, s7, s8, s9, s10, s11, s12, s13, s14, s15⟩
             go_simp
             with_reducible rfl
            rotate_left
            ·simp only [Act.put, List.setIfInBounds_toArray, List.set_cons_zero, List.set_cons_succ, i64_w, i32_w]
             rfl
            refine take_ (i := 13) (N := some 42) (v := ?_) (a' := ?_) #[true, true, true, true, true, true, true, false, false, false, true, true, true, true, false, false] rfl rfl (take_ofW HT_.out HW_.out (by kernel_rfl)) (fun _ _ _ h => h) (Or.inl ⟨by rfl, ?_⟩) hHeld ?_ ?_
            rotate_left
            ·rintro w' ⟨s0, s1, s2, s3, s4, s5, s6, s7, s8, s9, s10, s11, s12, s13, s14, s15⟩
             go_simp
             with_reducible rfl
            rotate_left
            ·simp only [Act.put, List.setIfInBounds_toArray, List.set_cons_zero, List.set_cons_succ, i64_w, i32_w]
             rfl
            refine one_ (i := 7) (N := some 36) #[true, true, true, true, true, true, true, true, false, false, true, true, true, true, false, false] rfl rfl (one_of HT_.out (by kernel_rfl)) (by decide) (fun K hK => ?_)
            refine goes_ Try.func20 (by kernel_rfl) rfl #[.slice A0 l0.length c0, .string ((rd_T43 l2 x10_1).f0)] (by rfl) rfl rfl (by (try simp only [List.map_toArray, List.map_cons, List.map_nil]); first | done | rfl | (simp only [List.length_drop, List.length_take]; rfl)) ?_
            with_reducible refine (falseworkref18_Shown.calls k1 _ _ l0 ((rd_T43 l2 x10_1).f0) t254 _ ?side1 ?side2 A10.out).mono ?_
            (case side1 => repeat (first | exact (Kd.C_below HR0.out HB.out) | (with_reducible refine Kd.C_alloc ?_ _) | (with_reducible refine Kd.C_drewN ?_ _) | (with_reducible refine Kd.C_drew ?_)))
            (case side2 => exact HC0.out)
            rintro e w' ⟨rfl, ⟨nd, rfl⟩⟩
            refine ⟨_, rfl, ?_⟩
            refine hK.out _ _ ⟨(pw_cell_below HB.out hw253_0), (pw_cell_below HB.out hw253_1), (pw_cell_below HB.out hw253_2), (pw_cell_below HB.out hw253_3), (pw_cell_below HB.out hw253_4), (pw_cell_below HB.out hw253_5), (pw_cell_below HB.out hw256_0), (pw_cell_below HB.out hw256_1), (pw_cell_below HB.out hw256_2), (pw_cell_below HB.out hw256_3), (pw_cell_below HB.out hw256_4), (pw_cell_below HB.out hw256_5), (pw_cell_below HB.out hw255_0), (pw_cell_below HB.out hw255_1), (pw_cell_below HB.out hw255_2), (pw_cell_below HB.out hw255_3)⟩ (fun hHeld => ?_)
            clear hK K
            refine norm_ (a' := ?_) ?_ ?_
            rotate_left
            ·show Act.put _ (some 36) _ = _
             simp only [Act.put, List.setIfInBounds_toArray, List.set_cons_zero, List.set_cons_succ, i64_w, i32_w]
             rfl
            refine pure_ (i := 8) (N := some 37) (v := ?_) (a' := ?_) #[true, true, true, true, true, true, true, true, true, false, true, true, true, true, false, false] rfl rfl (any_of HT_.out (by kernel_rfl)) (fun _ _ _ h => h) (Or.inl ⟨by rfl, ?_⟩) ?_ ?_
            rotate_left
            ·intro w'
             go_simp
             with_reducible rfl
            rotate_left
            ·simp only [Act.put, List.setIfInBounds_toArray, List.set_cons_zero, List.set_cons_succ, i64_w, i32_w]
             rfl
            refine take_ (i := 9) (N := some 38) (v := ?_) (a' := ?_) #[true, true, true, true, true, true, true, true, true, true, true, true, true, true, false, false] rfl rfl (take_ofW HT_.out HW_.out (by kernel_rfl)) (fun _ _ _ h => h) (Or.inl ⟨by rfl, ?_⟩) hHeld ?_ ?_
            rotate_left
            ·rintro w' ⟨s0, s1, s2, s3, s4, s5, s6, s7, s8, s9, s10, s11, s12, s13, s14, s15⟩
             go_simp
             with_reducible rfl
            rotate_left
            ·simp only [Act.put, List.setIfInBounds_toArray, List.set_cons_zero, List.set_cons_succ, i64_w, i32_w]
             rfl
            refine one_ (i := 14) (N := some 43) #[true, true, true, true, true, true, true, true, true, true, true, true, true, true, true, false] rfl rfl (one_of HT_.out (by kernel_rfl)) (by decide) (fun K hK => ?_)
            refine goes_ Try.func23 (by kernel_rfl) rfl #[.agg #[.int .i64 ((rd_T40 l1 t254).f0), .int .i64 ((rd_T40 l1 t254).f1), .int .u64 ((rd_T40 l1 t254).f2), .string ((rd_T40 l1 t254).f3)], .agg #[.string ((rd_T43 l2 x10_1).f0), .int .i64 ((rd_T43 l2 x10_1).f1), .int .i64 ((rd_T43 l2 x10_1).f2.f0), .int .i64 ((rd_T43 l2 x10_1).f2.f1), .int .u64 ((rd_T43 l2 x10_1).f2.f2), .string ((rd_T43 l2 x10_1).f2.f3)]] (by rfl) rfl rfl (by (try simp only [List.map_toArray, List.map_cons, List.map_nil]); first | done | rfl | (simp only [List.length_drop, List.length_take]; rfl)) ?_
            with_reducible refine (falseworkref18_one.calls k1 ((rd_T40 l1 t254).f0) ((rd_T40 l1 t254).f1) ((rd_T40 l1 t254).f2) ((rd_T40 l1 t254).f3) ((rd_T43 l2 x10_1).f0) ((rd_T43 l2 x10_1).f1) ((rd_T43 l2 x10_1).f2.f0) ((rd_T43 l2 x10_1).f2.f1) ((rd_T43 l2 x10_1).f2.f2) ((rd_T43 l2 x10_1).f2.f3) t257 _ A13.out).mono ?_
            rintro e w25 ⟨rfl, hb⟩
            refine ⟨_, rfl, ?_⟩
            have n0_ := Aside0.mk (zS (by repeat (first | (with_reducible first | exact HB.out | apply zA | apply zN | apply zD) | exact HB.out)) hb)
            clear HB
            have HB := n0_
            clear n0_
            (try clear hb)
            (try clear hb2)
            (try clear hk)
            (try clear hi)
            refine hK.out _ _ ⟨(pw_cell_below HB.out hw253_0), (pw_cell_below HB.out hw253_1), (pw_cell_below HB.out hw253_2), (pw_cell_below HB.out hw253_3), (pw_cell_below HB.out hw253_4), (pw_cell_below HB.out hw253_5), (pw_cell_below HB.out hw256_0), (pw_cell_below HB.out hw256_1), (pw_cell_below HB.out hw256_2), (pw_cell_below HB.out hw256_3), (pw_cell_below HB.out hw256_4), (pw_cell_below HB.out hw256_5), (pw_cell_below HB.out hw255_0), (pw_cell_below HB.out hw255_1), (pw_cell_below HB.out hw255_2), (pw_cell_below HB.out hw255_3)⟩ (fun hHeld => ?_)
            clear hK K
            refine norm_ (a' := ?_) ?_ ?_
            rotate_left
            ·show Act.put _ (some 43) _ = _
             simp only [Act.put, List.setIfInBounds_toArray, List.set_cons_zero, List.set_cons_succ, i64_w, i32_w]
             rfl
            refine pure_ (i := 15) (N := some 11) (v := ?_) (a' := ?_) #[true, true, true, true, true, true, true, true, true, true, true, true, true, true, true, true] rfl rfl (any_of HT_.out (by kernel_rfl)) (fun _ _ _ h => h) (Or.inl ⟨by rfl, ?_⟩) ?_ ?_
            rotate_left
            ·intro w'
             go_simp
             with_reducible rfl
            rotate_left
            ·simp only [Act.put, List.setIfInBounds_toArray, List.set_cons_zero, List.set_cons_succ, i64_w, i32_w]
             rfl
            refine done_ (done_of HT_.out (by kernel_rfl)) ?_
            try go_wp2
            go_roundg k1
            case measure => have := HK1.out; omega
            case rel => exact ⟨((-1)), (wrap64 (x10_1 + 1)), (by first | rfl | (simp; done) | (simp [*]; done)), (by first | rfl | (simp; done) | (simp [*]; done)), H', ⟨by have := HK1.out; omega⟩, ⟨by repeat (first | (with_reducible first | exact HB.out | apply zA | apply zN | apply zD) | exact HB.out)⟩⟩
          ·rw [if_neg c20] at H
           have c20b0 : decide (t257 < 0) = false := decide_eq_false c20
           clear c20
           have H' := Aside0.mk H
           clear H
           try go_wp2
           have n0_ := Aside0.mk (zD HB.out)
           clear HB
           have HB := n0_
           clear n0_
           have p253 : 0 ≤ (x10_1 : Int) := of_decide_eq_true (by first | (with_reducible assumption) | assumption)
           have q253 : x10_1 < (l2.length : Int) := of_decide_eq_true (by first | (with_reducible assumption) | assumption)
           obtain ⟨ad253, e253, hx253_0, hx253_1, hx253_2, hx253_3, hx253_4, hx253_5⟩ := at_T43 HR2.out x10_1 p253 q253
           have hw253_5 := hx253_5
           have hw253_4 := hx253_4
           have hw253_3 := hx253_3
           have hw253_2 := hx253_2
           have hw253_1 := hx253_1
           have hw253_0 := hx253_0
           cases e253
           replace hx253_0 := pw_cell_below HB.out hx253_0
           replace hx253_1 := pw_cell_below HB.out hx253_1
           replace hx253_2 := pw_cell_below HB.out hx253_2
           replace hx253_3 := pw_cell_below HB.out hx253_3
           replace hx253_4 := pw_cell_below HB.out hx253_4
           replace hx253_5 := pw_cell_below HB.out hx253_5
           replace p253 := eq_true p253
           replace q253 := eq_true q253
           have p256 : 0 ≤ (x10_1 : Int) := of_decide_eq_true (by first | (with_reducible assumption) | assumption)
           have q256 : x10_1 < (l2.length : Int) := of_decide_eq_true (by first | (with_reducible assumption) | assumption)
           obtain ⟨ad256, e256, hx256_0, hx256_1, hx256_2, hx256_3, hx256_4, hx256_5⟩ := at_T43 HR2.out x10_1 p256 q256
           have hw256_5 := hx256_5
           have hw256_4 := hx256_4
           have hw256_3 := hx256_3
           have hw256_2 := hx256_2
           have hw256_1 := hx256_1
           have hw256_0 := hx256_0
           obtain rfl : ad253 = ad256 := (by injection e256)
           replace hx256_0 := pw_cell_below HB.out hx256_0
           replace hx256_1 := pw_cell_below HB.out hx256_1
           replace hx256_2 := pw_cell_below HB.out hx256_2
           replace hx256_3 := pw_cell_below HB.out hx256_3
           replace hx256_4 := pw_cell_below HB.out hx256_4
           replace hx256_5 := pw_cell_below HB.out hx256_5
           replace p256 := eq_true p256
           replace q256 := eq_true q256
           have p255 : 0 ≤ (t254 : Int) := of_decide_eq_true (by first | (with_reducible assumption) | assumption)
           have q255 : t254 < (l1.length : Int) := of_decide_eq_true (by first | (with_reducible assumption) | assumption)
           obtain ⟨ad255, e255, hx255_0, hx255_1, hx255_2, hx255_3⟩ := at_T40 HR1.out t254 p255 q255
           have hw255_3 := hx255_3
           have hw255_2 := hx255_2
           have hw255_1 := hx255_1
           have hw255_0 := hx255_0
           cases e255
           replace hx255_0 := pw_cell_below HB.out hx255_0
           replace hx255_1 := pw_cell_below HB.out hx255_1
           replace hx255_2 := pw_cell_below HB.out hx255_2
           replace hx255_3 := pw_cell_below HB.out hx255_3
           replace p255 := eq_true p255
           replace q255 := eq_true q255
           refine start_ (n := 16) (S := fun w' => w'.cell? (ad253.add ((x10_1).toNat * 6)) = some (.string ((rd_T43 l2 x10_1).f0)) ∧ w'.cell? ⟨(ad253.add ((x10_1).toNat * 6)).block, (ad253.add ((x10_1).toNat * 6)).off + 1, none⟩ = some (.int .i64 ((rd_T43 l2 x10_1).f1)) ∧ w'.cell? ⟨(ad253.add ((x10_1).toNat * 6)).block, (ad253.add ((x10_1).toNat * 6)).off + 2, none⟩ = some (.int .i64 ((rd_T43 l2 x10_1).f2.f0)) ∧ w'.cell? ⟨(ad253.add ((x10_1).toNat * 6)).block, (ad253.add ((x10_1).toNat * 6)).off + 3, none⟩ = some (.int .i64 ((rd_T43 l2 x10_1).f2.f1)) ∧ w'.cell? ⟨(ad253.add ((x10_1).toNat * 6)).block, (ad253.add ((x10_1).toNat * 6)).off + 4, none⟩ = some (.int .u64 ((rd_T43 l2 x10_1).f2.f2)) ∧ w'.cell? ⟨(ad253.add ((x10_1).toNat * 6)).block, (ad253.add ((x10_1).toNat * 6)).off + 5, none⟩ = some (.string ((rd_T43 l2 x10_1).f2.f3)) ∧ w'.cell? (ad253.add ((x10_1).toNat * 6)) = some (.string ((rd_T43 l2 x10_1).f0)) ∧ w'.cell? ⟨(ad253.add ((x10_1).toNat * 6)).block, (ad253.add ((x10_1).toNat * 6)).off + 1, none⟩ = some (.int .i64 ((rd_T43 l2 x10_1).f1)) ∧ w'.cell? ⟨(ad253.add ((x10_1).toNat * 6)).block, (ad253.add ((x10_1).toNat * 6)).off + 2, none⟩ = some (.int .i64 ((rd_T43 l2 x10_1).f2.f0)) ∧ w'.cell? ⟨(ad253.add ((x10_1).toNat * 6)).block, (ad253.add ((x10_1).toNat * 6)).off + 3, none⟩ = some (.int .i64 ((rd_T43 l2 x10_1).f2.f1)) ∧ w'.cell? ⟨(ad253.add ((x10_1).toNat * 6)).block, (ad253.add ((x10_1).toNat * 6)).off + 4, none⟩ = some (.int .u64 ((rd_T43 l2 x10_1).f2.f2)) ∧ w'.cell? ⟨(ad253.add ((x10_1).toNat * 6)).block, (ad253.add ((x10_1).toNat * 6)).off + 5, none⟩ = some (.string ((rd_T43 l2 x10_1).f2.f3)) ∧ w'.cell? (ad255.add ((t254).toNat * 4)) = some (.int .i64 ((rd_T40 l1 t254).f0)) ∧ w'.cell? ⟨(ad255.add ((t254).toNat * 4)).block, (ad255.add ((t254).toNat * 4)).off + 1, none⟩ = some (.int .i64 ((rd_T40 l1 t254).f1)) ∧ w'.cell? ⟨(ad255.add ((t254).toNat * 4)).block, (ad255.add ((t254).toNat * 4)).off + 2, none⟩ = some (.int .u64 ((rd_T40 l1 t254).f2)) ∧ w'.cell? ⟨(ad255.add ((t254).toNat * 4)).block, (ad255.add ((t254).toNat * 4)).off + 3, none⟩ = some (.string ((rd_T40 l1 t254).f3))) (ds := []) #[false, false, false, false, false, false, false, false, false, false, false, false, false, false, false, false] (by kernel_rfl) rfl rfl ⟨(pw_cell_below HB.out hw253_0), (pw_cell_below HB.out hw253_1), (pw_cell_below HB.out hw253_2), (pw_cell_below HB.out hw253_3), (pw_cell_below HB.out hw253_4), (pw_cell_below HB.out hw253_5), (pw_cell_below HB.out hw256_0), (pw_cell_below HB.out hw256_1), (pw_cell_below HB.out hw256_2), (pw_cell_below HB.out hw256_3), (pw_cell_below HB.out hw256_4), (pw_cell_below HB.out hw256_5), (pw_cell_below HB.out hw255_0), (pw_cell_below HB.out hw255_1), (pw_cell_below HB.out hw255_2), (pw_cell_below HB.out hw255_3)⟩ (fun hHeld => ?_); refine with_tabW falseworkref18_Test.tab10 falseworkref18_Test.bits10 (fun HT_ HW_ => ?_)
           generalize wr.drew = w26 at HB hx253_0 hx253_1 hx253_2 hx253_3 hx253_4 hx253_5 hx255_0 hx255_1 hx255_2 hx255_3 hx256_0 hx256_1 hx256_2 hx256_3 hx256_4 hx256_5 hHeld ⊢
           refine pure_ (i := 0) (N := some 29) (v := ?_) (a' := ?_) #[true, false, false, false, false, false, false, false, false, false, false, false, false, false, false, false] rfl rfl (any_of HT_.out (by kernel_rfl)) (fun _ _ _ h => h) (Or.inl ⟨by rfl, ?_⟩) ?_ ?_
           rotate_left
           ·intro w'
            go_simp
            with_reducible rfl
           rotate_left
           ·simp only [Act.put, List.setIfInBounds_toArray, List.set_cons_zero, List.set_cons_succ, i64_w, i32_w]
            rfl
           refine pure_ (i := 1) (N := some 30) (v := ?_) (a' := ?_) #[true, true, false, false, false, false, false, false, false, false, false, false, false, false, false, false] rfl rfl (any_of HT_.out (by kernel_rfl)) (fun _ _ _ h => h) (Or.inl ⟨by rfl, ?_⟩) ?_ ?_
           rotate_left
           ·intro w'
            go_simp
            with_reducible rfl
           rotate_left
           ·simp only [Act.put, List.setIfInBounds_toArray, List.set_cons_zero, List.set_cons_succ, i64_w, i32_w]
            rfl
           refine pure_ (i := 2) (N := some 31) (v := ?_) (a' := ?_) #[true, true, true, false, false, false, false, false, false, false, false, false, false, false, false, false] rfl rfl (any_of HT_.out (by kernel_rfl)) (fun _ _ _ h => h) (Or.inl ⟨by rfl, ?_⟩) ?_ ?_
           rotate_left
           ·intro w'
            go_simp
            with_reducible rfl
           rotate_left
           ·simp only [Act.put, List.setIfInBounds_toArray, List.set_cons_zero, List.set_cons_succ, i64_w, i32_w]
            rfl
           refine pure_ (i := 3) (N := some 32) (v := ?_) (a' := ?_) #[true, true, true, true, false, false, false, false, false, false, false, false, false, false, false, false] rfl rfl (any_of HT_.out (by kernel_rfl)) (fun _ _ _ h => h) (Or.inl ⟨by rfl, ?_⟩) ?_ ?_
           rotate_left
           ·intro w'
            go_simp
            with_reducible rfl
           rotate_left
           ·simp only [Act.put, List.setIfInBounds_toArray, List.set_cons_zero, List.set_cons_succ, i64_w, i32_w]
            rfl
           refine pure_ (i := 4) (N := some 33) (v := ?_) (a' := ?_) #[true, true, true, true, true, false, false, false, false, false, false, false, false, false, false, false] rfl rfl (any_of HT_.out (by kernel_rfl)) (fun _ _ _ h => h) (Or.inl ⟨by rfl, ?_⟩) ?_ ?_
           rotate_left
           ·intro w'
            go_simp
            with_reducible rfl
           rotate_left
           ·simp only [Act.put, List.setIfInBounds_toArray, List.set_cons_zero, List.set_cons_succ, i64_w, i32_w]
            rfl
           refine pure_ (i := 5) (N := some 34) (v := ?_) (a' := ?_) #[true, true, true, true, true, true, false, false, false, false, false, false, false, false, false, false] rfl rfl (any_of HT_.out (by kernel_rfl)) (fun _ _ _ h => h) (Or.inl ⟨by rfl, ?_⟩) ?_ ?_
           rotate_left
           ·intro w'
            go_simp
            with_reducible rfl
           rotate_left
           ·simp only [Act.put, List.setIfInBounds_toArray, List.set_cons_zero, List.set_cons_succ, i64_w, i32_w]
            rfl
           refine pure_ (i := 10) (N := some 39) (v := ?_) (a' := ?_) #[true, true, true, true, true, true, false, false, false, false, true, false, false, false, false, false] rfl rfl (any_of HT_.out (by kernel_rfl)) (fun _ _ _ h => h) (Or.inl ⟨by rfl, ?_⟩) ?_ ?_
           rotate_left
           ·intro w'
            go_simp
            with_reducible rfl
           rotate_left
           ·simp only [Act.put, List.setIfInBounds_toArray, List.set_cons_zero, List.set_cons_succ, i64_w, i32_w]
            rfl
           refine pure_ (i := 11) (N := some 40) (v := ?_) (a' := ?_) #[true, true, true, true, true, true, false, false, false, false, true, true, false, false, false, false] rfl rfl (any_of HT_.out (by kernel_rfl)) (fun _ _ _ h => h) (Or.inl ⟨by rfl, ?_⟩) ?_ ?_
           rotate_left
           ·intro w'
            go_simp
            with_reducible rfl
           rotate_left
           ·simp only [Act.put, List.setIfInBounds_toArray, List.set_cons_zero, List.set_cons_succ, i64_w, i32_w]
            rfl
           refine pure_ (i := 12) (N := some 41) (v := ?_) (a' := ?_) #[true, true, true, true, true, true, false, false, false, false, true, true, true, false, false, false] rfl rfl (any_of HT_.out (by kernel_rfl)) (fun _ _ _ h => h) (Or.inl ⟨by rfl, ?_⟩) ?_ ?_
           rotate_left
           ·intro w'
            go_simp
            with_reducible rfl
           rotate_left
           ·simp only [Act.put, List.setIfInBounds_toArray, List.set_cons_zero, List.set_cons_succ, i64_w, i32_w]
            rfl
           refine take_ (i := 6) (N := some 35) (v := ?_) (a' := ?_) #[true, true, true, true, true, true, true, false, false, false, true, true, true, false, false, false] rfl rfl (take_ofW HT_.out HW_.out (by kernel_rfl)) (fun _ _ _ h => h) (Or.inl ⟨by rfl, ?_⟩) hHeld ?_ ?_
           rotate_left
           ·rintro w' ⟨s0, s1, s2, s3, s4, s5, s6, s7, s8, s9, s10, s11, s12, s13, s14, s15⟩
            go_simp
            with_reducible rfl
           rotate_left
           ·simp only [Act.put, List.setIfInBounds_toArray, List.set_cons_zero, List.set_cons_succ, i64_w, i32_w]
            rfl
           refine take_ (i := 13) (N := some 42) (v := ?_) (a' := ?_) #[true, true, true, true, true, true, true, false, false, false, true, true, true, true, false, false] rfl rfl (take_ofW HT_.out HW_.out (by kernel_rfl)) (fun _ _ _ h => h) (Or.inl ⟨by rfl, ?_⟩) hHeld ?_ ?_
           rotate_left
           ·rintro w' ⟨s0, s1, s2, s3, s4, s5, s6, s7, s8, s9, s10, s11, s12, s13, s14, s15⟩
            go_simp
            with_reducible rfl
           rotate_left
           ·simp only [Act.put, List.setIfInBounds_toArray, List.set_cons_zero, List.set_cons_succ, i64_w, i32_w]
            rfl
           refine one_ (i := 7) (N := some 36) #[true, true, true, true, true, true, true, true, false, false, true, true, true, true, false, false] rfl rfl (one_of HT_.out (by kernel_rfl)) (by decide) (fun K hK => ?_)
           refine goes_ Try.func20 (by kernel_rfl) rfl #[.slice A0 l0.length c0, .string ((rd_T43 l2 x10_1).f0)] (by rfl) rfl rfl (by (try simp only [List.map_toArray, List.map_cons, List.map_nil]); first | done | rfl | (simp only [List.length_drop, List.length_take]; rfl)) ?_
           with_reducible refine (falseworkref18_Shown.calls k1 _ _ l0 ((rd_T43 l2 x10_1).f0) t254 _ ?side1 ?side2 A10.out).mono ?_
           (case side1 => repeat (first | exact (Kd.C_below HR0.out HB.out) | (with_reducible refine Kd.C_alloc ?_ _) | (with_reducible refine Kd.C_drewN ?_ _) | (with_reducible refine Kd.C_drew ?_)))
           (case side2 => exact HC0.out)
           rintro e w' ⟨rfl, ⟨nd, rfl⟩⟩
           refine ⟨_, rfl, ?_⟩
           refine hK.out _ _ ⟨(pw_cell_below HB.out hw253_0), (pw_cell_below HB.out hw253_1), (pw_cell_below HB.out hw253_2), (pw_cell_below HB.out hw253_3), (pw_cell_below HB.out hw253_4), (pw_cell_below HB.out hw253_5), (pw_cell_below HB.out hw256_0), (pw_cell_below HB.out hw256_1), (pw_cell_below HB.out hw256_2), (pw_cell_below HB.out hw256_3), (pw_cell_below HB.out hw256_4), (pw_cell_below HB.out hw256_5), (pw_cell_below HB.out hw255_0), (pw_cell_below HB.out hw255_1), (pw_cell_below HB.out hw255_2), (pw_cell_below HB.out hw255_3)⟩ (fun hHeld => ?_)
           clear hK K
           refine norm_ (a' := ?_) ?_ ?_
           rotate_left
           ·show Act.put _ (some 36) _ = _
            simp only [Act.put, List.setIfInBounds_toArray, List.set_cons_zero, List.set_cons_succ, i64_w, i32_w]
            rfl
           refine pure_ (i := 8) (N := some 37) (v := ?_) (a' := ?_) #[true, true, true, true, true, true, true, true, true, false, true, true, true, true, false, false] rfl rfl (any_of HT_.out (by kernel_rfl)) (fun _ _ _ h => h) (Or.inl ⟨by rfl, ?_⟩) ?_ ?_
           rotate_left
           ·intro w'
            go_simp
            with_reducible rfl
           rotate_left
           ·simp only [Act.put, List.setIfInBounds_toArray, List.set_cons_zero, List.set_cons_succ, i64_w, i32_w]
            rfl
           refine take_ (i := 9) (N := some 38) (v := ?_) (a' := ?_) #[true, true, true, true, true, true, true, true, true, true, true, true, true, true, false, false] rfl rfl (take_ofW HT_.out HW_.out (by kernel_rfl)) (fun _ _ _ h => h) (Or.inl ⟨by rfl, ?_⟩) hHeld ?_ ?_
           rotate_left
           ·rintro w' ⟨s0, s1, s2, s3, s4, s5, s6, s7, s8, s9, s10, s11, s12, s13, s14, s15⟩
            go_simp
            with_reducible rfl
           rotate_left
           ·simp only [Act.put, List.setIfInBounds_toArray, List.set_cons_zero, List.set_cons_succ, i64_w, i32_w]
            rfl
           refine one_ (i := 14) (N := some 43) #[true, true, true, true, true, true, true, true, true, true, true, true, true, true, true, false] rfl rfl (one_of HT_.out (by kernel_rfl)) (by decide) (fun K hK => ?_)
           refine goes_ Try.func23 (by kernel_rfl) rfl #[.agg #[.int .i64 ((rd_T40 l1 t254).f0), .int .i64 ((rd_T40 l1 t254).f1), .int .u64 ((rd_T40 l1 t254).f2), .string ((rd_T40 l1 t254).f3)], .agg #[.string ((rd_T43 l2 x10_1).f0), .int .i64 ((rd_T43 l2 x10_1).f1), .int .i64 ((rd_T43 l2 x10_1).f2.f0), .int .i64 ((rd_T43 l2 x10_1).f2.f1), .int .u64 ((rd_T43 l2 x10_1).f2.f2), .string ((rd_T43 l2 x10_1).f2.f3)]] (by rfl) rfl rfl (by (try simp only [List.map_toArray, List.map_cons, List.map_nil]); first | done | rfl | (simp only [List.length_drop, List.length_take]; rfl)) ?_
           with_reducible refine (falseworkref18_one.calls k1 ((rd_T40 l1 t254).f0) ((rd_T40 l1 t254).f1) ((rd_T40 l1 t254).f2) ((rd_T40 l1 t254).f3) ((rd_T43 l2 x10_1).f0) ((rd_T43 l2 x10_1).f1) ((rd_T43 l2 x10_1).f2.f0) ((rd_T43 l2 x10_1).f2.f1) ((rd_T43 l2 x10_1).f2.f2) ((rd_T43 l2 x10_1).f2.f3) t257 _ A13.out).mono ?_
           rintro e w27 ⟨rfl, hb⟩
           refine ⟨_, rfl, ?_⟩
           have n0_ := Aside0.mk (zS (by repeat (first | (with_reducible first | exact HB.out | apply zA | apply zN | apply zD) | exact HB.out)) hb)
           clear HB
           have HB := n0_
           clear n0_
           (try clear hb)
           (try clear hb2)
           (try clear hk)
           (try clear hi)
           refine hK.out _ _ ⟨(pw_cell_below HB.out hw253_0), (pw_cell_below HB.out hw253_1), (pw_cell_below HB.out hw253_2), (pw_cell_below HB.out hw253_3), (pw_cell_below HB.out hw253_4), (pw_cell_below HB.out hw253_5), (pw_cell_below HB.out hw256_0), (pw_cell_below HB.out hw256_1), (pw_cell_below HB.out hw256_2), (pw_cell_below HB.out hw256_3), (pw_cell_below HB.out hw256_4), (pw_cell_below HB.out hw256_5), (pw_cell_below HB.out hw255_0), (pw_cell_below HB.out hw255_1), (pw_cell_below HB.out hw255_2), (pw_cell_below HB.out hw255_3)⟩ (fun hHeld => ?_)
           clear hK K
           refine norm_ (a' := ?_) ?_ ?_
           rotate_left
           ·show Act.put _ (some 43) _ = _
            simp only [Act.put, List.setIfInBounds_toArray, List.set_cons_zero, List.set_cons_succ, i64_w, i32_w]
            rfl
           refine pure_ (i := 15) (N := some 11) (v := ?_) (a' := ?_) #[true, true, true, true, true, true, true, true, true, true, true, true, true, true, true, true] rfl rfl (any_of HT_.out (by kernel_rfl)) (fun _ _ _ h => h) (Or.inl ⟨by rfl, ?_⟩) ?_ ?_
           rotate_left
           ·intro w'
            go_simp
            with_reducible rfl
           rotate_left
           ·simp only [Act.put, List.setIfInBounds_toArray, List.set_cons_zero, List.set_cons_succ, i64_w, i32_w]
            rfl
           refine done_ (done_of HT_.out (by kernel_rfl)) ?_
           try go_wp2
           go_roundg k1
           case measure => have := HK1.out; omega
           case rel => exact ⟨(x9_1), (wrap64 (x10_1 + 1)), (by first | rfl | (simp; done) | (simp [*]; done)), (by first | rfl | (simp; done) | (simp [*]; done)), H', ⟨by have := HK1.out; omega⟩, ⟨by repeat (first | (with_reducible first | exact HB.out | apply zA | apply zN | apply zD) | exact HB.out)⟩⟩
        ·rw [if_neg c12] at H
         exact absurd H (by simp)
       ·rw [if_neg c11] at H
        exact absurd H (by simp)
      ·rw [if_neg c9] at H
       exact absurd H (by simp)
     ·rw [if_neg c8] at H
      have c8b0 : decide (x10_1 < (l2.length : Int)) = false := decide_eq_false c8
      clear c8
      simp only [Option.some.injEq, Prod.mk.injEq] at H
      obtain ⟨rfl, rfl⟩ := H
      go_wp2
      go_ret2
      exact ⟨by first | rfl | (simp [errW_none, errW_some] <;> rfl) | (simp [*, errW_none, errW_some] <;> rfl), by repeat (first | (with_reducible first | exact HB.out | apply zA | apply zN | apply zD) | exact HB.out)⟩
  ·rw [if_neg c6] at H
   have c6b0 : ((l1.length : Int) == (l0.length : Int)) = false := beq_eq_false_iff_ne.mpr c6
   have c6b1 : ((l1.length : Int) != (l0.length : Int)) = true := bne_iff_ne.mpr c6
   have c6b2 : (l1.length == l0.length) = false := by first | simpa using c6 | (simp at c6 ⊢; omega)
   simp only [Option.some.injEq, Prod.mk.injEq] at H
   obtain ⟨rfl, rfl⟩ := H
   go_enter Try.func14, Try.ntmps14
   go_wp2_with (first | ((with_reducible refine gate_callee (f := 11) rfl ?_); refine goesL_ (some 14) rfl rfl Try.func11 (by kernel_rfl) rfl #[.slice A0 l0.length c0, .slice A2 l2.length c2] rfl (by (try simp only [List.map_toArray, List.map_cons, List.map_nil]); first | done | rfl | (simp only [List.length_drop, List.length_take]; rfl)) ?_; (with_reducible refine (falseworkref18_Check.calls k _ _ l0 _ _ l2 t252 _ ?side1 ?side2 ?side3 ?side4 A4.out).mono ?_); (case side1 => repeat (first | exact HR0.out | (with_reducible refine Kd.C_alloc ?_ _) | (with_reducible refine Kd.C_drewN ?_ _) | (with_reducible refine Kd.C_drew ?_))); (case side2 => exact HC0.out); (case side3 => repeat (first | exact HR2.out | (with_reducible refine Kd.C_alloc ?_ _) | (with_reducible refine Kd.C_drewN ?_ _) | (with_reducible refine Kd.C_drew ?_))); (case side4 => exact HC2.out); rintro e w28 ⟨rfl, hb⟩; refine ⟨_, rfl, ?_⟩; have n0_ := Aside0.mk (zS (by repeat (first | (with_reducible first | exact HB.out | apply zA | apply zN | apply zD) | exact HB.out)) hb); clear HB; have HB := n0_; clear n0_; (try clear hb); (try clear hb2); (try clear hk); (try clear hi)))
   go_ret2
   exact ⟨by first | rfl | (simp [errW_none, errW_some] <;> rfl) | (simp [*, errW_none, errW_some] <;> rfl), by repeat (first | (with_reducible first | exact HB.out | apply zA | apply zN | apply zD) | exact HB.out)⟩
 ·rw [if_neg c5] at H
  have c5b0 : (t252 == 0) = false := beq_eq_false_iff_ne.mpr c5
  have c5b1 : (t252 != 0) = true := bne_iff_ne.mpr c5
  simp only [Option.some.injEq, Prod.mk.injEq] at H
  obtain ⟨rfl, rfl⟩ := H
  go_enter Try.func14, Try.ntmps14
  go_wp2_with (first | ((with_reducible refine gate_callee (f := 11) rfl ?_); refine goesL_ (some 14) rfl rfl Try.func11 (by kernel_rfl) rfl #[.slice A0 l0.length c0, .slice A2 l2.length c2] rfl (by (try simp only [List.map_toArray, List.map_cons, List.map_nil]); first | done | rfl | (simp only [List.length_drop, List.length_take]; rfl)) ?_; (with_reducible refine (falseworkref18_Check.calls k _ _ l0 _ _ l2 t252 _ ?side1 ?side2 ?side3 ?side4 A4.out).mono ?_); (case side1 => repeat (first | exact HR0.out | (with_reducible refine Kd.C_alloc ?_ _) | (with_reducible refine Kd.C_drewN ?_ _) | (with_reducible refine Kd.C_drew ?_))); (case side2 => exact HC0.out); (case side3 => repeat (first | exact HR2.out | (with_reducible refine Kd.C_alloc ?_ _) | (with_reducible refine Kd.C_drewN ?_ _) | (with_reducible refine Kd.C_drew ?_))); (case side4 => exact HC2.out); rintro e w29 ⟨rfl, hb⟩; refine ⟨_, rfl, ?_⟩; have n0_ := Aside0.mk (zS (by repeat (first | (with_reducible first | exact HB.out | apply zA | apply zN | apply zD) | exact HB.out)) hb); clear HB; have HB := n0_; clear n0_; (try clear hb); (try clear hb2); (try clear hk); (try clear hi)))
  go_ret2
  exact ⟨by first | rfl | (simp [errW_none, errW_some] <;> rfl) | (simp [*, errW_none, errW_some] <;> rfl), by repeat (first | (with_reducible first | exact HB.out | apply zA | apply zN | apply zD) | exact HB.out)⟩

end Go.Proofs.Ytcjnmnelhpjhfaa.PA
