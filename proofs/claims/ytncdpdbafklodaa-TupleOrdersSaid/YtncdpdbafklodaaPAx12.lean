/- Contracts of the Go functions of this seat: what each call returns is what a Lean function of its arguments says; each theorem bears its own conditions. Written by a program of this session (wip/tools/mkprint.py). -/
import Derived.Test.YtncdpdbafklodaaPAx0
import Derived.Test.YtncdpdbafklodaaPAx2
import Derived.Test.YtncdpdbafklodaaPAx4
import Derived.Test.YtncdpdbafklodaaPAx6
import Derived.Test.YtncdpdbafklodaaPAx11
namespace Go.Proofs.Ytncdpdbafklodaa.PA
open Go.RowKit Go.Proofs.YtncdpdbafklodaaW.PrintWords Go.Proofs.YtncdpdbafklodaaW.PrintLast Go.Proofs.YtncdpdbafklodaaW.PrintMore
attribute [local go_sem] max2_int min2_int max_two min_two max_three min_three max_four min_four   -- for this text's walks alone
set_option linter.unusedVariables false
set_option linter.unusedSimpArgs false

attribute [local go_sem ↓ high] unary_xor_u64 ux_if_u64
attribute [local go_sem] str_gtr str_leq str_geq
/-! ### falseworklaw3_TupleOrders: function 5 -/
mutual
def falseworklaw3_TupleOrders.j0 : Nat → List (S37) → List (S37) → Bool → Option (Bool)
  | 0, _, _, _ => none
  | k + 1, x0, x1, x16 => if x16 = true then ((falseworklaw3_awake.f k).bind fun t227 => (some t227)) else ((tuple_Put.f k x0).bind fun bt228 => ((tuple_Put.f k x1).bind fun bt230 => ((falseworklaw3_num.f bt228.2).bind fun t232 => (if t232 = 0 then ((falseworklaw3_num.f bt230.2).bind fun t233 => (falseworklaw3_TupleOrders.j1 k x0 x1 bt228.1 bt230.1 (t233 != 0))) else (falseworklaw3_TupleOrders.j1 k x0 x1 bt228.1 bt230.1 true)))))
def falseworklaw3_TupleOrders.j1 : Nat → List (S37) → List (S37) → ByteArray → ByteArray → Bool → Option (Bool)
  | 0, _, _, _, _, _ => none
  | k + 1, x0, x1, x5, x7, x35 => if x35 = true then ((falseworklaw3_awake.f k).bind fun t234 => (some t234)) else (falseworklaw3_TupleOrders.l0 k x0 x1 x5 x7 0)
def falseworklaw3_TupleOrders.l0 : Nat → List (S37) → List (S37) → ByteArray → ByteArray → Int → Option (Bool)
  | 0, _, _, _, _, _ => none
  | k + 1, x0, x1, x5, x7, x9 => if x9 < (x0.length : Int) then (falseworklaw3_TupleOrders.j3 k x0 x1 x5 x7 x9 (decide (x9 < (x1.length : Int)))) else (falseworklaw3_TupleOrders.j3 k x0 x1 x5 x7 x9 false)
def falseworklaw3_TupleOrders.j3 : Nat → List (S37) → List (S37) → ByteArray → ByteArray → Int → Bool → Option (Bool)
  | 0, _, _, _, _, _, _ => none
  | k + 1, x0, x1, x5, x7, x9, x46 => if x46 = true then (if 0 ≤ x9 then (if x9 < (x0.length : Int) then (if x9 < (x1.length : Int) then ((falseworkref2_Cmp.f k ((rd_T37 x0 x9).f0) ((rd_T37 x0 x9).f1) ((rd_T37 x0 x9).f2) ((rd_T37 x0 x9).f3) ((rd_T37 x1 x9).f0) ((rd_T37 x1 x9).f1) ((rd_T37 x1 x9).f2) ((rd_T37 x1 x9).f3)).bind fun t238 => (if t238 = 0 then (falseworklaw3_TupleOrders.l0 k x0 x1 x5 x7 (wrap64 (x9 + 1))) else (if ((Op.bytesLess x5.toList x7.toList) == (decide (t238 < 0))) = true then (if x5.toList = x7.toList then (some false) else ((falseworklaw3_awake.f k).bind fun t239 => (some t239))) else (some false)))) else (none)) else (none)) else (none)) else (if ((Op.bytesLess x5.toList x7.toList) == (decide ((x0.length : Int) < (x1.length : Int)))) = true then (if ((x5.toList == x7.toList) == ((x0.length : Int) == (x1.length : Int))) = true then ((falseworklaw3_awake.f k).bind fun t235 => (some t235)) else (some false)) else (some false))
end
def falseworklaw3_TupleOrders.f (k : Nat) (l0 : List (S37)) (l1 : List (S37)) : Option (Bool) := (falseworklaw3_long.f k l0).bind fun t225 => (if t225 = true then (falseworklaw3_TupleOrders.j0 k l0 l1 true) else ((falseworklaw3_long.f k l1).bind fun t226 => (falseworklaw3_TupleOrders.j0 k l0 l1 t226)))
theorem falseworklaw3_TupleOrders.mono_l : ∀ k, (∀ y0 y1 y2, LeO (falseworklaw3_TupleOrders.j0 k y0 y1 y2) (falseworklaw3_TupleOrders.j0 (k + 1) y0 y1 y2)) ∧ (∀ y0 y1 y2 y3 y4, LeO (falseworklaw3_TupleOrders.j1 k y0 y1 y2 y3 y4) (falseworklaw3_TupleOrders.j1 (k + 1) y0 y1 y2 y3 y4)) ∧ (∀ y0 y1 y2 y3 y4, LeO (falseworklaw3_TupleOrders.l0 k y0 y1 y2 y3 y4) (falseworklaw3_TupleOrders.l0 (k + 1) y0 y1 y2 y3 y4)) ∧ (∀ y0 y1 y2 y3 y4 y5, LeO (falseworklaw3_TupleOrders.j3 k y0 y1 y2 y3 y4 y5) (falseworklaw3_TupleOrders.j3 (k + 1) y0 y1 y2 y3 y4 y5))
  | 0 => ⟨fun _ _ _ r h => by simp [falseworklaw3_TupleOrders.j0] at h, fun _ _ _ _ _ r h => by simp [falseworklaw3_TupleOrders.j1] at h, fun _ _ _ _ _ r h => by simp [falseworklaw3_TupleOrders.l0] at h, fun _ _ _ _ _ _ r h => by simp [falseworklaw3_TupleOrders.j3] at h⟩
  | k + 1 => by
    obtain ⟨ih0, ih1, ih2, ih3⟩ := falseworklaw3_TupleOrders.mono_l k
    refine ⟨?_, ?_, ?_, ?_⟩
    · intro y0 y1 y2
      unfold falseworklaw3_TupleOrders.j0
      repeat' first
      | (with_reducible exact ih0 _ _ _)
      | (with_reducible exact ih1 _ _ _ _ _)
      | (with_reducible exact ih2 _ _ _ _ _)
      | (with_reducible exact ih3 _ _ _ _ _ _)
      | (with_reducible exact falseworklaw3_awake.mono _)
      | (with_reducible exact falseworklaw3_long.mono _ _)
      | (with_reducible exact falseworkref2_Cmp.mono _ _ _ _ _ _ _ _ _)
      | (with_reducible exact tuple_Put.mono _ _)
      | (with_reducible exact LeO.refl _)
      | (with_reducible exact LeO.none _)
      | (with_reducible refine LeO.ite ?_ ?_)
      | (with_reducible refine LeO.bind ?_ (fun _ => ?_))
      | exact ih0 _ _ _
      | exact ih1 _ _ _ _ _
      | exact ih2 _ _ _ _ _
      | exact ih3 _ _ _ _ _ _
      | exact falseworklaw3_awake.mono _
      | exact falseworklaw3_long.mono _ _
      | exact falseworkref2_Cmp.mono _ _ _ _ _ _ _ _ _
      | exact tuple_Put.mono _ _
      | exact LeO.none _
      | refine LeO.ite ?_ ?_
      | refine LeO.bind ?_ (fun _ => ?_)
    · intro y0 y1 y2 y3 y4
      unfold falseworklaw3_TupleOrders.j1
      repeat' first
      | (with_reducible exact ih0 _ _ _)
      | (with_reducible exact ih1 _ _ _ _ _)
      | (with_reducible exact ih2 _ _ _ _ _)
      | (with_reducible exact ih3 _ _ _ _ _ _)
      | (with_reducible exact falseworklaw3_awake.mono _)
      | (with_reducible exact falseworklaw3_long.mono _ _)
      | (with_reducible exact falseworkref2_Cmp.mono _ _ _ _ _ _ _ _ _)
      | (with_reducible exact tuple_Put.mono _ _)
      | (with_reducible exact LeO.refl _)
      | (with_reducible exact LeO.none _)
      | (with_reducible refine LeO.ite ?_ ?_)
      | (with_reducible refine LeO.bind ?_ (fun _ => ?_))
      | exact ih0 _ _ _
      | exact ih1 _ _ _ _ _
      | exact ih2 _ _ _ _ _
      | exact ih3 _ _ _ _ _ _
      | exact falseworklaw3_awake.mono _
      | exact falseworklaw3_long.mono _ _
      | exact falseworkref2_Cmp.mono _ _ _ _ _ _ _ _ _
      | exact tuple_Put.mono _ _
      | exact LeO.none _
      | refine LeO.ite ?_ ?_
      | refine LeO.bind ?_ (fun _ => ?_)
    · intro y0 y1 y2 y3 y4
      unfold falseworklaw3_TupleOrders.l0
      repeat' first
      | (with_reducible exact ih0 _ _ _)
      | (with_reducible exact ih1 _ _ _ _ _)
      | (with_reducible exact ih2 _ _ _ _ _)
      | (with_reducible exact ih3 _ _ _ _ _ _)
      | (with_reducible exact falseworklaw3_awake.mono _)
      | (with_reducible exact falseworklaw3_long.mono _ _)
      | (with_reducible exact falseworkref2_Cmp.mono _ _ _ _ _ _ _ _ _)
      | (with_reducible exact tuple_Put.mono _ _)
      | (with_reducible exact LeO.refl _)
      | (with_reducible exact LeO.none _)
      | (with_reducible refine LeO.ite ?_ ?_)
      | (with_reducible refine LeO.bind ?_ (fun _ => ?_))
      | exact ih0 _ _ _
      | exact ih1 _ _ _ _ _
      | exact ih2 _ _ _ _ _
      | exact ih3 _ _ _ _ _ _
      | exact falseworklaw3_awake.mono _
      | exact falseworklaw3_long.mono _ _
      | exact falseworkref2_Cmp.mono _ _ _ _ _ _ _ _ _
      | exact tuple_Put.mono _ _
      | exact LeO.none _
      | refine LeO.ite ?_ ?_
      | refine LeO.bind ?_ (fun _ => ?_)
    · intro y0 y1 y2 y3 y4 y5
      unfold falseworklaw3_TupleOrders.j3
      repeat' first
      | (with_reducible exact ih0 _ _ _)
      | (with_reducible exact ih1 _ _ _ _ _)
      | (with_reducible exact ih2 _ _ _ _ _)
      | (with_reducible exact ih3 _ _ _ _ _ _)
      | (with_reducible exact falseworklaw3_awake.mono _)
      | (with_reducible exact falseworklaw3_long.mono _ _)
      | (with_reducible exact falseworkref2_Cmp.mono _ _ _ _ _ _ _ _ _)
      | (with_reducible exact tuple_Put.mono _ _)
      | (with_reducible exact LeO.refl _)
      | (with_reducible exact LeO.none _)
      | (with_reducible refine LeO.ite ?_ ?_)
      | (with_reducible refine LeO.bind ?_ (fun _ => ?_))
      | exact ih0 _ _ _
      | exact ih1 _ _ _ _ _
      | exact ih2 _ _ _ _ _
      | exact ih3 _ _ _ _ _ _
      | exact falseworklaw3_awake.mono _
      | exact falseworklaw3_long.mono _ _
      | exact falseworkref2_Cmp.mono _ _ _ _ _ _ _ _ _
      | exact tuple_Put.mono _ _
      | exact LeO.none _
      | refine LeO.ite ?_ ?_
      | refine LeO.bind ?_ (fun _ => ?_)
theorem falseworklaw3_TupleOrders.mono : ∀ a0 a1 k, LeO (falseworklaw3_TupleOrders.f k a0 a1) (falseworklaw3_TupleOrders.f (k + 1) a0 a1) := by
  intro a0 a1 k
  obtain ⟨ih0, ih1, ih2, ih3⟩ := falseworklaw3_TupleOrders.mono_l k
  unfold falseworklaw3_TupleOrders.f
  repeat' first
      | (with_reducible exact ih0 _ _ _)
      | (with_reducible exact ih1 _ _ _ _ _)
      | (with_reducible exact ih2 _ _ _ _ _)
      | (with_reducible exact ih3 _ _ _ _ _ _)
      | (with_reducible exact falseworklaw3_awake.mono _)
      | (with_reducible exact falseworklaw3_long.mono _ _)
      | (with_reducible exact falseworkref2_Cmp.mono _ _ _ _ _ _ _ _ _)
      | (with_reducible exact tuple_Put.mono _ _)
      | (with_reducible exact LeO.refl _)
      | (with_reducible exact LeO.none _)
      | (with_reducible refine LeO.ite ?_ ?_)
      | (with_reducible refine LeO.bind ?_ (fun _ => ?_))
      | exact ih0 _ _ _
      | exact ih1 _ _ _ _ _
      | exact ih2 _ _ _ _ _
      | exact ih3 _ _ _ _ _ _
      | exact falseworklaw3_awake.mono _
      | exact falseworklaw3_long.mono _ _
      | exact falseworkref2_Cmp.mono _ _ _ _ _ _ _ _ _
      | exact tuple_Put.mono _ _
      | exact LeO.none _
      | refine LeO.ite ?_ ?_
      | refine LeO.bind ?_ (fun _ => ?_)
def falseworklaw3_TupleOrders.T10 : Bool × List (List Nat × List Nat) := (true, [([], []), ([], []), ([0, 1], [0, 1]), ([2], [2]), ([], []), ([], []), ([4, 5], [4, 5]), ([6], [6]), ([3, 7], [3, 7]), ([8, 8, 0, 1, 2, 3, 4, 5, 6, 7, 8], [8])])
def falseworklaw3_TupleOrders.B10 : List Nat := [0, 0, 3, 7, 0, 0, 48, 112, 255, 511]
theorem falseworklaw3_TupleOrders.tab10 : rtab .any (opsOf Try.f5 10) = falseworklaw3_TupleOrders.T10 := by kernel_rfl
theorem falseworklaw3_TupleOrders.bits10 : waitsOk falseworklaw3_TupleOrders.T10.2 falseworklaw3_TupleOrders.B10 = true := by kernel_rfl
set_option maxHeartbeats 8000000 in
set_option maxRecDepth 100000 in
theorem falseworklaw3_TupleOrders.calls (k : Nat) (A0 : Option Addr) (c0 : Nat) (l0 : List (S37)) (A1 : Option Addr) (c1 : Nat) (l1 : List (S37)) (r : Bool) (w : World) (hr0 : Kd.C k37 w A0 l0.length l0) (hc0 : l0.length ≤ c0) (hr1 : Kd.C k37 w A1 l1.length l1) (hc1 : l1.length ≤ c1) (h : falseworklaw3_TupleOrders.f k l0 l1 = some r) :
    Calls Try.prog 5 #[.slice A0 l0.length c0, .slice A1 l1.length c1] w fun e w' => e = .returned (.bool r) ∧ Below w.heap.size w w' := by
  have hu37 := Try.underlying37
  have HR0 := Aside0.mk hr0
  have HC0 := Aside0.mk hc0
  clear hr0 hc0
  have HR1 := Aside0.mk hr1
  have HC1 := Aside0.mk hc1
  clear hr1 hc1
  have HB := Aside0.mk (Below.refl w.heap.size w)
  have H : ((falseworklaw3_long.f k l0).bind fun t225 => (if t225 = true then (falseworklaw3_TupleOrders.j0 k l0 l1 true) else ((falseworklaw3_long.f k l1).bind fun t226 => (falseworklaw3_TupleOrders.j0 k l0 l1 t226)))) = some r := h
  clear h
  have HC3 := Aside0.mk H
  clear H
  go_enter Try.func5, Try.ntmps5
  go_upto_region 1 with (fail)
  go_cut [16] (fun v16 wc => ∃ (kq : Nat) (x16_2 : Bool), v16 = .bool x16_2 ∧ Aside0 (falseworklaw3_TupleOrders.j0 kq l0 l1 x16_2 = some r) ∧ Aside0 (kq ≤ k) ∧ Aside0 (Below w.heap.size w wc))
  case first =>
    have H := HC3.out
    clear HC3
    replace H := Option.bind_eq_some_iff.mp H
    obtain ⟨t225, A40, H⟩ := H
    replace H : (if t225 = true then (falseworklaw3_TupleOrders.j0 k l0 l1 true) else ((falseworklaw3_long.f k l1).bind fun t226 => (falseworklaw3_TupleOrders.j0 k l0 l1 t226))) = some r := H
    have A4 := Aside0.mk A40
    clear A40
    by_cases c5 : t225 = true
    · subst c5
      have H1 : (falseworklaw3_TupleOrders.j0 k l0 l1 true) = some r := by rw [if_pos rfl] at H; exact H
      clear H
      have H := H1
      clear H1
      have H' := Aside0.mk H
      clear H
      go_wp2_with (first | ((with_reducible refine gate_callee (f := 9) rfl ?_); refine goesL_ (some 12) rfl rfl Try.func9 (by kernel_rfl) rfl #[.slice A0 l0.length c0] rfl (by (try simp only [List.map_toArray, List.map_cons, List.map_nil]); first | done | rfl | (simp only [List.length_drop, List.length_take]; rfl)) ?_; (with_reducible refine (falseworklaw3_long.calls k _ _ l0 true _ ?side1 ?side2 A4.out).mono ?_); (case side1 => repeat (first | exact (Kd.C_below HR0.out HB.out) | (with_reducible refine Kd.C_alloc ?_ _) | (with_reducible refine Kd.C_drewN ?_ _) | (with_reducible refine Kd.C_drew ?_))); (case side2 => exact HC0.out); rintro e w' ⟨rfl, ⟨nd, rfl⟩⟩; refine ⟨_, rfl, ?_⟩))
      go_meet
      case rel => exact ⟨_, (true), (by first | rfl | (simp; done) | (simp [*]; done)), H', ⟨by first | omega | exact Nat.le_refl _⟩, ⟨by repeat (first | (with_reducible first | exact HB.out | apply below_alloc | apply pw_below_drewN | apply below_drew1) | exact HB.out)⟩⟩
    · replace c5 := Bool.eq_false_iff.mpr c5
      subst c5
      have H1 : ((falseworklaw3_long.f k l1).bind fun t226 => (falseworklaw3_TupleOrders.j0 k l0 l1 t226)) = some r := by rw [if_neg (show ¬ (false = true) by decide)] at H; exact H
      clear H
      have H := H1
      clear H1
      replace H := Option.bind_eq_some_iff.mp H
      obtain ⟨t226, A60, H⟩ := H
      replace H : (falseworklaw3_TupleOrders.j0 k l0 l1 t226) = some r := H
      have A6 := Aside0.mk A60
      clear A60
      have H' := Aside0.mk H
      clear H
      go_wp2_with (first | ((with_reducible refine gate_callee (f := 9) rfl ?_); refine goesL_ (some 12) rfl rfl Try.func9 (by kernel_rfl) rfl #[.slice A0 l0.length c0] rfl (by (try simp only [List.map_toArray, List.map_cons, List.map_nil]); first | done | rfl | (simp only [List.length_drop, List.length_take]; rfl)) ?_; (with_reducible refine (falseworklaw3_long.calls k _ _ l0 false _ ?side1 ?side2 A4.out).mono ?_); (case side1 => repeat (first | exact (Kd.C_below HR0.out HB.out) | (with_reducible refine Kd.C_alloc ?_ _) | (with_reducible refine Kd.C_drewN ?_ _) | (with_reducible refine Kd.C_drew ?_))); (case side2 => exact HC0.out); rintro e w' ⟨rfl, ⟨nd, rfl⟩⟩; refine ⟨_, rfl, ?_⟩) | (go_at_call 9; (with_reducible refine (falseworklaw3_long.calls k _ _ l1 t226 _ ?side1 ?side2 A6.out).mono ?_); (case side1 => repeat (first | exact (Kd.C_below HR1.out (by repeat (first | (with_reducible first | exact HB.out | apply below_alloc | apply pw_below_drewN | apply below_drew1) | exact HB.out))) | (with_reducible refine Kd.C_alloc ?_ _) | (with_reducible refine Kd.C_drewN ?_ _) | (with_reducible refine Kd.C_drew ?_))); (case side2 => exact HC1.out); rintro e w' ⟨rfl, ⟨nd, rfl⟩⟩))
      go_meet
      case rel => exact ⟨_, (t226), (by first | rfl | (simp; done) | (simp [*]; done)), H', ⟨by first | omega | exact Nat.le_refl _⟩, ⟨by repeat (first | (with_reducible first | exact HB.out | apply below_alloc | apply pw_below_drewN | apply below_drew1) | exact HB.out)⟩⟩
  case rest =>
    clear HC3
    try clear c1
    try clear p2
    try clear c5
    obtain ⟨kq, x16_2, rfl, HA, HJ2, HB⟩ := hcut
    cases kq with
    | zero => exact absurd HA.out (by simp [falseworklaw3_TupleOrders.j0])
    | succ kj2 =>
      have H := HA.out
      clear HA
      simp only [falseworklaw3_TupleOrders.j0] at H
      by_cases c7 : x16_2 = true
      · subst c7
        have H1 : ((falseworklaw3_awake.f kj2).bind fun t227 => (some t227)) = some r := by rw [if_pos rfl] at H; exact H
        clear H
        have H := H1
        clear H1
        replace H := Option.bind_eq_some_iff.mp H
        obtain ⟨t227, A80, H⟩ := H
        replace H : (some t227) = some r := H
        have A8 := Aside0.mk A80
        clear A80
        obtain rfl := Option.some.inj H
        go_wp2_with (first | ((with_reducible refine gate_callee (f := 10) rfl ?_); refine goesL_ (some 17) rfl rfl Try.func10 (by kernel_rfl) rfl #[] rfl (by (try simp only [List.map_toArray, List.map_cons, List.map_nil]); first | done | rfl | (simp only [List.length_drop, List.length_take]; rfl)) ?_; (with_reducible refine (falseworklaw3_awake.calls kj2  t227 _ A8.out).mono ?_); rintro e w9 ⟨rfl, hb⟩; refine ⟨_, rfl, ?_⟩; have n0_ := Aside0.mk (below_step (by repeat (first | (with_reducible first | exact HB.out | apply below_alloc | apply pw_below_drewN | apply below_drew1) | exact HB.out)) hb); clear HB; have HB := n0_; clear n0_; (try clear hb); (try clear hb2); (try clear hk); (try clear hi)))
        go_ret
        exact ⟨by first | rfl | (simp [errW_none, errW_some] <;> rfl) | (simp [*, errW_none, errW_some] <;> rfl), by repeat (first | (with_reducible first | exact HB.out | apply below_alloc | apply pw_below_drewN | apply below_drew1) | exact HB.out)⟩
      · replace c7 := Bool.eq_false_iff.mpr c7
        subst c7
        have H1 : ((tuple_Put.f kj2 l0).bind fun bt228 => ((tuple_Put.f kj2 l1).bind fun bt230 => ((falseworklaw3_num.f bt228.2).bind fun t232 => (if t232 = 0 then ((falseworklaw3_num.f bt230.2).bind fun t233 => (falseworklaw3_TupleOrders.j1 kj2 l0 l1 bt228.1 bt230.1 (t233 != 0))) else (falseworklaw3_TupleOrders.j1 kj2 l0 l1 bt228.1 bt230.1 true))))) = some r := by rw [if_neg (show ¬ (false = true) by decide)] at H; exact H
        clear H
        have H := H1
        clear H1
        replace H := Option.bind_eq_some_iff.mp H
        obtain ⟨⟨t228, t229⟩, A100, H⟩ := H
        replace H : ((tuple_Put.f kj2 l1).bind fun bt230 => ((falseworklaw3_num.f t229).bind fun t232 => (if t232 = 0 then ((falseworklaw3_num.f bt230.2).bind fun t233 => (falseworklaw3_TupleOrders.j1 kj2 l0 l1 t228 bt230.1 (t233 != 0))) else (falseworklaw3_TupleOrders.j1 kj2 l0 l1 t228 bt230.1 true)))) = some r := H
        have A10 := Aside0.mk A100
        clear A100
        replace H := Option.bind_eq_some_iff.mp H
        obtain ⟨⟨t230, t231⟩, A110, H⟩ := H
        replace H : ((falseworklaw3_num.f t229).bind fun t232 => (if t232 = 0 then ((falseworklaw3_num.f t231).bind fun t233 => (falseworklaw3_TupleOrders.j1 kj2 l0 l1 t228 t230 (t233 != 0))) else (falseworklaw3_TupleOrders.j1 kj2 l0 l1 t228 t230 true))) = some r := H
        have A11 := Aside0.mk A110
        clear A110
        have HC12 := Aside0.mk H
        clear H
        go_upto_region 5 with (first | ((with_reducible refine gate_callee (f := 11) rfl ?_); refine goesL_ (some 20) rfl rfl Try.func11 (by kernel_rfl) rfl #[.slice A0 l0.length c0] rfl (by (try simp only [List.map_toArray, List.map_cons, List.map_nil]); first | done | rfl | (simp only [List.length_drop, List.length_take]; rfl)) ?_; (with_reducible refine (tuple_Put.calls kj2 _ _ l0 t228 t229 _ ?side1 ?side2 A10.out).mono ?_); (case side1 => repeat (first | exact (Kd.C_below HR0.out HB.out) | (with_reducible refine Kd.C_alloc ?_ _) | (with_reducible refine Kd.C_drewN ?_ _) | (with_reducible refine Kd.C_drew ?_))); (case side2 => exact HC0.out); rintro e w13 ⟨rfl, hb⟩; refine ⟨_, rfl, ?_⟩; have n0_ := Aside0.mk (below_step (by repeat (first | (with_reducible first | exact HB.out | apply below_alloc | apply pw_below_drewN | apply below_drew1) | exact HB.out)) hb); clear HB; have HB := n0_; clear n0_; (try clear hb); (try clear hb2); (try clear hk); (try clear hi)) | ((with_reducible refine gate_callee (f := 11) rfl ?_); refine goesL_ (some 25) rfl rfl Try.func11 (by kernel_rfl) rfl #[.slice A1 l1.length c1] rfl (by (try simp only [List.map_toArray, List.map_cons, List.map_nil]); first | done | rfl | (simp only [List.length_drop, List.length_take]; rfl)) ?_; (with_reducible refine (tuple_Put.calls kj2 _ _ l1 t230 t231 _ ?side1 ?side2 A11.out).mono ?_); (case side1 => repeat (first | exact (Kd.C_below HR1.out HB.out) | (with_reducible refine Kd.C_alloc ?_ _) | (with_reducible refine Kd.C_drewN ?_ _) | (with_reducible refine Kd.C_drew ?_))); (case side2 => exact HC1.out); rintro e w14 ⟨rfl, hb⟩; refine ⟨_, rfl, ?_⟩; have n0_ := Aside0.mk (below_step (by repeat (first | (with_reducible first | exact HB.out | apply below_alloc | apply pw_below_drewN | apply below_drew1) | exact HB.out)) hb); clear HB; have HB := n0_; clear n0_; (try clear hb); (try clear hb2); (try clear hk); (try clear hi)))
        (try simp only [Act.put, List.setIfInBounds_toArray, List.set_cons_zero, List.set_cons_succ])
        go_cut [35] (fun v35 wc => ∃ (kq : Nat) (x35_11 : Bool), v35 = .bool x35_11 ∧ Aside0 (falseworklaw3_TupleOrders.j1 kq l0 l1 t228 t230 x35_11 = some r) ∧ Aside0 (kq ≤ kj2) ∧ Aside0 (Below w.heap.size w wc))
        case first =>
          have H := HC12.out
          clear HC12
          replace H := Option.bind_eq_some_iff.mp H
          obtain ⟨t232, A150, H⟩ := H
          replace H : (if t232 = 0 then ((falseworklaw3_num.f t231).bind fun t233 => (falseworklaw3_TupleOrders.j1 kj2 l0 l1 t228 t230 (t233 != 0))) else (falseworklaw3_TupleOrders.j1 kj2 l0 l1 t228 t230 true)) = some r := H
          have A15 := Aside0.mk A150
          clear A150
          by_cases c16 : t232 = 0
          · rw [if_pos c16] at H
            have c16b0 : (t232 == 0) = true := beq_iff_eq.mpr c16
            have c16b1 : (t232 != 0) = false := bne_eq_false_iff_eq.mpr c16
            clear c16
            (first | rw [c16b0] | (simp only [i64_w, i32_w]; rw [c16b0]) | skip)
            replace H := Option.bind_eq_some_iff.mp H
            obtain ⟨t233, A170, H⟩ := H
            replace H : (falseworklaw3_TupleOrders.j1 kj2 l0 l1 t228 t230 (t233 != 0)) = some r := H
            have A17 := Aside0.mk A170
            clear A170
            have H' := Aside0.mk H
            clear H
            go_wp2_with (first | ((with_reducible refine gate_callee (f := 13) rfl ?_); refine goesL_ (some 29) rfl rfl Try.func13 (by kernel_rfl) rfl #[.int .i64 t229] rfl (by (try simp only [List.map_toArray, List.map_cons, List.map_nil]); first | done | rfl | (simp only [List.length_drop, List.length_take]; rfl)) ?_; (with_reducible refine (falseworklaw3_num.calls t229 t232 _ A15.out).mono ?_); rintro e w' ⟨rfl, ⟨nd, rfl⟩⟩; refine ⟨_, rfl, ?_⟩) | (go_at_call 13; (with_reducible refine (falseworklaw3_num.calls t231 t233 _ A17.out).mono ?_); rintro e w' ⟨rfl, ⟨nd, rfl⟩⟩))
            go_meet
            case rel => exact ⟨_, ((t233 != 0)), (by first | rfl | (simp; done) | (simp [*]; done)), H', ⟨by have := HJ2.out; first | omega | exact Nat.le_refl _⟩, ⟨by repeat (first | (with_reducible first | exact HB.out | apply below_alloc | apply pw_below_drewN | apply below_drew1) | exact HB.out)⟩⟩
          · rw [if_neg c16] at H
            have c16b0 : (t232 == 0) = false := beq_eq_false_iff_ne.mpr c16
            have c16b1 : (t232 != 0) = true := bne_iff_ne.mpr c16
            (first | rw [c16b0] | (simp only [i64_w, i32_w]; rw [c16b0]) | skip)
            have H' := Aside0.mk H
            clear H
            go_wp2_with (first | ((with_reducible refine gate_callee (f := 13) rfl ?_); refine goesL_ (some 29) rfl rfl Try.func13 (by kernel_rfl) rfl #[.int .i64 t229] rfl (by (try simp only [List.map_toArray, List.map_cons, List.map_nil]); first | done | rfl | (simp only [List.length_drop, List.length_take]; rfl)) ?_; (with_reducible refine (falseworklaw3_num.calls t229 t232 _ A15.out).mono ?_); rintro e w' ⟨rfl, ⟨nd, rfl⟩⟩; refine ⟨_, rfl, ?_⟩))
            go_meet
            case rel => exact ⟨_, (true), (by first | rfl | (simp; done) | (simp [*]; done)), H', ⟨by have := HJ2.out; first | omega | exact Nat.le_refl _⟩, ⟨by repeat (first | (with_reducible first | exact HB.out | apply below_alloc | apply pw_below_drewN | apply below_drew1) | exact HB.out)⟩⟩
        case rest =>
          clear HC12
          try clear c1
          try clear p2
          try clear c5
          try clear c7
          try clear c9
          try clear c10
          try clear c11
          try clear c13
          try clear c16
          try clear c16b0
          try clear c16b1
          try clear p2
          obtain ⟨kq, x35_11, rfl, HA, HJ11, HB⟩ := hcut
          cases kq with
          | zero => exact absurd HA.out (by simp [falseworklaw3_TupleOrders.j1])
          | succ kj11 =>
            have H := HA.out
            clear HA
            simp only [falseworklaw3_TupleOrders.j1] at H
            by_cases c18 : x35_11 = true
            · subst c18
              have H1 : ((falseworklaw3_awake.f kj11).bind fun t234 => (some t234)) = some r := by rw [if_pos rfl] at H; exact H
              clear H
              have H := H1
              clear H1
              replace H := Option.bind_eq_some_iff.mp H
              obtain ⟨t234, A190, H⟩ := H
              replace H : (some t234) = some r := H
              have A19 := Aside0.mk A190
              clear A190
              obtain rfl := Option.some.inj H
              go_wp2_with (first | ((with_reducible refine gate_callee (f := 10) rfl ?_); refine goesL_ (some 36) rfl rfl Try.func10 (by kernel_rfl) rfl #[] rfl (by (try simp only [List.map_toArray, List.map_cons, List.map_nil]); first | done | rfl | (simp only [List.length_drop, List.length_take]; rfl)) ?_; (with_reducible refine (falseworklaw3_awake.calls kj11  t234 _ A19.out).mono ?_); rintro e w20 ⟨rfl, hb⟩; refine ⟨_, rfl, ?_⟩; have n0_ := Aside0.mk (below_step (by repeat (first | (with_reducible first | exact HB.out | apply below_alloc | apply pw_below_drewN | apply below_drew1) | exact HB.out)) hb); clear HB; have HB := n0_; clear n0_; (try clear hb); (try clear hb2); (try clear hk); (try clear hi)))
              go_ret
              exact ⟨by first | rfl | (simp [errW_none, errW_some] <;> rfl) | (simp [*, errW_none, errW_some] <;> rfl), by repeat (first | (with_reducible first | exact HB.out | apply below_alloc | apply pw_below_drewN | apply below_drew1) | exact HB.out)⟩
            · replace c18 := Bool.eq_false_iff.mpr c18
              subst c18
              have H1 : (falseworklaw3_TupleOrders.l0 kj11 l0 l1 t228 t230 0) = some r := by rw [if_neg (show ¬ (false = true) by decide)] at H; exact H
              clear H
              have H := H1
              clear H1
              have H' := Aside0.mk H
              clear H
              go_wp2
              go_loopg [9] kj11 (fun kq v9 w' => ∃ (x9_3 : Int), v9 = .int .i64 x9_3 ∧ Aside0 (falseworklaw3_TupleOrders.l0 kq l0 l1 t228 t230 x9_3 = some r) ∧ Aside0 (kq ≤ kj11) ∧ Aside0 (Below w.heap.size w w'))
              case atStart => exact ⟨(0), (by first | rfl | (simp; done) | (simp [*]; done)), H', ⟨Nat.le_refl _⟩, ⟨by repeat (first | (with_reducible first | exact HB.out | apply below_alloc | apply pw_below_drewN | apply below_drew1) | exact HB.out)⟩⟩
              case round =>
                clear H'
                try clear c1
                try clear p2
                try clear c5
                try clear c7
                try clear c9
                try clear c10
                try clear c11
                try clear c13
                try clear c16
                try clear c16b0
                try clear c16b1
                try clear c18
                try clear p2
                obtain ⟨x9_3, rfl, HA, HK3, HB⟩ := hrel
                cases gk with
                | zero => exact absurd HA.out (by simp [falseworklaw3_TupleOrders.l0])
                | succ k3 =>
                  have H := HA.out
                  clear HA
                  simp only [falseworklaw3_TupleOrders.l0] at H
                  have HC21 := Aside0.mk H
                  clear H
                  go_upto_region 8 with (fail)
                  go_cut [46] (fun v46 wc => ∃ (kq : Nat) (x46_20 : Bool), v46 = .bool x46_20 ∧ Aside0 (falseworklaw3_TupleOrders.j3 kq l0 l1 t228 t230 x9_3 x46_20 = some r) ∧ Aside0 (kq ≤ k3) ∧ Aside0 (Below w.heap.size w wc))
                  case first =>
                    have H := HC21.out
                    clear HC21
                    by_cases c22 : x9_3 < (l0.length : Int)
                    · rw [if_pos c22] at H
                      have c22b0 : decide (x9_3 < (l0.length : Int)) = true := decide_eq_true c22
                      clear c22
                      (first | rw [c22b0] | (simp only [i64_w, i32_w]; rw [c22b0]) | skip)
                      have H' := Aside0.mk H
                      clear H
                      go_wp2
                      go_meet
                      case rel => exact ⟨_, (decide (x9_3 < (l1.length : Int))), (by first | rfl | (simp; done) | (simp [*]; done)), H', ⟨by have := HJ2.out; have := HJ11.out; have := HK3.out; first | omega | exact Nat.le_refl _⟩, ⟨by repeat (first | (with_reducible first | exact HB.out | apply below_alloc | apply pw_below_drewN | apply below_drew1) | exact HB.out)⟩⟩
                    · rw [if_neg c22] at H
                      have c22b0 : decide (x9_3 < (l0.length : Int)) = false := decide_eq_false c22
                      clear c22
                      (first | rw [c22b0] | (simp only [i64_w, i32_w]; rw [c22b0]) | skip)
                      have H' := Aside0.mk H
                      clear H
                      go_wp2
                      go_meet
                      case rel => exact ⟨_, (false), (by first | rfl | (simp; done) | (simp [*]; done)), H', ⟨by have := HJ2.out; have := HJ11.out; have := HK3.out; first | omega | exact Nat.le_refl _⟩, ⟨by repeat (first | (with_reducible first | exact HB.out | apply below_alloc | apply pw_below_drewN | apply below_drew1) | exact HB.out)⟩⟩
                  case rest =>
                    clear HC21
                    try clear c1
                    try clear c2
                    try clear p2
                    try clear c5
                    try clear c7
                    try clear c9
                    try clear c10
                    try clear c11
                    try clear c13
                    try clear c16
                    try clear c16b0
                    try clear c16b1
                    try clear c18
                    try clear c22
                    try clear c22b0
                    try clear p2
                    obtain ⟨kq, x46_20, rfl, HA, HJ20, HB⟩ := hcut
                    cases kq with
                    | zero => exact absurd HA.out (by simp [falseworklaw3_TupleOrders.j3])
                    | succ kj20 =>
                      have H := HA.out
                      clear HA
                      simp only [falseworklaw3_TupleOrders.j3] at H
                      by_cases c23 : x46_20 = true
                      · subst c23
                        have H1 : (if 0 ≤ x9_3 then (if x9_3 < (l0.length : Int) then (if x9_3 < (l1.length : Int) then ((falseworkref2_Cmp.f kj20 ((rd_T37 l0 x9_3).f0) ((rd_T37 l0 x9_3).f1) ((rd_T37 l0 x9_3).f2) ((rd_T37 l0 x9_3).f3) ((rd_T37 l1 x9_3).f0) ((rd_T37 l1 x9_3).f1) ((rd_T37 l1 x9_3).f2) ((rd_T37 l1 x9_3).f3)).bind fun t238 => (if t238 = 0 then (falseworklaw3_TupleOrders.l0 kj20 l0 l1 t228 t230 (wrap64 (x9_3 + 1))) else (if ((Op.bytesLess t228.toList t230.toList) == (decide (t238 < 0))) = true then (if t228.toList = t230.toList then (some false) else ((falseworklaw3_awake.f kj20).bind fun t239 => (some t239))) else (some false)))) else (none)) else (none)) else (none)) = some r := by rw [if_pos rfl] at H; exact H
                        clear H
                        have H := H1
                        clear H1
                        by_cases c24 : 0 ≤ x9_3
                        · rw [if_pos c24] at H
                          have c24b0 : decide (0 ≤ x9_3) = true := decide_eq_true c24
                          clear c24
                          by_cases c25 : x9_3 < (l0.length : Int)
                          · rw [if_pos c25] at H
                            have c25b0 : decide (x9_3 < (l0.length : Int)) = true := decide_eq_true c25
                            clear c25
                            by_cases c26 : x9_3 < (l1.length : Int)
                            · rw [if_pos c26] at H
                              have c26b0 : decide (x9_3 < (l1.length : Int)) = true := decide_eq_true c26
                              clear c26
                              replace H := Option.bind_eq_some_iff.mp H
                              obtain ⟨t238, A270, H⟩ := H
                              replace H : (if t238 = 0 then (falseworklaw3_TupleOrders.l0 kj20 l0 l1 t228 t230 (wrap64 (x9_3 + 1))) else (if ((Op.bytesLess t228.toList t230.toList) == (decide (t238 < 0))) = true then (if t228.toList = t230.toList then (some false) else ((falseworklaw3_awake.f kj20).bind fun t239 => (some t239))) else (some false))) = some r := H
                              have A27 := Aside0.mk A270
                              clear A270
                              by_cases c28 : t238 = 0
                              · rw [if_pos c28] at H
                                have c28b0 : (t238 == 0) = true := beq_iff_eq.mpr c28
                                have c28b1 : (t238 != 0) = false := bne_eq_false_iff_eq.mpr c28
                                clear c28
                                have H' := Aside0.mk H
                                clear H
                                try go_wp2
                                have n0_ := Aside0.mk (below_drew1 HB.out)
                                clear HB
                                have HB := n0_
                                clear n0_
                                have p236 : 0 ≤ (x9_3 : Int) := of_decide_eq_true (by first | (with_reducible assumption) | assumption)
                                have q236 : x9_3 < (l0.length : Int) := of_decide_eq_true (by first | (with_reducible assumption) | assumption)
                                obtain ⟨ad236, e236, hx236_0, hx236_1, hx236_2, hx236_3⟩ := at_T37 HR0.out x9_3 p236 q236
                                have hw236_3 := hx236_3
                                have hw236_2 := hx236_2
                                have hw236_1 := hx236_1
                                have hw236_0 := hx236_0
                                cases e236
                                replace hx236_0 := (HB.out.cell (World.block_lt_of_cell? w _ hx236_0)).trans hx236_0
                                replace hx236_1 := (HB.out.cell (World.block_lt_of_cell? w _ hx236_1)).trans hx236_1
                                replace hx236_2 := (HB.out.cell (World.block_lt_of_cell? w _ hx236_2)).trans hx236_2
                                replace hx236_3 := (HB.out.cell (World.block_lt_of_cell? w _ hx236_3)).trans hx236_3
                                replace p236 := eq_true p236
                                replace q236 := eq_true q236
                                have p237 : 0 ≤ (x9_3 : Int) := of_decide_eq_true (by first | (with_reducible assumption) | assumption)
                                have q237 : x9_3 < (l1.length : Int) := of_decide_eq_true (by first | (with_reducible assumption) | assumption)
                                obtain ⟨ad237, e237, hx237_0, hx237_1, hx237_2, hx237_3⟩ := at_T37 HR1.out x9_3 p237 q237
                                have hw237_3 := hx237_3
                                have hw237_2 := hx237_2
                                have hw237_1 := hx237_1
                                have hw237_0 := hx237_0
                                cases e237
                                replace hx237_0 := (HB.out.cell (World.block_lt_of_cell? w _ hx237_0)).trans hx237_0
                                replace hx237_1 := (HB.out.cell (World.block_lt_of_cell? w _ hx237_1)).trans hx237_1
                                replace hx237_2 := (HB.out.cell (World.block_lt_of_cell? w _ hx237_2)).trans hx237_2
                                replace hx237_3 := (HB.out.cell (World.block_lt_of_cell? w _ hx237_3)).trans hx237_3
                                replace p237 := eq_true p237
                                replace q237 := eq_true q237
                                refine start_ (n := 10) (S := fun w' => w'.cell? (ad236.add ((x9_3).toNat * 4)) = some (.int .i64 ((rd_T37 l0 x9_3).f0)) ∧ w'.cell? ⟨(ad236.add ((x9_3).toNat * 4)).block, (ad236.add ((x9_3).toNat * 4)).off + 1, none⟩ = some (.int .i64 ((rd_T37 l0 x9_3).f1)) ∧ w'.cell? ⟨(ad236.add ((x9_3).toNat * 4)).block, (ad236.add ((x9_3).toNat * 4)).off + 2, none⟩ = some (.int .u64 ((rd_T37 l0 x9_3).f2)) ∧ w'.cell? ⟨(ad236.add ((x9_3).toNat * 4)).block, (ad236.add ((x9_3).toNat * 4)).off + 3, none⟩ = some (.string ((rd_T37 l0 x9_3).f3)) ∧ w'.cell? (ad237.add ((x9_3).toNat * 4)) = some (.int .i64 ((rd_T37 l1 x9_3).f0)) ∧ w'.cell? ⟨(ad237.add ((x9_3).toNat * 4)).block, (ad237.add ((x9_3).toNat * 4)).off + 1, none⟩ = some (.int .i64 ((rd_T37 l1 x9_3).f1)) ∧ w'.cell? ⟨(ad237.add ((x9_3).toNat * 4)).block, (ad237.add ((x9_3).toNat * 4)).off + 2, none⟩ = some (.int .u64 ((rd_T37 l1 x9_3).f2)) ∧ w'.cell? ⟨(ad237.add ((x9_3).toNat * 4)).block, (ad237.add ((x9_3).toNat * 4)).off + 3, none⟩ = some (.string ((rd_T37 l1 x9_3).f3))) (ds := []) #[false, false, false, false, false, false, false, false, false, false] (by kernel_rfl) rfl rfl ⟨((HB.out.cell (World.block_lt_of_cell? w _ hw236_0)).trans hw236_0), ((HB.out.cell (World.block_lt_of_cell? w _ hw236_1)).trans hw236_1), ((HB.out.cell (World.block_lt_of_cell? w _ hw236_2)).trans hw236_2), ((HB.out.cell (World.block_lt_of_cell? w _ hw236_3)).trans hw236_3), ((HB.out.cell (World.block_lt_of_cell? w _ hw237_0)).trans hw237_0), ((HB.out.cell (World.block_lt_of_cell? w _ hw237_1)).trans hw237_1), ((HB.out.cell (World.block_lt_of_cell? w _ hw237_2)).trans hw237_2), ((HB.out.cell (World.block_lt_of_cell? w _ hw237_3)).trans hw237_3)⟩ (fun hHeld => ?_); refine with_tabW falseworklaw3_TupleOrders.tab10 falseworklaw3_TupleOrders.bits10 (fun HT_ HW_ => ?_)
                                generalize wc.drew = w29 at HB hx236_0 hx236_1 hx236_2 hx236_3 hx237_0 hx237_1 hx237_2 hx237_3 hHeld ⊢
                                refine pure_ (i := 0) (N := some 49) (v := ?_) (a' := ?_) #[true, false, false, false, false, false, false, false, false, false] rfl rfl (any_of HT_.out (by kernel_rfl)) (fun _ _ _ h => h) (Or.inl ⟨by rfl, ?_⟩) ?_ ?_
                                rotate_left
                                · intro w'
                                  go_simp
                                  with_reducible rfl
                                rotate_left
                                · simp only [Act.put, List.setIfInBounds_toArray, List.set_cons_zero, List.set_cons_succ, i64_w, i32_w]
                                  rfl
                                refine pure_ (i := 1) (N := some 50) (v := ?_) (a' := ?_) #[true, true, false, false, false, false, false, false, false, false] rfl rfl (any_of HT_.out (by kernel_rfl)) (fun _ _ _ h => h) (Or.inl ⟨by rfl, ?_⟩) ?_ ?_
                                rotate_left
                                · intro w'
                                  go_simp
                                  with_reducible rfl
                                rotate_left
                                · simp only [Act.put, List.setIfInBounds_toArray, List.set_cons_zero, List.set_cons_succ, i64_w, i32_w]
                                  rfl
                                refine pure_ (i := 2) (N := some 51) (v := ?_) (a' := ?_) #[true, true, true, false, false, false, false, false, false, false] rfl rfl (any_of HT_.out (by kernel_rfl)) (fun _ _ _ h => h) (Or.inl ⟨by rfl, ?_⟩) ?_ ?_
                                rotate_left
                                · intro w'
                                  go_simp
                                  with_reducible rfl
                                rotate_left
                                · simp only [Act.put, List.setIfInBounds_toArray, List.set_cons_zero, List.set_cons_succ, i64_w, i32_w]
                                  rfl
                                refine pure_ (i := 4) (N := some 53) (v := ?_) (a' := ?_) #[true, true, true, false, true, false, false, false, false, false] rfl rfl (any_of HT_.out (by kernel_rfl)) (fun _ _ _ h => h) (Or.inl ⟨by rfl, ?_⟩) ?_ ?_
                                rotate_left
                                · intro w'
                                  go_simp
                                  with_reducible rfl
                                rotate_left
                                · simp only [Act.put, List.setIfInBounds_toArray, List.set_cons_zero, List.set_cons_succ, i64_w, i32_w]
                                  rfl
                                refine pure_ (i := 5) (N := some 54) (v := ?_) (a' := ?_) #[true, true, true, false, true, true, false, false, false, false] rfl rfl (any_of HT_.out (by kernel_rfl)) (fun _ _ _ h => h) (Or.inl ⟨by rfl, ?_⟩) ?_ ?_
                                rotate_left
                                · intro w'
                                  go_simp
                                  with_reducible rfl
                                rotate_left
                                · simp only [Act.put, List.setIfInBounds_toArray, List.set_cons_zero, List.set_cons_succ, i64_w, i32_w]
                                  rfl
                                refine pure_ (i := 6) (N := some 55) (v := ?_) (a' := ?_) #[true, true, true, false, true, true, true, false, false, false] rfl rfl (any_of HT_.out (by kernel_rfl)) (fun _ _ _ h => h) (Or.inl ⟨by rfl, ?_⟩) ?_ ?_
                                rotate_left
                                · intro w'
                                  go_simp
                                  with_reducible rfl
                                rotate_left
                                · simp only [Act.put, List.setIfInBounds_toArray, List.set_cons_zero, List.set_cons_succ, i64_w, i32_w]
                                  rfl
                                refine take_ (i := 3) (N := some 52) (v := ?_) (a' := ?_) #[true, true, true, true, true, true, true, false, false, false] rfl rfl (take_ofW HT_.out HW_.out (by kernel_rfl)) (fun _ _ _ h => h) (Or.inl ⟨by rfl, ?_⟩) hHeld ?_ ?_
                                rotate_left
                                · rintro w' ⟨s0, s1, s2, s3, s4, s5, s6, s7⟩
                                  go_simp
                                  with_reducible rfl
                                rotate_left
                                · simp only [Act.put, List.setIfInBounds_toArray, List.set_cons_zero, List.set_cons_succ, i64_w, i32_w]
                                  rfl
                                refine take_ (i := 7) (N := some 56) (v := ?_) (a' := ?_) #[true, true, true, true, true, true, true, true, false, false] rfl rfl (take_ofW HT_.out HW_.out (by kernel_rfl)) (fun _ _ _ h => h) (Or.inl ⟨by rfl, ?_⟩) hHeld ?_ ?_
                                rotate_left
                                · rintro w' ⟨s0, s1, s2, s3, s4, s5, s6, s7⟩
                                  go_simp
                                  with_reducible rfl
                                rotate_left
                                · simp only [Act.put, List.setIfInBounds_toArray, List.set_cons_zero, List.set_cons_succ, i64_w, i32_w]
                                  rfl
                                refine one_ (i := 8) (N := some 57) #[true, true, true, true, true, true, true, true, true, false] rfl rfl (one_of HT_.out (by kernel_rfl)) (by decide) (fun K hK => ?_)
                                refine goes_ Try.func16 (by kernel_rfl) rfl #[.agg #[.int .i64 ((rd_T37 l0 x9_3).f0), .int .i64 ((rd_T37 l0 x9_3).f1), .int .u64 ((rd_T37 l0 x9_3).f2), .string ((rd_T37 l0 x9_3).f3)], .agg #[.int .i64 ((rd_T37 l1 x9_3).f0), .int .i64 ((rd_T37 l1 x9_3).f1), .int .u64 ((rd_T37 l1 x9_3).f2), .string ((rd_T37 l1 x9_3).f3)]] (by rfl) rfl rfl (by (try simp only [List.map_toArray, List.map_cons, List.map_nil]); first | done | rfl | (simp only [List.length_drop, List.length_take]; rfl)) ?_
                                with_reducible refine (falseworkref2_Cmp.calls kj20 ((rd_T37 l0 x9_3).f0) ((rd_T37 l0 x9_3).f1) ((rd_T37 l0 x9_3).f2) ((rd_T37 l0 x9_3).f3) ((rd_T37 l1 x9_3).f0) ((rd_T37 l1 x9_3).f1) ((rd_T37 l1 x9_3).f2) ((rd_T37 l1 x9_3).f3) t238 _ A27.out).mono ?_
                                rintro e w30 ⟨rfl, hb⟩
                                refine ⟨_, rfl, ?_⟩
                                have n0_ := Aside0.mk (below_step (by repeat (first | (with_reducible first | exact HB.out | apply below_alloc | apply pw_below_drewN | apply below_drew1) | exact HB.out)) hb)
                                clear HB
                                have HB := n0_
                                clear n0_
                                (try clear hb)
                                (try clear hb2)
                                (try clear hk)
                                (try clear hi)
                                refine hK.out _ _ ⟨((HB.out.cell (World.block_lt_of_cell? w _ hw236_0)).trans hw236_0), ((HB.out.cell (World.block_lt_of_cell? w _ hw236_1)).trans hw236_1), ((HB.out.cell (World.block_lt_of_cell? w _ hw236_2)).trans hw236_2), ((HB.out.cell (World.block_lt_of_cell? w _ hw236_3)).trans hw236_3), ((HB.out.cell (World.block_lt_of_cell? w _ hw237_0)).trans hw237_0), ((HB.out.cell (World.block_lt_of_cell? w _ hw237_1)).trans hw237_1), ((HB.out.cell (World.block_lt_of_cell? w _ hw237_2)).trans hw237_2), ((HB.out.cell (World.block_lt_of_cell? w _ hw237_3)).trans hw237_3)⟩ (fun hHeld => ?_)
                                clear hK K
                                refine norm_ (a' := ?_) ?_ ?_
                                rotate_left
                                · show Act.put _ (some 57) _ = _
                                  simp only [Act.put, List.setIfInBounds_toArray, List.set_cons_zero, List.set_cons_succ, i64_w, i32_w]
                                  rfl
                                refine pure_ (i := 9) (N := some 10) (v := ?_) (a' := ?_) #[true, true, true, true, true, true, true, true, true, true] rfl rfl (any_of HT_.out (by kernel_rfl)) (fun _ _ _ h => h) (Or.inl ⟨by rfl, ?_⟩) ?_ ?_
                                rotate_left
                                · intro w'
                                  go_simp
                                  with_reducible rfl
                                rotate_left
                                · simp only [Act.put, List.setIfInBounds_toArray, List.set_cons_zero, List.set_cons_succ, i64_w, i32_w]
                                  rfl
                                refine done_ (done_of HT_.out (by kernel_rfl)) ?_
                                try go_wp2
                                go_roundg kj20
                                case measure => have := HJ2.out; have := HJ11.out; have := HK3.out; have := HJ20.out; omega
                                case rel => exact ⟨(wrap64 (x9_3 + 1)), (by first | rfl | (simp; done) | (simp [*]; done)), H', ⟨by have := HJ2.out; have := HJ11.out; have := HK3.out; have := HJ20.out; omega⟩, ⟨by repeat (first | (with_reducible first | exact HB.out | apply below_alloc | apply pw_below_drewN | apply below_drew1) | exact HB.out)⟩⟩
                              · rw [if_neg c28] at H
                                have c28b0 : (t238 == 0) = false := beq_eq_false_iff_ne.mpr c28
                                have c28b1 : (t238 != 0) = true := bne_iff_ne.mpr c28
                                by_cases c31 : ((Op.bytesLess t228.toList t230.toList) == (decide (t238 < 0))) = true
                                · rw [if_pos c31] at H
                                  have c31b0 : ((Op.bytesLess t228.toList t230.toList) == (decide (t238 < 0))) = true := c31
                                  (try (have c31b1 : decide ((Op.bytesLess t228.toList t230.toList) = (decide (t238 < 0))) = true := by simpa using c31))
                                  (try (have c31b2 : ((Op.bytesLess t228.toList t230.toList) == (decide (t238 < 0))) = true := by simpa using c31))
                                  clear c31
                                  by_cases c32 : t228.toList = t230.toList
                                  · rw [if_pos c32] at H
                                    have c32b0 : (t228.toList == t230.toList) = true := beq_iff_eq.mpr c32
                                    have c32b1 : (t228.toList != t230.toList) = false := bne_eq_false_iff_eq.mpr c32
                                    clear c32
                                    obtain rfl := Option.some.inj H
                                    try go_wp2
                                    have n0_ := Aside0.mk (below_drew1 HB.out)
                                    clear HB
                                    have HB := n0_
                                    clear n0_
                                    have p236 : 0 ≤ (x9_3 : Int) := of_decide_eq_true (by first | (with_reducible assumption) | assumption)
                                    have q236 : x9_3 < (l0.length : Int) := of_decide_eq_true (by first | (with_reducible assumption) | assumption)
                                    obtain ⟨ad236, e236, hx236_0, hx236_1, hx236_2, hx236_3⟩ := at_T37 HR0.out x9_3 p236 q236
                                    have hw236_3 := hx236_3
                                    have hw236_2 := hx236_2
                                    have hw236_1 := hx236_1
                                    have hw236_0 := hx236_0
                                    cases e236
                                    replace hx236_0 := (HB.out.cell (World.block_lt_of_cell? w _ hx236_0)).trans hx236_0
                                    replace hx236_1 := (HB.out.cell (World.block_lt_of_cell? w _ hx236_1)).trans hx236_1
                                    replace hx236_2 := (HB.out.cell (World.block_lt_of_cell? w _ hx236_2)).trans hx236_2
                                    replace hx236_3 := (HB.out.cell (World.block_lt_of_cell? w _ hx236_3)).trans hx236_3
                                    replace p236 := eq_true p236
                                    replace q236 := eq_true q236
                                    have p237 : 0 ≤ (x9_3 : Int) := of_decide_eq_true (by first | (with_reducible assumption) | assumption)
                                    have q237 : x9_3 < (l1.length : Int) := of_decide_eq_true (by first | (with_reducible assumption) | assumption)
                                    obtain ⟨ad237, e237, hx237_0, hx237_1, hx237_2, hx237_3⟩ := at_T37 HR1.out x9_3 p237 q237
                                    have hw237_3 := hx237_3
                                    have hw237_2 := hx237_2
                                    have hw237_1 := hx237_1
                                    have hw237_0 := hx237_0
                                    cases e237
                                    replace hx237_0 := (HB.out.cell (World.block_lt_of_cell? w _ hx237_0)).trans hx237_0
                                    replace hx237_1 := (HB.out.cell (World.block_lt_of_cell? w _ hx237_1)).trans hx237_1
                                    replace hx237_2 := (HB.out.cell (World.block_lt_of_cell? w _ hx237_2)).trans hx237_2
                                    replace hx237_3 := (HB.out.cell (World.block_lt_of_cell? w _ hx237_3)).trans hx237_3
                                    replace p237 := eq_true p237
                                    replace q237 := eq_true q237
                                    refine start_ (n := 10) (S := fun w' => w'.cell? (ad236.add ((x9_3).toNat * 4)) = some (.int .i64 ((rd_T37 l0 x9_3).f0)) ∧ w'.cell? ⟨(ad236.add ((x9_3).toNat * 4)).block, (ad236.add ((x9_3).toNat * 4)).off + 1, none⟩ = some (.int .i64 ((rd_T37 l0 x9_3).f1)) ∧ w'.cell? ⟨(ad236.add ((x9_3).toNat * 4)).block, (ad236.add ((x9_3).toNat * 4)).off + 2, none⟩ = some (.int .u64 ((rd_T37 l0 x9_3).f2)) ∧ w'.cell? ⟨(ad236.add ((x9_3).toNat * 4)).block, (ad236.add ((x9_3).toNat * 4)).off + 3, none⟩ = some (.string ((rd_T37 l0 x9_3).f3)) ∧ w'.cell? (ad237.add ((x9_3).toNat * 4)) = some (.int .i64 ((rd_T37 l1 x9_3).f0)) ∧ w'.cell? ⟨(ad237.add ((x9_3).toNat * 4)).block, (ad237.add ((x9_3).toNat * 4)).off + 1, none⟩ = some (.int .i64 ((rd_T37 l1 x9_3).f1)) ∧ w'.cell? ⟨(ad237.add ((x9_3).toNat * 4)).block, (ad237.add ((x9_3).toNat * 4)).off + 2, none⟩ = some (.int .u64 ((rd_T37 l1 x9_3).f2)) ∧ w'.cell? ⟨(ad237.add ((x9_3).toNat * 4)).block, (ad237.add ((x9_3).toNat * 4)).off + 3, none⟩ = some (.string ((rd_T37 l1 x9_3).f3))) (ds := []) #[false, false, false, false, false, false, false, false, false, false] (by kernel_rfl) rfl rfl ⟨((HB.out.cell (World.block_lt_of_cell? w _ hw236_0)).trans hw236_0), ((HB.out.cell (World.block_lt_of_cell? w _ hw236_1)).trans hw236_1), ((HB.out.cell (World.block_lt_of_cell? w _ hw236_2)).trans hw236_2), ((HB.out.cell (World.block_lt_of_cell? w _ hw236_3)).trans hw236_3), ((HB.out.cell (World.block_lt_of_cell? w _ hw237_0)).trans hw237_0), ((HB.out.cell (World.block_lt_of_cell? w _ hw237_1)).trans hw237_1), ((HB.out.cell (World.block_lt_of_cell? w _ hw237_2)).trans hw237_2), ((HB.out.cell (World.block_lt_of_cell? w _ hw237_3)).trans hw237_3)⟩ (fun hHeld => ?_); refine with_tabW falseworklaw3_TupleOrders.tab10 falseworklaw3_TupleOrders.bits10 (fun HT_ HW_ => ?_)
                                    generalize wc.drew = w33 at HB hx236_0 hx236_1 hx236_2 hx236_3 hx237_0 hx237_1 hx237_2 hx237_3 hHeld ⊢
                                    refine pure_ (i := 0) (N := some 49) (v := ?_) (a' := ?_) #[true, false, false, false, false, false, false, false, false, false] rfl rfl (any_of HT_.out (by kernel_rfl)) (fun _ _ _ h => h) (Or.inl ⟨by rfl, ?_⟩) ?_ ?_
                                    rotate_left
                                    · intro w'
                                      go_simp
                                      with_reducible rfl
                                    rotate_left
                                    · simp only [Act.put, List.setIfInBounds_toArray, List.set_cons_zero, List.set_cons_succ, i64_w, i32_w]
                                      rfl
                                    refine pure_ (i := 1) (N := some 50) (v := ?_) (a' := ?_) #[true, true, false, false, false, false, false, false, false, false] rfl rfl (any_of HT_.out (by kernel_rfl)) (fun _ _ _ h => h) (Or.inl ⟨by rfl, ?_⟩) ?_ ?_
                                    rotate_left
                                    · intro w'
                                      go_simp
                                      with_reducible rfl
                                    rotate_left
                                    · simp only [Act.put, List.setIfInBounds_toArray, List.set_cons_zero, List.set_cons_succ, i64_w, i32_w]
                                      rfl
                                    refine pure_ (i := 2) (N := some 51) (v := ?_) (a' := ?_) #[true, true, true, false, false, false, false, false, false, false] rfl rfl (any_of HT_.out (by kernel_rfl)) (fun _ _ _ h => h) (Or.inl ⟨by rfl, ?_⟩) ?_ ?_
                                    rotate_left
                                    · intro w'
                                      go_simp
                                      with_reducible rfl
                                    rotate_left
                                    · simp only [Act.put, List.setIfInBounds_toArray, List.set_cons_zero, List.set_cons_succ, i64_w, i32_w]
                                      rfl
                                    refine pure_ (i := 4) (N := some 53) (v := ?_) (a' := ?_) #[true, true, true, false, true, false, false, false, false, false] rfl rfl (any_of HT_.out (by kernel_rfl)) (fun _ _ _ h => h) (Or.inl ⟨by rfl, ?_⟩) ?_ ?_
                                    rotate_left
                                    · intro w'
                                      go_simp
                                      with_reducible rfl
                                    rotate_left
                                    · simp only [Act.put, List.setIfInBounds_toArray, List.set_cons_zero, List.set_cons_succ, i64_w, i32_w]
                                      rfl
                                    refine pure_ (i := 5) (N := some 54) (v := ?_) (a' := ?_) #[true, true, true, false, true, true, false, false, false, false] rfl rfl (any_of HT_.out (by kernel_rfl)) (fun _ _ _ h => h) (Or.inl ⟨by rfl, ?_⟩) ?_ ?_
                                    rotate_left
                                    · intro w'
                                      go_simp
                                      with_reducible rfl
                                    rotate_left
                                    · simp only [Act.put, List.setIfInBounds_toArray, List.set_cons_zero, List.set_cons_succ, i64_w, i32_w]
                                      rfl
                                    refine pure_ (i := 6) (N := some 55) (v := ?_) (a' := ?_) #[true, true, true, false, true, true, true, false, false, false] rfl rfl (any_of HT_.out (by kernel_rfl)) (fun _ _ _ h => h) (Or.inl ⟨by rfl, ?_⟩) ?_ ?_
                                    rotate_left
                                    · intro w'
                                      go_simp
                                      with_reducible rfl
                                    rotate_left
                                    · simp only [Act.put, List.setIfInBounds_toArray, List.set_cons_zero, List.set_cons_succ, i64_w, i32_w]
                                      rfl
                                    refine take_ (i := 3) (N := some 52) (v := ?_) (a' := ?_) #[true, true, true, true, true, true, true, false, false, false] rfl rfl (take_ofW HT_.out HW_.out (by kernel_rfl)) (fun _ _ _ h => h) (Or.inl ⟨by rfl, ?_⟩) hHeld ?_ ?_
                                    rotate_left
                                    · rintro w' ⟨s0, s1, s2, s3, s4, s5, s6, s7⟩
                                      go_simp
                                      with_reducible rfl
                                    rotate_left
                                    · simp only [Act.put, List.setIfInBounds_toArray, List.set_cons_zero, List.set_cons_succ, i64_w, i32_w]
                                      rfl
                                    refine take_ (i := 7) (N := some 56) (v := ?_) (a' := ?_) #[true, true, true, true, true, true, true, true, false, false] rfl rfl (take_ofW HT_.out HW_.out (by kernel_rfl)) (fun _ _ _ h => h) (Or.inl ⟨by rfl, ?_⟩) hHeld ?_ ?_
                                    rotate_left
                                    · rintro w' ⟨s0, s1, s2, s3, s4, s5, s6, s7⟩
                                      go_simp
                                      with_reducible rfl
                                    rotate_left
                                    · simp only [Act.put, List.setIfInBounds_toArray, List.set_cons_zero, List.set_cons_succ, i64_w, i32_w]
                                      rfl
                                    refine one_ (i := 8) (N := some 57) #[true, true, true, true, true, true, true, true, true, false] rfl rfl (one_of HT_.out (by kernel_rfl)) (by decide) (fun K hK => ?_)
                                    refine goes_ Try.func16 (by kernel_rfl) rfl #[.agg #[.int .i64 ((rd_T37 l0 x9_3).f0), .int .i64 ((rd_T37 l0 x9_3).f1), .int .u64 ((rd_T37 l0 x9_3).f2), .string ((rd_T37 l0 x9_3).f3)], .agg #[.int .i64 ((rd_T37 l1 x9_3).f0), .int .i64 ((rd_T37 l1 x9_3).f1), .int .u64 ((rd_T37 l1 x9_3).f2), .string ((rd_T37 l1 x9_3).f3)]] (by rfl) rfl rfl (by (try simp only [List.map_toArray, List.map_cons, List.map_nil]); first | done | rfl | (simp only [List.length_drop, List.length_take]; rfl)) ?_
                                    with_reducible refine (falseworkref2_Cmp.calls kj20 ((rd_T37 l0 x9_3).f0) ((rd_T37 l0 x9_3).f1) ((rd_T37 l0 x9_3).f2) ((rd_T37 l0 x9_3).f3) ((rd_T37 l1 x9_3).f0) ((rd_T37 l1 x9_3).f1) ((rd_T37 l1 x9_3).f2) ((rd_T37 l1 x9_3).f3) t238 _ A27.out).mono ?_
                                    rintro e w34 ⟨rfl, hb⟩
                                    refine ⟨_, rfl, ?_⟩
                                    have n0_ := Aside0.mk (below_step (by repeat (first | (with_reducible first | exact HB.out | apply below_alloc | apply pw_below_drewN | apply below_drew1) | exact HB.out)) hb)
                                    clear HB
                                    have HB := n0_
                                    clear n0_
                                    (try clear hb)
                                    (try clear hb2)
                                    (try clear hk)
                                    (try clear hi)
                                    refine hK.out _ _ ⟨((HB.out.cell (World.block_lt_of_cell? w _ hw236_0)).trans hw236_0), ((HB.out.cell (World.block_lt_of_cell? w _ hw236_1)).trans hw236_1), ((HB.out.cell (World.block_lt_of_cell? w _ hw236_2)).trans hw236_2), ((HB.out.cell (World.block_lt_of_cell? w _ hw236_3)).trans hw236_3), ((HB.out.cell (World.block_lt_of_cell? w _ hw237_0)).trans hw237_0), ((HB.out.cell (World.block_lt_of_cell? w _ hw237_1)).trans hw237_1), ((HB.out.cell (World.block_lt_of_cell? w _ hw237_2)).trans hw237_2), ((HB.out.cell (World.block_lt_of_cell? w _ hw237_3)).trans hw237_3)⟩ (fun hHeld => ?_)
                                    clear hK K
                                    refine norm_ (a' := ?_) ?_ ?_
                                    rotate_left
                                    · show Act.put _ (some 57) _ = _
                                      simp only [Act.put, List.setIfInBounds_toArray, List.set_cons_zero, List.set_cons_succ, i64_w, i32_w]
                                      rfl
                                    refine pure_ (i := 9) (N := some 10) (v := ?_) (a' := ?_) #[true, true, true, true, true, true, true, true, true, true] rfl rfl (any_of HT_.out (by kernel_rfl)) (fun _ _ _ h => h) (Or.inl ⟨by rfl, ?_⟩) ?_ ?_
                                    rotate_left
                                    · intro w'
                                      go_simp
                                      with_reducible rfl
                                    rotate_left
                                    · simp only [Act.put, List.setIfInBounds_toArray, List.set_cons_zero, List.set_cons_succ, i64_w, i32_w]
                                      rfl
                                    refine done_ (done_of HT_.out (by kernel_rfl)) ?_
                                    try go_wp2
                                    go_ret
                                    exact ⟨by first | rfl | (simp [errW_none, errW_some] <;> rfl) | (simp [*, errW_none, errW_some] <;> rfl), by repeat (first | (with_reducible first | exact HB.out | apply below_alloc | apply pw_below_drewN | apply below_drew1) | exact HB.out)⟩
                                  · rw [if_neg c32] at H
                                    have c32b0 : (t228.toList == t230.toList) = false := beq_eq_false_iff_ne.mpr c32
                                    have c32b1 : (t228.toList != t230.toList) = true := bne_iff_ne.mpr c32
                                    replace H := Option.bind_eq_some_iff.mp H
                                    obtain ⟨t239, A350, H⟩ := H
                                    replace H : (some t239) = some r := H
                                    have A35 := Aside0.mk A350
                                    clear A350
                                    obtain rfl := Option.some.inj H
                                    try go_wp2
                                    have n0_ := Aside0.mk (below_drew1 HB.out)
                                    clear HB
                                    have HB := n0_
                                    clear n0_
                                    have p236 : 0 ≤ (x9_3 : Int) := of_decide_eq_true (by first | (with_reducible assumption) | assumption)
                                    have q236 : x9_3 < (l0.length : Int) := of_decide_eq_true (by first | (with_reducible assumption) | assumption)
                                    obtain ⟨ad236, e236, hx236_0, hx236_1, hx236_2, hx236_3⟩ := at_T37 HR0.out x9_3 p236 q236
                                    have hw236_3 := hx236_3
                                    have hw236_2 := hx236_2
                                    have hw236_1 := hx236_1
                                    have hw236_0 := hx236_0
                                    cases e236
                                    replace hx236_0 := (HB.out.cell (World.block_lt_of_cell? w _ hx236_0)).trans hx236_0
                                    replace hx236_1 := (HB.out.cell (World.block_lt_of_cell? w _ hx236_1)).trans hx236_1
                                    replace hx236_2 := (HB.out.cell (World.block_lt_of_cell? w _ hx236_2)).trans hx236_2
                                    replace hx236_3 := (HB.out.cell (World.block_lt_of_cell? w _ hx236_3)).trans hx236_3
                                    replace p236 := eq_true p236
                                    replace q236 := eq_true q236
                                    have p237 : 0 ≤ (x9_3 : Int) := of_decide_eq_true (by first | (with_reducible assumption) | assumption)
                                    have q237 : x9_3 < (l1.length : Int) := of_decide_eq_true (by first | (with_reducible assumption) | assumption)
                                    obtain ⟨ad237, e237, hx237_0, hx237_1, hx237_2, hx237_3⟩ := at_T37 HR1.out x9_3 p237 q237
                                    have hw237_3 := hx237_3
                                    have hw237_2 := hx237_2
                                    have hw237_1 := hx237_1
                                    have hw237_0 := hx237_0
                                    cases e237
                                    replace hx237_0 := (HB.out.cell (World.block_lt_of_cell? w _ hx237_0)).trans hx237_0
                                    replace hx237_1 := (HB.out.cell (World.block_lt_of_cell? w _ hx237_1)).trans hx237_1
                                    replace hx237_2 := (HB.out.cell (World.block_lt_of_cell? w _ hx237_2)).trans hx237_2
                                    replace hx237_3 := (HB.out.cell (World.block_lt_of_cell? w _ hx237_3)).trans hx237_3
                                    replace p237 := eq_true p237
                                    replace q237 := eq_true q237
                                    refine start_ (n := 10) (S := fun w' => w'.cell? (ad236.add ((x9_3).toNat * 4)) = some (.int .i64 ((rd_T37 l0 x9_3).f0)) ∧ w'.cell? ⟨(ad236.add ((x9_3).toNat * 4)).block, (ad236.add ((x9_3).toNat * 4)).off + 1, none⟩ = some (.int .i64 ((rd_T37 l0 x9_3).f1)) ∧ w'.cell? ⟨(ad236.add ((x9_3).toNat * 4)).block, (ad236.add ((x9_3).toNat * 4)).off + 2, none⟩ = some (.int .u64 ((rd_T37 l0 x9_3).f2)) ∧ w'.cell? ⟨(ad236.add ((x9_3).toNat * 4)).block, (ad236.add ((x9_3).toNat * 4)).off + 3, none⟩ = some (.string ((rd_T37 l0 x9_3).f3)) ∧ w'.cell? (ad237.add ((x9_3).toNat * 4)) = some (.int .i64 ((rd_T37 l1 x9_3).f0)) ∧ w'.cell? ⟨(ad237.add ((x9_3).toNat * 4)).block, (ad237.add ((x9_3).toNat * 4)).off + 1, none⟩ = some (.int .i64 ((rd_T37 l1 x9_3).f1)) ∧ w'.cell? ⟨(ad237.add ((x9_3).toNat * 4)).block, (ad237.add ((x9_3).toNat * 4)).off + 2, none⟩ = some (.int .u64 ((rd_T37 l1 x9_3).f2)) ∧ w'.cell? ⟨(ad237.add ((x9_3).toNat * 4)).block, (ad237.add ((x9_3).toNat * 4)).off + 3, none⟩ = some (.string ((rd_T37 l1 x9_3).f3))) (ds := []) #[false, false, false, false, false, false, false, false, false, false] (by kernel_rfl) rfl rfl ⟨((HB.out.cell (World.block_lt_of_cell? w _ hw236_0)).trans hw236_0), ((HB.out.cell (World.block_lt_of_cell? w _ hw236_1)).trans hw236_1), ((HB.out.cell (World.block_lt_of_cell? w _ hw236_2)).trans hw236_2), ((HB.out.cell (World.block_lt_of_cell? w _ hw236_3)).trans hw236_3), ((HB.out.cell (World.block_lt_of_cell? w _ hw237_0)).trans hw237_0), ((HB.out.cell (World.block_lt_of_cell? w _ hw237_1)).trans hw237_1), ((HB.out.cell (World.block_lt_of_cell? w _ hw237_2)).trans hw237_2), ((HB.out.cell (World.block_lt_of_cell? w _ hw237_3)).trans hw237_3)⟩ (fun hHeld => ?_); refine with_tabW falseworklaw3_TupleOrders.tab10 falseworklaw3_TupleOrders.bits10 (fun HT_ HW_ => ?_)
                                    generalize wc.drew = w36 at HB hx236_0 hx236_1 hx236_2 hx236_3 hx237_0 hx237_1 hx237_2 hx237_3 hHeld ⊢
                                    refine pure_ (i := 0) (N := some 49) (v := ?_) (a' := ?_) #[true, false, false, false, false, false, false, false, false, false] rfl rfl (any_of HT_.out (by kernel_rfl)) (fun _ _ _ h => h) (Or.inl ⟨by rfl, ?_⟩) ?_ ?_
                                    rotate_left
                                    · intro w'
                                      go_simp
                                      with_reducible rfl
                                    rotate_left
                                    · simp only [Act.put, List.setIfInBounds_toArray, List.set_cons_zero, List.set_cons_succ, i64_w, i32_w]
                                      rfl
                                    refine pure_ (i := 1) (N := some 50) (v := ?_) (a' := ?_) #[true, true, false, false, false, false, false, false, false, false] rfl rfl (any_of HT_.out (by kernel_rfl)) (fun _ _ _ h => h) (Or.inl ⟨by rfl, ?_⟩) ?_ ?_
                                    rotate_left
                                    · intro w'
                                      go_simp
                                      with_reducible rfl
                                    rotate_left
                                    · simp only [Act.put, List.setIfInBounds_toArray, List.set_cons_zero, List.set_cons_succ, i64_w, i32_w]
                                      rfl
                                    refine pure_ (i := 2) (N := some 51) (v := ?_) (a' := ?_) #[true, true, true, false, false, false, false, false, false, false] rfl rfl (any_of HT_.out (by kernel_rfl)) (fun _ _ _ h => h) (Or.inl ⟨by rfl, ?_⟩) ?_ ?_
                                    rotate_left
                                    · intro w'
                                      go_simp
                                      with_reducible rfl
                                    rotate_left
                                    · simp only [Act.put, List.setIfInBounds_toArray, List.set_cons_zero, List.set_cons_succ, i64_w, i32_w]
                                      rfl
                                    refine pure_ (i := 4) (N := some 53) (v := ?_) (a' := ?_) #[true, true, true, false, true, false, false, false, false, false] rfl rfl (any_of HT_.out (by kernel_rfl)) (fun _ _ _ h => h) (Or.inl ⟨by rfl, ?_⟩) ?_ ?_
                                    rotate_left
                                    · intro w'
                                      go_simp
                                      with_reducible rfl
                                    rotate_left
                                    · simp only [Act.put, List.setIfInBounds_toArray, List.set_cons_zero, List.set_cons_succ, i64_w, i32_w]
                                      rfl
                                    refine pure_ (i := 5) (N := some 54) (v := ?_) (a' := ?_) #[true, true, true, false, true, true, false, false, false, false] rfl rfl (any_of HT_.out (by kernel_rfl)) (fun _ _ _ h => h) (Or.inl ⟨by rfl, ?_⟩) ?_ ?_
                                    rotate_left
                                    · intro w'
                                      go_simp
                                      with_reducible rfl
                                    rotate_left
                                    · simp only [Act.put, List.setIfInBounds_toArray, List.set_cons_zero, List.set_cons_succ, i64_w, i32_w]
                                      rfl
                                    refine pure_ (i := 6) (N := some 55) (v := ?_) (a' := ?_) #[true, true, true, false, true, true, true, false, false, false] rfl rfl (any_of HT_.out (by kernel_rfl)) (fun _ _ _ h => h) (Or.inl ⟨by rfl, ?_⟩) ?_ ?_
                                    rotate_left
                                    · intro w'
                                      go_simp
                                      with_reducible rfl
                                    rotate_left
                                    · simp only [Act.put, List.setIfInBounds_toArray, List.set_cons_zero, List.set_cons_succ, i64_w, i32_w]
                                      rfl
                                    refine take_ (i := 3) (N := some 52) (v := ?_) (a' := ?_) #[true, true, true, true, true, true, true, false, false, false] rfl rfl (take_ofW HT_.out HW_.out (by kernel_rfl)) (fun _ _ _ h => h) (Or.inl ⟨by rfl, ?_⟩) hHeld ?_ ?_
                                    rotate_left
                                    · rintro w' ⟨s0, s1, s2, s3, s4, s5, s6, s7⟩
                                      go_simp
                                      with_reducible rfl
                                    rotate_left
                                    · simp only [Act.put, List.setIfInBounds_toArray, List.set_cons_zero, List.set_cons_succ, i64_w, i32_w]
                                      rfl
                                    refine take_ (i := 7) (N := some 56) (v := ?_) (a' := ?_) #[true, true, true, true, true, true, true, true, false, false] rfl rfl (take_ofW HT_.out HW_.out (by kernel_rfl)) (fun _ _ _ h => h) (Or.inl ⟨by rfl, ?_⟩) hHeld ?_ ?_
                                    rotate_left
                                    · rintro w' ⟨s0, s1, s2, s3, s4, s5, s6, s7⟩
                                      go_simp
                                      with_reducible rfl
                                    rotate_left
                                    · simp only [Act.put, List.setIfInBounds_toArray, List.set_cons_zero, List.set_cons_succ, i64_w, i32_w]
                                      rfl
                                    refine one_ (i := 8) (N := some 57) #[true, true, true, true, true, true, true, true, true, false] rfl rfl (one_of HT_.out (by kernel_rfl)) (by decide) (fun K hK => ?_)
                                    refine goes_ Try.func16 (by kernel_rfl) rfl #[.agg #[.int .i64 ((rd_T37 l0 x9_3).f0), .int .i64 ((rd_T37 l0 x9_3).f1), .int .u64 ((rd_T37 l0 x9_3).f2), .string ((rd_T37 l0 x9_3).f3)], .agg #[.int .i64 ((rd_T37 l1 x9_3).f0), .int .i64 ((rd_T37 l1 x9_3).f1), .int .u64 ((rd_T37 l1 x9_3).f2), .string ((rd_T37 l1 x9_3).f3)]] (by rfl) rfl rfl (by (try simp only [List.map_toArray, List.map_cons, List.map_nil]); first | done | rfl | (simp only [List.length_drop, List.length_take]; rfl)) ?_
                                    with_reducible refine (falseworkref2_Cmp.calls kj20 ((rd_T37 l0 x9_3).f0) ((rd_T37 l0 x9_3).f1) ((rd_T37 l0 x9_3).f2) ((rd_T37 l0 x9_3).f3) ((rd_T37 l1 x9_3).f0) ((rd_T37 l1 x9_3).f1) ((rd_T37 l1 x9_3).f2) ((rd_T37 l1 x9_3).f3) t238 _ A27.out).mono ?_
                                    rintro e w37 ⟨rfl, hb⟩
                                    refine ⟨_, rfl, ?_⟩
                                    have n0_ := Aside0.mk (below_step (by repeat (first | (with_reducible first | exact HB.out | apply below_alloc | apply pw_below_drewN | apply below_drew1) | exact HB.out)) hb)
                                    clear HB
                                    have HB := n0_
                                    clear n0_
                                    (try clear hb)
                                    (try clear hb2)
                                    (try clear hk)
                                    (try clear hi)
                                    refine hK.out _ _ ⟨((HB.out.cell (World.block_lt_of_cell? w _ hw236_0)).trans hw236_0), ((HB.out.cell (World.block_lt_of_cell? w _ hw236_1)).trans hw236_1), ((HB.out.cell (World.block_lt_of_cell? w _ hw236_2)).trans hw236_2), ((HB.out.cell (World.block_lt_of_cell? w _ hw236_3)).trans hw236_3), ((HB.out.cell (World.block_lt_of_cell? w _ hw237_0)).trans hw237_0), ((HB.out.cell (World.block_lt_of_cell? w _ hw237_1)).trans hw237_1), ((HB.out.cell (World.block_lt_of_cell? w _ hw237_2)).trans hw237_2), ((HB.out.cell (World.block_lt_of_cell? w _ hw237_3)).trans hw237_3)⟩ (fun hHeld => ?_)
                                    clear hK K
                                    refine norm_ (a' := ?_) ?_ ?_
                                    rotate_left
                                    · show Act.put _ (some 57) _ = _
                                      simp only [Act.put, List.setIfInBounds_toArray, List.set_cons_zero, List.set_cons_succ, i64_w, i32_w]
                                      rfl
                                    refine pure_ (i := 9) (N := some 10) (v := ?_) (a' := ?_) #[true, true, true, true, true, true, true, true, true, true] rfl rfl (any_of HT_.out (by kernel_rfl)) (fun _ _ _ h => h) (Or.inl ⟨by rfl, ?_⟩) ?_ ?_
                                    rotate_left
                                    · intro w'
                                      go_simp
                                      with_reducible rfl
                                    rotate_left
                                    · simp only [Act.put, List.setIfInBounds_toArray, List.set_cons_zero, List.set_cons_succ, i64_w, i32_w]
                                      rfl
                                    refine done_ (done_of HT_.out (by kernel_rfl)) ?_
                                    try go_wp2_with (first | (go_at_call 10; (with_reducible refine (falseworklaw3_awake.calls kj20  t239 _ A35.out).mono ?_); rintro e w38 ⟨rfl, hb⟩; have n0_ := Aside0.mk (below_step (by repeat (first | (with_reducible first | exact HB.out | apply below_alloc | apply pw_below_drewN | apply below_drew1) | exact HB.out)) hb); clear HB; have HB := n0_; clear n0_; (try clear hb); (try clear hb2); (try clear hk); (try clear hi)))
                                    go_ret
                                    exact ⟨by first | rfl | (simp [errW_none, errW_some] <;> rfl) | (simp [*, errW_none, errW_some] <;> rfl), by repeat (first | (with_reducible first | exact HB.out | apply below_alloc | apply pw_below_drewN | apply below_drew1) | exact HB.out)⟩
                                · rw [if_neg c31] at H
                                  have c31b0 : ((Op.bytesLess t228.toList t230.toList) == (decide (t238 < 0))) = false := by simpa using c31
                                  (try (have c31b1 : decide ((Op.bytesLess t228.toList t230.toList) = (decide (t238 < 0))) = false := by simpa using c31))
                                  (try (have c31b2 : ((Op.bytesLess t228.toList t230.toList) == (decide (t238 < 0))) = false := by simpa using c31))
                                  (try (have c31b3 : ¬ ((Op.bytesLess t228.toList t230.toList) = (decide (t238 < 0))) := by simpa using c31))
                                  clear c31
                                  obtain rfl := Option.some.inj H
                                  try go_wp2
                                  have n0_ := Aside0.mk (below_drew1 HB.out)
                                  clear HB
                                  have HB := n0_
                                  clear n0_
                                  have p236 : 0 ≤ (x9_3 : Int) := of_decide_eq_true (by first | (with_reducible assumption) | assumption)
                                  have q236 : x9_3 < (l0.length : Int) := of_decide_eq_true (by first | (with_reducible assumption) | assumption)
                                  obtain ⟨ad236, e236, hx236_0, hx236_1, hx236_2, hx236_3⟩ := at_T37 HR0.out x9_3 p236 q236
                                  have hw236_3 := hx236_3
                                  have hw236_2 := hx236_2
                                  have hw236_1 := hx236_1
                                  have hw236_0 := hx236_0
                                  cases e236
                                  replace hx236_0 := (HB.out.cell (World.block_lt_of_cell? w _ hx236_0)).trans hx236_0
                                  replace hx236_1 := (HB.out.cell (World.block_lt_of_cell? w _ hx236_1)).trans hx236_1
                                  replace hx236_2 := (HB.out.cell (World.block_lt_of_cell? w _ hx236_2)).trans hx236_2
                                  replace hx236_3 := (HB.out.cell (World.block_lt_of_cell? w _ hx236_3)).trans hx236_3
                                  replace p236 := eq_true p236
                                  replace q236 := eq_true q236
                                  have p237 : 0 ≤ (x9_3 : Int) := of_decide_eq_true (by first | (with_reducible assumption) | assumption)
                                  have q237 : x9_3 < (l1.length : Int) := of_decide_eq_true (by first | (with_reducible assumption) | assumption)
                                  obtain ⟨ad237, e237, hx237_0, hx237_1, hx237_2, hx237_3⟩ := at_T37 HR1.out x9_3 p237 q237
                                  have hw237_3 := hx237_3
                                  have hw237_2 := hx237_2
                                  have hw237_1 := hx237_1
                                  have hw237_0 := hx237_0
                                  cases e237
                                  replace hx237_0 := (HB.out.cell (World.block_lt_of_cell? w _ hx237_0)).trans hx237_0
                                  replace hx237_1 := (HB.out.cell (World.block_lt_of_cell? w _ hx237_1)).trans hx237_1
                                  replace hx237_2 := (HB.out.cell (World.block_lt_of_cell? w _ hx237_2)).trans hx237_2
                                  replace hx237_3 := (HB.out.cell (World.block_lt_of_cell? w _ hx237_3)).trans hx237_3
                                  replace p237 := eq_true p237
                                  replace q237 := eq_true q237
                                  refine start_ (n := 10) (S := fun w' => w'.cell? (ad236.add ((x9_3).toNat * 4)) = some (.int .i64 ((rd_T37 l0 x9_3).f0)) ∧ w'.cell? ⟨(ad236.add ((x9_3).toNat * 4)).block, (ad236.add ((x9_3).toNat * 4)).off + 1, none⟩ = some (.int .i64 ((rd_T37 l0 x9_3).f1)) ∧ w'.cell? ⟨(ad236.add ((x9_3).toNat * 4)).block, (ad236.add ((x9_3).toNat * 4)).off + 2, none⟩ = some (.int .u64 ((rd_T37 l0 x9_3).f2)) ∧ w'.cell? ⟨(ad236.add ((x9_3).toNat * 4)).block, (ad236.add ((x9_3).toNat * 4)).off + 3, none⟩ = some (.string ((rd_T37 l0 x9_3).f3)) ∧ w'.cell? (ad237.add ((x9_3).toNat * 4)) = some (.int .i64 ((rd_T37 l1 x9_3).f0)) ∧ w'.cell? ⟨(ad237.add ((x9_3).toNat * 4)).block, (ad237.add ((x9_3).toNat * 4)).off + 1, none⟩ = some (.int .i64 ((rd_T37 l1 x9_3).f1)) ∧ w'.cell? ⟨(ad237.add ((x9_3).toNat * 4)).block, (ad237.add ((x9_3).toNat * 4)).off + 2, none⟩ = some (.int .u64 ((rd_T37 l1 x9_3).f2)) ∧ w'.cell? ⟨(ad237.add ((x9_3).toNat * 4)).block, (ad237.add ((x9_3).toNat * 4)).off + 3, none⟩ = some (.string ((rd_T37 l1 x9_3).f3))) (ds := []) #[false, false, false, false, false, false, false, false, false, false] (by kernel_rfl) rfl rfl ⟨((HB.out.cell (World.block_lt_of_cell? w _ hw236_0)).trans hw236_0), ((HB.out.cell (World.block_lt_of_cell? w _ hw236_1)).trans hw236_1), ((HB.out.cell (World.block_lt_of_cell? w _ hw236_2)).trans hw236_2), ((HB.out.cell (World.block_lt_of_cell? w _ hw236_3)).trans hw236_3), ((HB.out.cell (World.block_lt_of_cell? w _ hw237_0)).trans hw237_0), ((HB.out.cell (World.block_lt_of_cell? w _ hw237_1)).trans hw237_1), ((HB.out.cell (World.block_lt_of_cell? w _ hw237_2)).trans hw237_2), ((HB.out.cell (World.block_lt_of_cell? w _ hw237_3)).trans hw237_3)⟩ (fun hHeld => ?_); refine with_tabW falseworklaw3_TupleOrders.tab10 falseworklaw3_TupleOrders.bits10 (fun HT_ HW_ => ?_)
                                  generalize wc.drew = w39 at HB hx236_0 hx236_1 hx236_2 hx236_3 hx237_0 hx237_1 hx237_2 hx237_3 hHeld ⊢
                                  refine pure_ (i := 0) (N := some 49) (v := ?_) (a' := ?_) #[true, false, false, false, false, false, false, false, false, false] rfl rfl (any_of HT_.out (by kernel_rfl)) (fun _ _ _ h => h) (Or.inl ⟨by rfl, ?_⟩) ?_ ?_
                                  rotate_left
                                  · intro w'
                                    go_simp
                                    with_reducible rfl
                                  rotate_left
                                  · simp only [Act.put, List.setIfInBounds_toArray, List.set_cons_zero, List.set_cons_succ, i64_w, i32_w]
                                    rfl
                                  refine pure_ (i := 1) (N := some 50) (v := ?_) (a' := ?_) #[true, true, false, false, false, false, false, false, false, false] rfl rfl (any_of HT_.out (by kernel_rfl)) (fun _ _ _ h => h) (Or.inl ⟨by rfl, ?_⟩) ?_ ?_
                                  rotate_left
                                  · intro w'
                                    go_simp
                                    with_reducible rfl
                                  rotate_left
                                  · simp only [Act.put, List.setIfInBounds_toArray, List.set_cons_zero, List.set_cons_succ, i64_w, i32_w]
                                    rfl
                                  refine pure_ (i := 2) (N := some 51) (v := ?_) (a' := ?_) #[true, true, true, false, false, false, false, false, false, false] rfl rfl (any_of HT_.out (by kernel_rfl)) (fun _ _ _ h => h) (Or.inl ⟨by rfl, ?_⟩) ?_ ?_
                                  rotate_left
                                  · intro w'
                                    go_simp
                                    with_reducible rfl
                                  rotate_left
                                  · simp only [Act.put, List.setIfInBounds_toArray, List.set_cons_zero, List.set_cons_succ, i64_w, i32_w]
                                    rfl
                                  refine pure_ (i := 4) (N := some 53) (v := ?_) (a' := ?_) #[true, true, true, false, true, false, false, false, false, false] rfl rfl (any_of HT_.out (by kernel_rfl)) (fun _ _ _ h => h) (Or.inl ⟨by rfl, ?_⟩) ?_ ?_
                                  rotate_left
                                  · intro w'
                                    go_simp
                                    with_reducible rfl
                                  rotate_left
                                  · simp only [Act.put, List.setIfInBounds_toArray, List.set_cons_zero, List.set_cons_succ, i64_w, i32_w]
                                    rfl
                                  refine pure_ (i := 5) (N := some 54) (v := ?_) (a' := ?_) #[true, true, true, false, true, true, false, false, false, false] rfl rfl (any_of HT_.out (by kernel_rfl)) (fun _ _ _ h => h) (Or.inl ⟨by rfl, ?_⟩) ?_ ?_
                                  rotate_left
                                  · intro w'
                                    go_simp
                                    with_reducible rfl
                                  rotate_left
                                  · simp only [Act.put, List.setIfInBounds_toArray, List.set_cons_zero, List.set_cons_succ, i64_w, i32_w]
                                    rfl
                                  refine pure_ (i := 6) (N := some 55) (v := ?_) (a' := ?_) #[true, true, true, false, true, true, true, false, false, false] rfl rfl (any_of HT_.out (by kernel_rfl)) (fun _ _ _ h => h) (Or.inl ⟨by rfl, ?_⟩) ?_ ?_
                                  rotate_left
                                  · intro w'
                                    go_simp
                                    with_reducible rfl
                                  rotate_left
                                  · simp only [Act.put, List.setIfInBounds_toArray, List.set_cons_zero, List.set_cons_succ, i64_w, i32_w]
                                    rfl
                                  refine take_ (i := 3) (N := some 52) (v := ?_) (a' := ?_) #[true, true, true, true, true, true, true, false, false, false] rfl rfl (take_ofW HT_.out HW_.out (by kernel_rfl)) (fun _ _ _ h => h) (Or.inl ⟨by rfl, ?_⟩) hHeld ?_ ?_
                                  rotate_left
                                  · rintro w' ⟨s0, s1, s2, s3, s4, s5, s6, s7⟩
                                    go_simp
                                    with_reducible rfl
                                  rotate_left
                                  · simp only [Act.put, List.setIfInBounds_toArray, List.set_cons_zero, List.set_cons_succ, i64_w, i32_w]
                                    rfl
                                  refine take_ (i := 7) (N := some 56) (v := ?_) (a' := ?_) #[true, true, true, true, true, true, true, true, false, false] rfl rfl (take_ofW HT_.out HW_.out (by kernel_rfl)) (fun _ _ _ h => h) (Or.inl ⟨by rfl, ?_⟩) hHeld ?_ ?_
                                  rotate_left
                                  · rintro w' ⟨s0, s1, s2, s3, s4, s5, s6, s7⟩
                                    go_simp
                                    with_reducible rfl
                                  rotate_left
                                  · simp only [Act.put, List.setIfInBounds_toArray, List.set_cons_zero, List.set_cons_succ, i64_w, i32_w]
                                    rfl
                                  refine one_ (i := 8) (N := some 57) #[true, true, true, true, true, true, true, true, true, false] rfl rfl (one_of HT_.out (by kernel_rfl)) (by decide) (fun K hK => ?_)
                                  refine goes_ Try.func16 (by kernel_rfl) rfl #[.agg #[.int .i64 ((rd_T37 l0 x9_3).f0), .int .i64 ((rd_T37 l0 x9_3).f1), .int .u64 ((rd_T37 l0 x9_3).f2), .string ((rd_T37 l0 x9_3).f3)], .agg #[.int .i64 ((rd_T37 l1 x9_3).f0), .int .i64 ((rd_T37 l1 x9_3).f1), .int .u64 ((rd_T37 l1 x9_3).f2), .string ((rd_T37 l1 x9_3).f3)]] (by rfl) rfl rfl (by (try simp only [List.map_toArray, List.map_cons, List.map_nil]); first | done | rfl | (simp only [List.length_drop, List.length_take]; rfl)) ?_
                                  with_reducible refine (falseworkref2_Cmp.calls kj20 ((rd_T37 l0 x9_3).f0) ((rd_T37 l0 x9_3).f1) ((rd_T37 l0 x9_3).f2) ((rd_T37 l0 x9_3).f3) ((rd_T37 l1 x9_3).f0) ((rd_T37 l1 x9_3).f1) ((rd_T37 l1 x9_3).f2) ((rd_T37 l1 x9_3).f3) t238 _ A27.out).mono ?_
                                  rintro e w40 ⟨rfl, hb⟩
                                  refine ⟨_, rfl, ?_⟩
                                  have n0_ := Aside0.mk (below_step (by repeat (first | (with_reducible first | exact HB.out | apply below_alloc | apply pw_below_drewN | apply below_drew1) | exact HB.out)) hb)
                                  clear HB
                                  have HB := n0_
                                  clear n0_
                                  (try clear hb)
                                  (try clear hb2)
                                  (try clear hk)
                                  (try clear hi)
                                  refine hK.out _ _ ⟨((HB.out.cell (World.block_lt_of_cell? w _ hw236_0)).trans hw236_0), ((HB.out.cell (World.block_lt_of_cell? w _ hw236_1)).trans hw236_1), ((HB.out.cell (World.block_lt_of_cell? w _ hw236_2)).trans hw236_2), ((HB.out.cell (World.block_lt_of_cell? w _ hw236_3)).trans hw236_3), ((HB.out.cell (World.block_lt_of_cell? w _ hw237_0)).trans hw237_0), ((HB.out.cell (World.block_lt_of_cell? w _ hw237_1)).trans hw237_1), ((HB.out.cell (World.block_lt_of_cell? w _ hw237_2)).trans hw237_2), ((HB.out.cell (World.block_lt_of_cell? w _ hw237_3)).trans hw237_3)⟩ (fun hHeld => ?_)
                                  clear hK K
                                  refine norm_ (a' := ?_) ?_ ?_
                                  rotate_left
                                  · show Act.put _ (some 57) _ = _
                                    simp only [Act.put, List.setIfInBounds_toArray, List.set_cons_zero, List.set_cons_succ, i64_w, i32_w]
                                    rfl
                                  refine pure_ (i := 9) (N := some 10) (v := ?_) (a' := ?_) #[true, true, true, true, true, true, true, true, true, true] rfl rfl (any_of HT_.out (by kernel_rfl)) (fun _ _ _ h => h) (Or.inl ⟨by rfl, ?_⟩) ?_ ?_
                                  rotate_left
                                  · intro w'
                                    go_simp
                                    with_reducible rfl
                                  rotate_left
                                  · simp only [Act.put, List.setIfInBounds_toArray, List.set_cons_zero, List.set_cons_succ, i64_w, i32_w]
                                    rfl
                                  refine done_ (done_of HT_.out (by kernel_rfl)) ?_
                                  try go_wp2
                                  go_ret
                                  exact ⟨by first | rfl | (simp [errW_none, errW_some] <;> rfl) | (simp [*, errW_none, errW_some] <;> rfl), by repeat (first | (with_reducible first | exact HB.out | apply below_alloc | apply pw_below_drewN | apply below_drew1) | exact HB.out)⟩
                            · rw [if_neg c26] at H
                              exact absurd H (by simp)
                          · rw [if_neg c25] at H
                            exact absurd H (by simp)
                        · rw [if_neg c24] at H
                          exact absurd H (by simp)
                      · replace c23 := Bool.eq_false_iff.mpr c23
                        subst c23
                        have H1 : (if ((Op.bytesLess t228.toList t230.toList) == (decide ((l0.length : Int) < (l1.length : Int)))) = true then (if ((t228.toList == t230.toList) == ((l0.length : Int) == (l1.length : Int))) = true then ((falseworklaw3_awake.f kj20).bind fun t235 => (some t235)) else (some false)) else (some false)) = some r := by rw [if_neg (show ¬ (false = true) by decide)] at H; exact H
                        clear H
                        have H := H1
                        clear H1
                        by_cases c41 : ((Op.bytesLess t228.toList t230.toList) == (decide ((l0.length : Int) < (l1.length : Int)))) = true
                        · rw [if_pos c41] at H
                          have c41b0 : ((Op.bytesLess t228.toList t230.toList) == (decide ((l0.length : Int) < (l1.length : Int)))) = true := c41
                          (try (have c41b1 : decide ((Op.bytesLess t228.toList t230.toList) = (decide ((l0.length : Int) < (l1.length : Int)))) = true := by simpa using c41))
                          (try (have c41b2 : ((Op.bytesLess t228.toList t230.toList) == (decide ((l0.length : Int) < (l1.length : Int)))) = true := by simpa using c41))
                          (try (have c41bn0 : decide ((Op.bytesLess t228.toList t230.toList) = (decide (l0.length < l1.length))) = true := by simpa using c41))
                          (try (have c41bn1 : ((Op.bytesLess t228.toList t230.toList) == (decide (l0.length < l1.length))) = true := by simpa using c41))
                          clear c41
                          by_cases c42 : ((t228.toList == t230.toList) == ((l0.length : Int) == (l1.length : Int))) = true
                          · rw [if_pos c42] at H
                            have c42b0 : ((t228.toList == t230.toList) == ((l0.length : Int) == (l1.length : Int))) = true := c42
                            (try (have c42b1 : decide ((t228.toList == t230.toList) = ((l0.length : Int) == (l1.length : Int))) = true := by simpa using c42))
                            (try (have c42b2 : ((t228.toList == t230.toList) == ((l0.length : Int) == (l1.length : Int))) = true := by simpa using c42))
                            (try (have c42bn0 : decide ((t228.toList == t230.toList) = (l0.length == l1.length)) = true := by simpa using c42))
                            (try (have c42bn1 : ((t228.toList == t230.toList) == (l0.length == l1.length)) = true := by simpa using c42))
                            clear c42
                            replace H := Option.bind_eq_some_iff.mp H
                            obtain ⟨t235, A430, H⟩ := H
                            replace H : (some t235) = some r := H
                            have A43 := Aside0.mk A430
                            clear A430
                            obtain rfl := Option.some.inj H
                            go_wp2_with (first | (go_at_call 10; (with_reducible refine (falseworklaw3_awake.calls kj20  t235 _ A43.out).mono ?_); rintro e w44 ⟨rfl, hb⟩; have n0_ := Aside0.mk (below_step (by repeat (first | (with_reducible first | exact HB.out | apply below_alloc | apply pw_below_drewN | apply below_drew1) | exact HB.out)) hb); clear HB; have HB := n0_; clear n0_; (try clear hb); (try clear hb2); (try clear hk); (try clear hi)))
                            go_ret
                            exact ⟨by first | rfl | (simp [errW_none, errW_some] <;> rfl) | (simp [*, errW_none, errW_some] <;> rfl), by repeat (first | (with_reducible first | exact HB.out | apply below_alloc | apply pw_below_drewN | apply below_drew1) | exact HB.out)⟩
                          · rw [if_neg c42] at H
                            have c42b0 : ((t228.toList == t230.toList) == ((l0.length : Int) == (l1.length : Int))) = false := by simpa using c42
                            (try (have c42b1 : decide ((t228.toList == t230.toList) = ((l0.length : Int) == (l1.length : Int))) = false := by simpa using c42))
                            (try (have c42b2 : ((t228.toList == t230.toList) == ((l0.length : Int) == (l1.length : Int))) = false := by simpa using c42))
                            (try (have c42b3 : ¬ ((t228.toList == t230.toList) = ((l0.length : Int) == (l1.length : Int))) := by simpa using c42))
                            (try (have c42bn0 : decide ((t228.toList == t230.toList) = (l0.length == l1.length)) = false := by simpa using c42))
                            (try (have c42bn1 : ((t228.toList == t230.toList) == (l0.length == l1.length)) = false := by simpa using c42))
                            clear c42
                            obtain rfl := Option.some.inj H
                            go_wp2
                            go_ret
                            exact ⟨by first | rfl | (simp [errW_none, errW_some] <;> rfl) | (simp [*, errW_none, errW_some] <;> rfl), by repeat (first | (with_reducible first | exact HB.out | apply below_alloc | apply pw_below_drewN | apply below_drew1) | exact HB.out)⟩
                        · rw [if_neg c41] at H
                          have c41b0 : ((Op.bytesLess t228.toList t230.toList) == (decide ((l0.length : Int) < (l1.length : Int)))) = false := by simpa using c41
                          (try (have c41b1 : decide ((Op.bytesLess t228.toList t230.toList) = (decide ((l0.length : Int) < (l1.length : Int)))) = false := by simpa using c41))
                          (try (have c41b2 : ((Op.bytesLess t228.toList t230.toList) == (decide ((l0.length : Int) < (l1.length : Int)))) = false := by simpa using c41))
                          (try (have c41b3 : ¬ ((Op.bytesLess t228.toList t230.toList) = (decide ((l0.length : Int) < (l1.length : Int)))) := by simpa using c41))
                          (try (have c41bn0 : decide ((Op.bytesLess t228.toList t230.toList) = (decide (l0.length < l1.length))) = false := by simpa using c41))
                          (try (have c41bn1 : ((Op.bytesLess t228.toList t230.toList) == (decide (l0.length < l1.length))) = false := by simpa using c41))
                          clear c41
                          obtain rfl := Option.some.inj H
                          go_wp2
                          go_ret
                          exact ⟨by first | rfl | (simp [errW_none, errW_some] <;> rfl) | (simp [*, errW_none, errW_some] <;> rfl), by repeat (first | (with_reducible first | exact HB.out | apply below_alloc | apply pw_below_drewN | apply below_drew1) | exact HB.out)⟩

end Go.Proofs.Ytncdpdbafklodaa.PA
