/- Contracts of the Go functions of this seat: what each call returns is what a Lean function of its arguments says; each theorem bears its own conditions. Written by a program of this session (wip/tools/mkprint.py). -/
import Derived.Test.YtijdengicjjebaaPAx0
import Derived.Test.YtijdengicjjebaaPAx1
import Derived.Test.YtijdengicjjebaaPAx8
namespace Go.Proofs.Ytijdengicjjebaa.PA
open Go.RowKit Go.Proofs.YtijdengicjjebaaW.PrintWords Go.Proofs.YtijdengicjjebaaW.PrintLast Go.Proofs.YtijdengicjjebaaW.PrintMore
attribute [local go_sem] max2_int min2_int max_two min_two max_three min_three max_four min_four   -- for this text's walks alone
set_option linter.unusedVariables false
set_option linter.unusedSimpArgs false

attribute [local go_sem ↓ high] unary_xor_u64 ux_if_u64
attribute [local go_sem] str_gtr str_leq str_geq
/-! ### falseworklaw1_FloEdges: function 11 -/
mutual
def falseworklaw1_FloEdges.j0 : Nat → Int → Int → Int → Bool → Option (Bool)
  | 0, _, _, _, _ => none
  | k + 1, x0, x5, x6, x30 => if x30 = true then (some false) else (if x6 = 9221120237041090560 then (falseworklaw1_FloEdges.j1 k x0 x5 false) else (if x6 = 9218868437227405312 then (falseworklaw1_FloEdges.j1 k x0 x5 false) else (if x6 = 18442240474082181120 then (falseworklaw1_FloEdges.j1 k x0 x5 false) else ((flo_Sum.f x0 9218868437227405312).bind fun t203 => (if t203 = 9218868437227405312 then ((flo_Sum.f x0 18442240474082181120).bind fun t204 => (if t204 = 18442240474082181120 then ((flo_Sum.f x0 (Go.bits .xor .u64 x0 9223372036854775808)).bind fun t205 => (if t205 = 0 then ((flo_Sum.f x0 0).bind fun t206 => (if t206 = x6 then ((flo_Sum.f x0 9223372036854775808).bind fun t207 => (falseworklaw1_FloEdges.j1 k x0 x5 (t207 != x6))) else (falseworklaw1_FloEdges.j1 k x0 x5 true))) else (falseworklaw1_FloEdges.j1 k x0 x5 true))) else (falseworklaw1_FloEdges.j1 k x0 x5 true))) else (falseworklaw1_FloEdges.j1 k x0 x5 true))))))
def falseworklaw1_FloEdges.j1 : Nat → Int → Int → Bool → Option (Bool)
  | 0, _, _, _ => none
  | k + 1, x0, x5, x69 => if x69 = true then (some false) else ((flo_Canon.f x5).bind fun t208 => (if t208 = 9221120237041090560 then ((flo_Canon.f (Go.bits .or .u64 x5 9223372036854775808)).bind fun t209 => (if t209 = 9221120237041090560 then ((flo_Sum.f x0 x5).bind fun t210 => (if t210 = 9221120237041090560 then ((flo_Cmp.f 0 9223372036854775808).bind fun t211 => (if t211 = 0 then ((flo_Cmp.f x5 (Go.bits .or .u64 x5 9223372036854775808)).bind fun t212 => (if t212 = 0 then ((falseworklaw1_awake.f).bind fun t213 => (some t213)) else (some false))) else (some false))) else (some false))) else (some false))) else (some false)))
end
def falseworklaw1_FloEdges.f (k : Nat) (a0 : Int) (a1 : Int) : Option (Bool) := (flo_Canon.f a0).bind fun t199 => (if t199 = 9221120237041090560 then (falseworklaw1_FloEdges.j0 k a0 (Go.bits .or .u64 (Go.bits .or .u64 (Go.bits .and .u64 a1 4503599627370495) 9218868437227405312) 1) t199 false) else ((flo_Cmp.f 18442240474082181120 a0).bind fun t200 => (if t200 > 0 then (falseworklaw1_FloEdges.j0 k a0 (Go.bits .or .u64 (Go.bits .or .u64 (Go.bits .and .u64 a1 4503599627370495) 9218868437227405312) 1) t199 true) else ((flo_Cmp.f a0 9218868437227405312).bind fun t201 => (if t201 > 0 then (falseworklaw1_FloEdges.j0 k a0 (Go.bits .or .u64 (Go.bits .or .u64 (Go.bits .and .u64 a1 4503599627370495) 9218868437227405312) 1) t199 true) else ((flo_Cmp.f a0 (Go.bits .or .u64 (Go.bits .or .u64 (Go.bits .and .u64 a1 4503599627370495) 9218868437227405312) 1)).bind fun t202 => (falseworklaw1_FloEdges.j0 k a0 (Go.bits .or .u64 (Go.bits .or .u64 (Go.bits .and .u64 a1 4503599627370495) 9218868437227405312) 1) t199 (t202 != (-1)))))))))
theorem falseworklaw1_FloEdges.mono_l : ∀ k, (∀ y0 y1 y2 y3, LeO (falseworklaw1_FloEdges.j0 k y0 y1 y2 y3) (falseworklaw1_FloEdges.j0 (k + 1) y0 y1 y2 y3)) ∧ (∀ y0 y1 y2, LeO (falseworklaw1_FloEdges.j1 k y0 y1 y2) (falseworklaw1_FloEdges.j1 (k + 1) y0 y1 y2))
  | 0 => ⟨fun _ _ _ _ r h => by simp [falseworklaw1_FloEdges.j0] at h, fun _ _ _ r h => by simp [falseworklaw1_FloEdges.j1] at h⟩
  | k + 1 => by
    obtain ⟨ih0, ih1⟩ := falseworklaw1_FloEdges.mono_l k
    refine ⟨?_, ?_⟩
    · intro y0 y1 y2 y3
      unfold falseworklaw1_FloEdges.j0
      repeat' first
      | (with_reducible exact ih0 _ _ _ _)
      | (with_reducible exact ih1 _ _ _)
      | (with_reducible exact LeO.refl _)
      | (with_reducible exact LeO.none _)
      | (with_reducible refine LeO.ite ?_ ?_)
      | (with_reducible refine LeO.bind ?_ (fun _ => ?_))
      | exact ih0 _ _ _ _
      | exact ih1 _ _ _
      | exact LeO.none _
      | refine LeO.ite ?_ ?_
      | refine LeO.bind ?_ (fun _ => ?_)
    · intro y0 y1 y2
      unfold falseworklaw1_FloEdges.j1
      repeat' first
      | (with_reducible exact ih0 _ _ _ _)
      | (with_reducible exact ih1 _ _ _)
      | (with_reducible exact LeO.refl _)
      | (with_reducible exact LeO.none _)
      | (with_reducible refine LeO.ite ?_ ?_)
      | (with_reducible refine LeO.bind ?_ (fun _ => ?_))
      | exact ih0 _ _ _ _
      | exact ih1 _ _ _
      | exact LeO.none _
      | refine LeO.ite ?_ ?_
      | refine LeO.bind ?_ (fun _ => ?_)
theorem falseworklaw1_FloEdges.mono : ∀ a0 a1 k, LeO (falseworklaw1_FloEdges.f k a0 a1) (falseworklaw1_FloEdges.f (k + 1) a0 a1) := by
  intro a0 a1 k
  obtain ⟨ih0, ih1⟩ := falseworklaw1_FloEdges.mono_l k
  unfold falseworklaw1_FloEdges.f
  repeat' first
      | (with_reducible exact ih0 _ _ _ _)
      | (with_reducible exact ih1 _ _ _)
      | (with_reducible exact LeO.refl _)
      | (with_reducible exact LeO.none _)
      | (with_reducible refine LeO.ite ?_ ?_)
      | (with_reducible refine LeO.bind ?_ (fun _ => ?_))
      | exact ih0 _ _ _ _
      | exact ih1 _ _ _
      | exact LeO.none _
      | refine LeO.ite ?_ ?_
      | refine LeO.bind ?_ (fun _ => ?_)
set_option maxHeartbeats 8000000 in
set_option maxRecDepth 100000 in
theorem falseworklaw1_FloEdges.calls (k : Nat) (a0 : Int) (a1 : Int) (r : Bool) (w : World) (h : falseworklaw1_FloEdges.f k a0 a1 = some r) :
    Calls Try.prog 11 #[.int .u64 a0, .int .u64 a1] w fun e w' => e = .returned (.bool r) ∧ Drawn0 w w' := by
  have H : ((flo_Canon.f a0).bind fun t199 => (if t199 = 9221120237041090560 then (falseworklaw1_FloEdges.j0 k a0 (Go.bits .or .u64 (Go.bits .or .u64 (Go.bits .and .u64 a1 4503599627370495) 9218868437227405312) 1) t199 false) else ((flo_Cmp.f 18442240474082181120 a0).bind fun t200 => (if t200 > 0 then (falseworklaw1_FloEdges.j0 k a0 (Go.bits .or .u64 (Go.bits .or .u64 (Go.bits .and .u64 a1 4503599627370495) 9218868437227405312) 1) t199 true) else ((flo_Cmp.f a0 9218868437227405312).bind fun t201 => (if t201 > 0 then (falseworklaw1_FloEdges.j0 k a0 (Go.bits .or .u64 (Go.bits .or .u64 (Go.bits .and .u64 a1 4503599627370495) 9218868437227405312) 1) t199 true) else ((flo_Cmp.f a0 (Go.bits .or .u64 (Go.bits .or .u64 (Go.bits .and .u64 a1 4503599627370495) 9218868437227405312) 1)).bind fun t202 => (falseworklaw1_FloEdges.j0 k a0 (Go.bits .or .u64 (Go.bits .or .u64 (Go.bits .and .u64 a1 4503599627370495) 9218868437227405312) 1) t199 (t202 != (-1)))))))))) = some r := h
  clear h
  replace H := Option.bind_eq_some_iff.mp H
  obtain ⟨t199, A30, H⟩ := H
  replace H : (if t199 = 9221120237041090560 then (falseworklaw1_FloEdges.j0 k a0 (Go.bits .or .u64 (Go.bits .or .u64 (Go.bits .and .u64 a1 4503599627370495) 9218868437227405312) 1) t199 false) else ((flo_Cmp.f 18442240474082181120 a0).bind fun t200 => (if t200 > 0 then (falseworklaw1_FloEdges.j0 k a0 (Go.bits .or .u64 (Go.bits .or .u64 (Go.bits .and .u64 a1 4503599627370495) 9218868437227405312) 1) t199 true) else ((flo_Cmp.f a0 9218868437227405312).bind fun t201 => (if t201 > 0 then (falseworklaw1_FloEdges.j0 k a0 (Go.bits .or .u64 (Go.bits .or .u64 (Go.bits .and .u64 a1 4503599627370495) 9218868437227405312) 1) t199 true) else ((flo_Cmp.f a0 (Go.bits .or .u64 (Go.bits .or .u64 (Go.bits .and .u64 a1 4503599627370495) 9218868437227405312) 1)).bind fun t202 => (falseworklaw1_FloEdges.j0 k a0 (Go.bits .or .u64 (Go.bits .or .u64 (Go.bits .and .u64 a1 4503599627370495) 9218868437227405312) 1) t199 (t202 != (-1))))))))) = some r := H
  have A3 := Aside0.mk A30
  clear A30
  have HC4 := Aside0.mk H
  clear H
  go_enter Try.func11, Try.ntmps11
  go_upto_region 3 with (first | ((with_reducible refine gate_callee (f := 12) rfl ?_); refine goesL_ (some 12) rfl rfl Try.func12 (by kernel_rfl) rfl #[.int .u64 a0] rfl (by (try simp only [List.map_toArray, List.map_cons, List.map_nil]); first | done | rfl | (simp only [List.length_drop, List.length_take]; rfl)) ?_; (with_reducible refine (flo_Canon.calls a0 t199 _ A3.out).mono ?_); rintro e w' ⟨rfl, ⟨nd, rfl⟩⟩; refine ⟨_, rfl, ?_⟩))
  (try simp only [Act.put, List.setIfInBounds_toArray, List.set_cons_zero, List.set_cons_succ])
  go_cut [30] (fun v30 wc => ∃ (kq : Nat) (x30_3 : Bool), v30 = .bool x30_3 ∧ Aside0 (falseworklaw1_FloEdges.j0 kq a0 (Go.bits .or .u64 (Go.bits .or .u64 (Go.bits .and .u64 a1 4503599627370495) 9218868437227405312) 1) t199 x30_3 = some r) ∧ Aside0 (kq ≤ k) ∧ Drawn0 w wc)
  case first =>
    have H := HC4.out
    clear HC4
    by_cases c5 : t199 = 9221120237041090560
    · rw [if_pos c5] at H
      have c5b0 : (t199 == 9221120237041090560) = true := beq_iff_eq.mpr c5
      have c5b1 : (t199 != 9221120237041090560) = false := bne_eq_false_iff_eq.mpr c5
      clear c5
      (first | rw [c5b0] | (simp only [i64_w, i32_w]; rw [c5b0]) | skip)
      have H' := Aside0.mk H
      clear H
      go_wp2
      go_meet
      case rel => exact ⟨_, (false), (by first | rfl | (simp; done) | (simp [*]; done)), H', ⟨by first | omega | exact Nat.le_refl _⟩, by repeat (first | exact Drawn0.refl _ | apply Drawn0.step)⟩
    · rw [if_neg c5] at H
      have c5b0 : (t199 == 9221120237041090560) = false := beq_eq_false_iff_ne.mpr c5
      have c5b1 : (t199 != 9221120237041090560) = true := bne_iff_ne.mpr c5
      (first | rw [c5b0] | (simp only [i64_w, i32_w]; rw [c5b0]) | skip)
      replace H := Option.bind_eq_some_iff.mp H
      obtain ⟨t200, A60, H⟩ := H
      replace H : (if t200 > 0 then (falseworklaw1_FloEdges.j0 k a0 (Go.bits .or .u64 (Go.bits .or .u64 (Go.bits .and .u64 a1 4503599627370495) 9218868437227405312) 1) t199 true) else ((flo_Cmp.f a0 9218868437227405312).bind fun t201 => (if t201 > 0 then (falseworklaw1_FloEdges.j0 k a0 (Go.bits .or .u64 (Go.bits .or .u64 (Go.bits .and .u64 a1 4503599627370495) 9218868437227405312) 1) t199 true) else ((flo_Cmp.f a0 (Go.bits .or .u64 (Go.bits .or .u64 (Go.bits .and .u64 a1 4503599627370495) 9218868437227405312) 1)).bind fun t202 => (falseworklaw1_FloEdges.j0 k a0 (Go.bits .or .u64 (Go.bits .or .u64 (Go.bits .and .u64 a1 4503599627370495) 9218868437227405312) 1) t199 (t202 != (-1))))))) = some r := H
      have A6 := Aside0.mk A60
      clear A60
      by_cases c7 : t200 > 0
      · rw [if_pos c7] at H
        have c7b0 : decide (0 < t200) = true := decide_eq_true c7
        clear c7
        have H' := Aside0.mk H
        clear H
        go_wp2_with (first | (go_at_call 25; (with_reducible refine (flo_Cmp.calls 18442240474082181120 a0 t200 _ A6.out).mono ?_); rintro e w' ⟨rfl, ⟨nd, rfl⟩⟩))
        go_meet
        case rel => exact ⟨_, (true), (by first | rfl | (simp; done) | (simp [*]; done)), H', ⟨by first | omega | exact Nat.le_refl _⟩, by repeat (first | exact Drawn0.refl _ | apply Drawn0.step)⟩
      · rw [if_neg c7] at H
        have c7b0 : decide (0 < t200) = false := decide_eq_false c7
        clear c7
        replace H := Option.bind_eq_some_iff.mp H
        obtain ⟨t201, A80, H⟩ := H
        replace H : (if t201 > 0 then (falseworklaw1_FloEdges.j0 k a0 (Go.bits .or .u64 (Go.bits .or .u64 (Go.bits .and .u64 a1 4503599627370495) 9218868437227405312) 1) t199 true) else ((flo_Cmp.f a0 (Go.bits .or .u64 (Go.bits .or .u64 (Go.bits .and .u64 a1 4503599627370495) 9218868437227405312) 1)).bind fun t202 => (falseworklaw1_FloEdges.j0 k a0 (Go.bits .or .u64 (Go.bits .or .u64 (Go.bits .and .u64 a1 4503599627370495) 9218868437227405312) 1) t199 (t202 != (-1))))) = some r := H
        have A8 := Aside0.mk A80
        clear A80
        by_cases c9 : t201 > 0
        · rw [if_pos c9] at H
          have c9b0 : decide (0 < t201) = true := decide_eq_true c9
          clear c9
          have H' := Aside0.mk H
          clear H
          go_wp2_with (first | (go_at_call 25; (with_reducible refine (flo_Cmp.calls 18442240474082181120 a0 t200 _ A6.out).mono ?_); rintro e w' ⟨rfl, ⟨nd, rfl⟩⟩) | (go_at_call 25; (with_reducible refine (flo_Cmp.calls a0 9218868437227405312 t201 _ A8.out).mono ?_); rintro e w' ⟨rfl, ⟨nd, rfl⟩⟩))
          go_meet
          case rel => exact ⟨_, (true), (by first | rfl | (simp; done) | (simp [*]; done)), H', ⟨by first | omega | exact Nat.le_refl _⟩, by repeat (first | exact Drawn0.refl _ | apply Drawn0.step)⟩
        · rw [if_neg c9] at H
          have c9b0 : decide (0 < t201) = false := decide_eq_false c9
          clear c9
          replace H := Option.bind_eq_some_iff.mp H
          obtain ⟨t202, A100, H⟩ := H
          replace H : (falseworklaw1_FloEdges.j0 k a0 (Go.bits .or .u64 (Go.bits .or .u64 (Go.bits .and .u64 a1 4503599627370495) 9218868437227405312) 1) t199 (t202 != (-1))) = some r := H
          have A10 := Aside0.mk A100
          clear A100
          have H' := Aside0.mk H
          clear H
          go_wp2_with (first | (go_at_call 25; (with_reducible refine (flo_Cmp.calls 18442240474082181120 a0 t200 _ A6.out).mono ?_); rintro e w' ⟨rfl, ⟨nd, rfl⟩⟩) | (go_at_call 25; (with_reducible refine (flo_Cmp.calls a0 9218868437227405312 t201 _ A8.out).mono ?_); rintro e w' ⟨rfl, ⟨nd, rfl⟩⟩) | (go_at_call 25; (with_reducible refine (flo_Cmp.calls a0 (Go.bits .or .u64 (Go.bits .or .u64 (Go.bits .and .u64 a1 4503599627370495) 9218868437227405312) 1) t202 _ A10.out).mono ?_); rintro e w' ⟨rfl, ⟨nd, rfl⟩⟩))
          go_meet
          case rel => exact ⟨_, ((t202 != (-1))), (by first | rfl | (simp; done) | (simp [*]; done)), H', ⟨by first | omega | exact Nat.le_refl _⟩, by repeat (first | exact Drawn0.refl _ | apply Drawn0.step)⟩
  case rest =>
    clear HC4
    try clear c1
    try clear p2
    try clear c5
    try clear c5b0
    try clear c5b1
    try clear c7
    try clear c7b0
    try clear c9
    try clear c9b0
    obtain ⟨kq, x30_3, rfl, HA, HJ3, ⟨mc3, rfl⟩⟩ := hcut
    cases kq with
    | zero => exact absurd HA.out (by simp [falseworklaw1_FloEdges.j0])
    | succ kj3 =>
      have H := HA.out
      clear HA
      simp only [falseworklaw1_FloEdges.j0] at H
      by_cases c11 : x30_3 = true
      · subst c11
        have H1 : (some false) = some r := by rw [if_pos rfl] at H; exact H
        clear H
        have H := H1
        clear H1
        obtain rfl := Option.some.inj H
        go_wp2
        go_ret
        exact ⟨by first | rfl | (simp; done) | (simp [*]; done), by repeat (first | exact Drawn0.refl _ | apply Drawn0.step)⟩
      · replace c11 := Bool.eq_false_iff.mpr c11
        subst c11
        have H1 : (if t199 = 9221120237041090560 then (falseworklaw1_FloEdges.j1 kj3 a0 (Go.bits .or .u64 (Go.bits .or .u64 (Go.bits .and .u64 a1 4503599627370495) 9218868437227405312) 1) false) else (if t199 = 9218868437227405312 then (falseworklaw1_FloEdges.j1 kj3 a0 (Go.bits .or .u64 (Go.bits .or .u64 (Go.bits .and .u64 a1 4503599627370495) 9218868437227405312) 1) false) else (if t199 = 18442240474082181120 then (falseworklaw1_FloEdges.j1 kj3 a0 (Go.bits .or .u64 (Go.bits .or .u64 (Go.bits .and .u64 a1 4503599627370495) 9218868437227405312) 1) false) else ((flo_Sum.f a0 9218868437227405312).bind fun t203 => (if t203 = 9218868437227405312 then ((flo_Sum.f a0 18442240474082181120).bind fun t204 => (if t204 = 18442240474082181120 then ((flo_Sum.f a0 (Go.bits .xor .u64 a0 9223372036854775808)).bind fun t205 => (if t205 = 0 then ((flo_Sum.f a0 0).bind fun t206 => (if t206 = t199 then ((flo_Sum.f a0 9223372036854775808).bind fun t207 => (falseworklaw1_FloEdges.j1 kj3 a0 (Go.bits .or .u64 (Go.bits .or .u64 (Go.bits .and .u64 a1 4503599627370495) 9218868437227405312) 1) (t207 != t199))) else (falseworklaw1_FloEdges.j1 kj3 a0 (Go.bits .or .u64 (Go.bits .or .u64 (Go.bits .and .u64 a1 4503599627370495) 9218868437227405312) 1) true))) else (falseworklaw1_FloEdges.j1 kj3 a0 (Go.bits .or .u64 (Go.bits .or .u64 (Go.bits .and .u64 a1 4503599627370495) 9218868437227405312) 1) true))) else (falseworklaw1_FloEdges.j1 kj3 a0 (Go.bits .or .u64 (Go.bits .or .u64 (Go.bits .and .u64 a1 4503599627370495) 9218868437227405312) 1) true))) else (falseworklaw1_FloEdges.j1 kj3 a0 (Go.bits .or .u64 (Go.bits .or .u64 (Go.bits .and .u64 a1 4503599627370495) 9218868437227405312) 1) true)))))) = some r := by rw [if_neg (show ¬ (false = true) by decide)] at H; exact H
        clear H
        have H := H1
        clear H1
        have HC12 := Aside0.mk H
        clear H
        go_upto_region 5 with (fail)
        go_cut [69] (fun v69 wc => ∃ (kq : Nat) (x69_11 : Bool), v69 = .bool x69_11 ∧ Aside0 (falseworklaw1_FloEdges.j1 kq a0 (Go.bits .or .u64 (Go.bits .or .u64 (Go.bits .and .u64 a1 4503599627370495) 9218868437227405312) 1) x69_11 = some r) ∧ Aside0 (kq ≤ kj3) ∧ Drawn0 w wc)
        case first =>
          have H := HC12.out
          clear HC12
          by_cases c13 : t199 = 9221120237041090560
          · rw [if_pos c13] at H
            have c13b0 : (t199 == 9221120237041090560) = true := beq_iff_eq.mpr c13
            have c13b1 : (t199 != 9221120237041090560) = false := bne_eq_false_iff_eq.mpr c13
            clear c13
            (first | rw [c13b0] | (simp only [i64_w, i32_w]; rw [c13b0]) | skip)
            have H' := Aside0.mk H
            clear H
            go_wp2
            go_meet
            case rel => exact ⟨_, (false), (by first | rfl | (simp; done) | (simp [*]; done)), H', ⟨by have := HJ3.out; first | omega | exact Nat.le_refl _⟩, by repeat (first | exact Drawn0.refl _ | apply Drawn0.step)⟩
          · rw [if_neg c13] at H
            have c13b0 : (t199 == 9221120237041090560) = false := beq_eq_false_iff_ne.mpr c13
            have c13b1 : (t199 != 9221120237041090560) = true := bne_iff_ne.mpr c13
            (first | rw [c13b0] | (simp only [i64_w, i32_w]; rw [c13b0]) | skip)
            by_cases c14 : t199 = 9218868437227405312
            · rw [if_pos c14] at H
              have c14b0 : (t199 == 9218868437227405312) = true := beq_iff_eq.mpr c14
              have c14b1 : (t199 != 9218868437227405312) = false := bne_eq_false_iff_eq.mpr c14
              clear c14
              have H' := Aside0.mk H
              clear H
              go_wp2
              go_meet
              case rel => exact ⟨_, (false), (by first | rfl | (simp; done) | (simp [*]; done)), H', ⟨by have := HJ3.out; first | omega | exact Nat.le_refl _⟩, by repeat (first | exact Drawn0.refl _ | apply Drawn0.step)⟩
            · rw [if_neg c14] at H
              have c14b0 : (t199 == 9218868437227405312) = false := beq_eq_false_iff_ne.mpr c14
              have c14b1 : (t199 != 9218868437227405312) = true := bne_iff_ne.mpr c14
              by_cases c15 : t199 = 18442240474082181120
              · rw [if_pos c15] at H
                have c15b0 : (t199 == 18442240474082181120) = true := beq_iff_eq.mpr c15
                have c15b1 : (t199 != 18442240474082181120) = false := bne_eq_false_iff_eq.mpr c15
                clear c15
                have H' := Aside0.mk H
                clear H
                go_wp2
                go_meet
                case rel => exact ⟨_, (false), (by first | rfl | (simp; done) | (simp [*]; done)), H', ⟨by have := HJ3.out; first | omega | exact Nat.le_refl _⟩, by repeat (first | exact Drawn0.refl _ | apply Drawn0.step)⟩
              · rw [if_neg c15] at H
                have c15b0 : (t199 == 18442240474082181120) = false := beq_eq_false_iff_ne.mpr c15
                have c15b1 : (t199 != 18442240474082181120) = true := bne_iff_ne.mpr c15
                replace H := Option.bind_eq_some_iff.mp H
                obtain ⟨t203, A160, H⟩ := H
                replace H : (if t203 = 9218868437227405312 then ((flo_Sum.f a0 18442240474082181120).bind fun t204 => (if t204 = 18442240474082181120 then ((flo_Sum.f a0 (Go.bits .xor .u64 a0 9223372036854775808)).bind fun t205 => (if t205 = 0 then ((flo_Sum.f a0 0).bind fun t206 => (if t206 = t199 then ((flo_Sum.f a0 9223372036854775808).bind fun t207 => (falseworklaw1_FloEdges.j1 kj3 a0 (Go.bits .or .u64 (Go.bits .or .u64 (Go.bits .and .u64 a1 4503599627370495) 9218868437227405312) 1) (t207 != t199))) else (falseworklaw1_FloEdges.j1 kj3 a0 (Go.bits .or .u64 (Go.bits .or .u64 (Go.bits .and .u64 a1 4503599627370495) 9218868437227405312) 1) true))) else (falseworklaw1_FloEdges.j1 kj3 a0 (Go.bits .or .u64 (Go.bits .or .u64 (Go.bits .and .u64 a1 4503599627370495) 9218868437227405312) 1) true))) else (falseworklaw1_FloEdges.j1 kj3 a0 (Go.bits .or .u64 (Go.bits .or .u64 (Go.bits .and .u64 a1 4503599627370495) 9218868437227405312) 1) true))) else (falseworklaw1_FloEdges.j1 kj3 a0 (Go.bits .or .u64 (Go.bits .or .u64 (Go.bits .and .u64 a1 4503599627370495) 9218868437227405312) 1) true)) = some r := H
                have A16 := Aside0.mk A160
                clear A160
                by_cases c17 : t203 = 9218868437227405312
                · rw [if_pos c17] at H
                  have c17b0 : (t203 == 9218868437227405312) = true := beq_iff_eq.mpr c17
                  have c17b1 : (t203 != 9218868437227405312) = false := bne_eq_false_iff_eq.mpr c17
                  clear c17
                  replace H := Option.bind_eq_some_iff.mp H
                  obtain ⟨t204, A180, H⟩ := H
                  replace H : (if t204 = 18442240474082181120 then ((flo_Sum.f a0 (Go.bits .xor .u64 a0 9223372036854775808)).bind fun t205 => (if t205 = 0 then ((flo_Sum.f a0 0).bind fun t206 => (if t206 = t199 then ((flo_Sum.f a0 9223372036854775808).bind fun t207 => (falseworklaw1_FloEdges.j1 kj3 a0 (Go.bits .or .u64 (Go.bits .or .u64 (Go.bits .and .u64 a1 4503599627370495) 9218868437227405312) 1) (t207 != t199))) else (falseworklaw1_FloEdges.j1 kj3 a0 (Go.bits .or .u64 (Go.bits .or .u64 (Go.bits .and .u64 a1 4503599627370495) 9218868437227405312) 1) true))) else (falseworklaw1_FloEdges.j1 kj3 a0 (Go.bits .or .u64 (Go.bits .or .u64 (Go.bits .and .u64 a1 4503599627370495) 9218868437227405312) 1) true))) else (falseworklaw1_FloEdges.j1 kj3 a0 (Go.bits .or .u64 (Go.bits .or .u64 (Go.bits .and .u64 a1 4503599627370495) 9218868437227405312) 1) true)) = some r := H
                  have A18 := Aside0.mk A180
                  clear A180
                  by_cases c19 : t204 = 18442240474082181120
                  · rw [if_pos c19] at H
                    have c19b0 : (t204 == 18442240474082181120) = true := beq_iff_eq.mpr c19
                    have c19b1 : (t204 != 18442240474082181120) = false := bne_eq_false_iff_eq.mpr c19
                    clear c19
                    replace H := Option.bind_eq_some_iff.mp H
                    obtain ⟨t205, A200, H⟩ := H
                    replace H : (if t205 = 0 then ((flo_Sum.f a0 0).bind fun t206 => (if t206 = t199 then ((flo_Sum.f a0 9223372036854775808).bind fun t207 => (falseworklaw1_FloEdges.j1 kj3 a0 (Go.bits .or .u64 (Go.bits .or .u64 (Go.bits .and .u64 a1 4503599627370495) 9218868437227405312) 1) (t207 != t199))) else (falseworklaw1_FloEdges.j1 kj3 a0 (Go.bits .or .u64 (Go.bits .or .u64 (Go.bits .and .u64 a1 4503599627370495) 9218868437227405312) 1) true))) else (falseworklaw1_FloEdges.j1 kj3 a0 (Go.bits .or .u64 (Go.bits .or .u64 (Go.bits .and .u64 a1 4503599627370495) 9218868437227405312) 1) true)) = some r := H
                    have A20 := Aside0.mk A200
                    clear A200
                    by_cases c21 : t205 = 0
                    · rw [if_pos c21] at H
                      have c21b0 : (t205 == 0) = true := beq_iff_eq.mpr c21
                      have c21b1 : (t205 != 0) = false := bne_eq_false_iff_eq.mpr c21
                      clear c21
                      replace H := Option.bind_eq_some_iff.mp H
                      obtain ⟨t206, A220, H⟩ := H
                      replace H : (if t206 = t199 then ((flo_Sum.f a0 9223372036854775808).bind fun t207 => (falseworklaw1_FloEdges.j1 kj3 a0 (Go.bits .or .u64 (Go.bits .or .u64 (Go.bits .and .u64 a1 4503599627370495) 9218868437227405312) 1) (t207 != t199))) else (falseworklaw1_FloEdges.j1 kj3 a0 (Go.bits .or .u64 (Go.bits .or .u64 (Go.bits .and .u64 a1 4503599627370495) 9218868437227405312) 1) true)) = some r := H
                      have A22 := Aside0.mk A220
                      clear A220
                      by_cases c23 : t206 = t199
                      · rw [if_pos c23] at H
                        have c23b0 : (t206 == t199) = true := beq_iff_eq.mpr c23
                        have c23b1 : (t206 != t199) = false := bne_eq_false_iff_eq.mpr c23
                        clear c23
                        replace H := Option.bind_eq_some_iff.mp H
                        obtain ⟨t207, A240, H⟩ := H
                        replace H : (falseworklaw1_FloEdges.j1 kj3 a0 (Go.bits .or .u64 (Go.bits .or .u64 (Go.bits .and .u64 a1 4503599627370495) 9218868437227405312) 1) (t207 != t199)) = some r := H
                        have A24 := Aside0.mk A240
                        clear A240
                        have H' := Aside0.mk H
                        clear H
                        go_wp2_with (first | (go_at_call 15; (with_reducible refine (flo_Sum.calls a0 9218868437227405312 t203 _ A16.out).mono ?_); rintro e w' ⟨rfl, ⟨nd, rfl⟩⟩) | (go_at_call 15; (with_reducible refine (flo_Sum.calls a0 18442240474082181120 t204 _ A18.out).mono ?_); rintro e w' ⟨rfl, ⟨nd, rfl⟩⟩) | (go_at_call 15; (with_reducible refine (flo_Sum.calls a0 (Go.bits .xor .u64 a0 9223372036854775808) t205 _ A20.out).mono ?_); rintro e w' ⟨rfl, ⟨nd, rfl⟩⟩) | (go_at_call 15; (with_reducible refine (flo_Sum.calls a0 0 t206 _ A22.out).mono ?_); rintro e w' ⟨rfl, ⟨nd, rfl⟩⟩) | (go_at_call 15; (with_reducible refine (flo_Sum.calls a0 9223372036854775808 t207 _ A24.out).mono ?_); rintro e w' ⟨rfl, ⟨nd, rfl⟩⟩))
                        go_meet
                        case rel => exact ⟨_, ((t207 != t199)), (by first | rfl | (simp; done) | (simp [*]; done)), H', ⟨by have := HJ3.out; first | omega | exact Nat.le_refl _⟩, by repeat (first | exact Drawn0.refl _ | apply Drawn0.step)⟩
                      · rw [if_neg c23] at H
                        have c23b0 : (t206 == t199) = false := beq_eq_false_iff_ne.mpr c23
                        have c23b1 : (t206 != t199) = true := bne_iff_ne.mpr c23
                        have H' := Aside0.mk H
                        clear H
                        go_wp2_with (first | (go_at_call 15; (with_reducible refine (flo_Sum.calls a0 9218868437227405312 t203 _ A16.out).mono ?_); rintro e w' ⟨rfl, ⟨nd, rfl⟩⟩) | (go_at_call 15; (with_reducible refine (flo_Sum.calls a0 18442240474082181120 t204 _ A18.out).mono ?_); rintro e w' ⟨rfl, ⟨nd, rfl⟩⟩) | (go_at_call 15; (with_reducible refine (flo_Sum.calls a0 (Go.bits .xor .u64 a0 9223372036854775808) t205 _ A20.out).mono ?_); rintro e w' ⟨rfl, ⟨nd, rfl⟩⟩) | (go_at_call 15; (with_reducible refine (flo_Sum.calls a0 0 t206 _ A22.out).mono ?_); rintro e w' ⟨rfl, ⟨nd, rfl⟩⟩))
                        go_meet
                        case rel => exact ⟨_, (true), (by first | rfl | (simp; done) | (simp [*]; done)), H', ⟨by have := HJ3.out; first | omega | exact Nat.le_refl _⟩, by repeat (first | exact Drawn0.refl _ | apply Drawn0.step)⟩
                    · rw [if_neg c21] at H
                      have c21b0 : (t205 == 0) = false := beq_eq_false_iff_ne.mpr c21
                      have c21b1 : (t205 != 0) = true := bne_iff_ne.mpr c21
                      have H' := Aside0.mk H
                      clear H
                      go_wp2_with (first | (go_at_call 15; (with_reducible refine (flo_Sum.calls a0 9218868437227405312 t203 _ A16.out).mono ?_); rintro e w' ⟨rfl, ⟨nd, rfl⟩⟩) | (go_at_call 15; (with_reducible refine (flo_Sum.calls a0 18442240474082181120 t204 _ A18.out).mono ?_); rintro e w' ⟨rfl, ⟨nd, rfl⟩⟩) | (go_at_call 15; (with_reducible refine (flo_Sum.calls a0 (Go.bits .xor .u64 a0 9223372036854775808) t205 _ A20.out).mono ?_); rintro e w' ⟨rfl, ⟨nd, rfl⟩⟩))
                      go_meet
                      case rel => exact ⟨_, (true), (by first | rfl | (simp; done) | (simp [*]; done)), H', ⟨by have := HJ3.out; first | omega | exact Nat.le_refl _⟩, by repeat (first | exact Drawn0.refl _ | apply Drawn0.step)⟩
                  · rw [if_neg c19] at H
                    have c19b0 : (t204 == 18442240474082181120) = false := beq_eq_false_iff_ne.mpr c19
                    have c19b1 : (t204 != 18442240474082181120) = true := bne_iff_ne.mpr c19
                    have H' := Aside0.mk H
                    clear H
                    go_wp2_with (first | (go_at_call 15; (with_reducible refine (flo_Sum.calls a0 9218868437227405312 t203 _ A16.out).mono ?_); rintro e w' ⟨rfl, ⟨nd, rfl⟩⟩) | (go_at_call 15; (with_reducible refine (flo_Sum.calls a0 18442240474082181120 t204 _ A18.out).mono ?_); rintro e w' ⟨rfl, ⟨nd, rfl⟩⟩))
                    go_meet
                    case rel => exact ⟨_, (true), (by first | rfl | (simp; done) | (simp [*]; done)), H', ⟨by have := HJ3.out; first | omega | exact Nat.le_refl _⟩, by repeat (first | exact Drawn0.refl _ | apply Drawn0.step)⟩
                · rw [if_neg c17] at H
                  have c17b0 : (t203 == 9218868437227405312) = false := beq_eq_false_iff_ne.mpr c17
                  have c17b1 : (t203 != 9218868437227405312) = true := bne_iff_ne.mpr c17
                  have H' := Aside0.mk H
                  clear H
                  go_wp2_with (first | (go_at_call 15; (with_reducible refine (flo_Sum.calls a0 9218868437227405312 t203 _ A16.out).mono ?_); rintro e w' ⟨rfl, ⟨nd, rfl⟩⟩))
                  go_meet
                  case rel => exact ⟨_, (true), (by first | rfl | (simp; done) | (simp [*]; done)), H', ⟨by have := HJ3.out; first | omega | exact Nat.le_refl _⟩, by repeat (first | exact Drawn0.refl _ | apply Drawn0.step)⟩
        case rest =>
          clear HC12
          try clear c1
          try clear c2
          try clear p2
          try clear c3
          try clear c5
          try clear c5b0
          try clear c5b1
          try clear c7
          try clear c7b0
          try clear c9
          try clear c9b0
          try clear c11
          try clear c12
          try clear c13
          try clear c13b0
          try clear c13b1
          try clear c14
          try clear c14b0
          try clear c14b1
          try clear c15
          try clear c15b0
          try clear c15b1
          try clear c17
          try clear c17b0
          try clear c17b1
          try clear c19
          try clear c19b0
          try clear c19b1
          try clear c21
          try clear c21b0
          try clear c21b1
          try clear c23
          try clear c23b0
          try clear c23b1
          try clear p2
          obtain ⟨kq, x69_11, rfl, HA, HJ11, ⟨mc11, rfl⟩⟩ := hcut
          cases kq with
          | zero => exact absurd HA.out (by simp [falseworklaw1_FloEdges.j1])
          | succ kj11 =>
            have H := HA.out
            clear HA
            simp only [falseworklaw1_FloEdges.j1] at H
            by_cases c25 : x69_11 = true
            · subst c25
              have H1 : (some false) = some r := by rw [if_pos rfl] at H; exact H
              clear H
              have H := H1
              clear H1
              obtain rfl := Option.some.inj H
              go_wp2
              go_ret
              exact ⟨by first | rfl | (simp; done) | (simp [*]; done), by repeat (first | exact Drawn0.refl _ | apply Drawn0.step)⟩
            · replace c25 := Bool.eq_false_iff.mpr c25
              subst c25
              have H1 : ((flo_Canon.f (Go.bits .or .u64 (Go.bits .or .u64 (Go.bits .and .u64 a1 4503599627370495) 9218868437227405312) 1)).bind fun t208 => (if t208 = 9221120237041090560 then ((flo_Canon.f (Go.bits .or .u64 (Go.bits .or .u64 (Go.bits .or .u64 (Go.bits .and .u64 a1 4503599627370495) 9218868437227405312) 1) 9223372036854775808)).bind fun t209 => (if t209 = 9221120237041090560 then ((flo_Sum.f a0 (Go.bits .or .u64 (Go.bits .or .u64 (Go.bits .and .u64 a1 4503599627370495) 9218868437227405312) 1)).bind fun t210 => (if t210 = 9221120237041090560 then ((flo_Cmp.f 0 9223372036854775808).bind fun t211 => (if t211 = 0 then ((flo_Cmp.f (Go.bits .or .u64 (Go.bits .or .u64 (Go.bits .and .u64 a1 4503599627370495) 9218868437227405312) 1) (Go.bits .or .u64 (Go.bits .or .u64 (Go.bits .or .u64 (Go.bits .and .u64 a1 4503599627370495) 9218868437227405312) 1) 9223372036854775808)).bind fun t212 => (if t212 = 0 then ((falseworklaw1_awake.f).bind fun t213 => (some t213)) else (some false))) else (some false))) else (some false))) else (some false))) else (some false))) = some r := by rw [if_neg (show ¬ (false = true) by decide)] at H; exact H
              clear H
              have H := H1
              clear H1
              replace H := Option.bind_eq_some_iff.mp H
              obtain ⟨t208, A260, H⟩ := H
              replace H : (if t208 = 9221120237041090560 then ((flo_Canon.f (Go.bits .or .u64 (Go.bits .or .u64 (Go.bits .or .u64 (Go.bits .and .u64 a1 4503599627370495) 9218868437227405312) 1) 9223372036854775808)).bind fun t209 => (if t209 = 9221120237041090560 then ((flo_Sum.f a0 (Go.bits .or .u64 (Go.bits .or .u64 (Go.bits .and .u64 a1 4503599627370495) 9218868437227405312) 1)).bind fun t210 => (if t210 = 9221120237041090560 then ((flo_Cmp.f 0 9223372036854775808).bind fun t211 => (if t211 = 0 then ((flo_Cmp.f (Go.bits .or .u64 (Go.bits .or .u64 (Go.bits .and .u64 a1 4503599627370495) 9218868437227405312) 1) (Go.bits .or .u64 (Go.bits .or .u64 (Go.bits .or .u64 (Go.bits .and .u64 a1 4503599627370495) 9218868437227405312) 1) 9223372036854775808)).bind fun t212 => (if t212 = 0 then ((falseworklaw1_awake.f).bind fun t213 => (some t213)) else (some false))) else (some false))) else (some false))) else (some false))) else (some false)) = some r := H
              have A26 := Aside0.mk A260
              clear A260
              by_cases c27 : t208 = 9221120237041090560
              · rw [if_pos c27] at H
                have c27b0 : (t208 == 9221120237041090560) = true := beq_iff_eq.mpr c27
                have c27b1 : (t208 != 9221120237041090560) = false := bne_eq_false_iff_eq.mpr c27
                clear c27
                replace H := Option.bind_eq_some_iff.mp H
                obtain ⟨t209, A280, H⟩ := H
                replace H : (if t209 = 9221120237041090560 then ((flo_Sum.f a0 (Go.bits .or .u64 (Go.bits .or .u64 (Go.bits .and .u64 a1 4503599627370495) 9218868437227405312) 1)).bind fun t210 => (if t210 = 9221120237041090560 then ((flo_Cmp.f 0 9223372036854775808).bind fun t211 => (if t211 = 0 then ((flo_Cmp.f (Go.bits .or .u64 (Go.bits .or .u64 (Go.bits .and .u64 a1 4503599627370495) 9218868437227405312) 1) (Go.bits .or .u64 (Go.bits .or .u64 (Go.bits .or .u64 (Go.bits .and .u64 a1 4503599627370495) 9218868437227405312) 1) 9223372036854775808)).bind fun t212 => (if t212 = 0 then ((falseworklaw1_awake.f).bind fun t213 => (some t213)) else (some false))) else (some false))) else (some false))) else (some false)) = some r := H
                have A28 := Aside0.mk A280
                clear A280
                by_cases c29 : t209 = 9221120237041090560
                · rw [if_pos c29] at H
                  have c29b0 : (t209 == 9221120237041090560) = true := beq_iff_eq.mpr c29
                  have c29b1 : (t209 != 9221120237041090560) = false := bne_eq_false_iff_eq.mpr c29
                  clear c29
                  replace H := Option.bind_eq_some_iff.mp H
                  obtain ⟨t210, A300, H⟩ := H
                  replace H : (if t210 = 9221120237041090560 then ((flo_Cmp.f 0 9223372036854775808).bind fun t211 => (if t211 = 0 then ((flo_Cmp.f (Go.bits .or .u64 (Go.bits .or .u64 (Go.bits .and .u64 a1 4503599627370495) 9218868437227405312) 1) (Go.bits .or .u64 (Go.bits .or .u64 (Go.bits .or .u64 (Go.bits .and .u64 a1 4503599627370495) 9218868437227405312) 1) 9223372036854775808)).bind fun t212 => (if t212 = 0 then ((falseworklaw1_awake.f).bind fun t213 => (some t213)) else (some false))) else (some false))) else (some false)) = some r := H
                  have A30 := Aside0.mk A300
                  clear A300
                  by_cases c31 : t210 = 9221120237041090560
                  · rw [if_pos c31] at H
                    have c31b0 : (t210 == 9221120237041090560) = true := beq_iff_eq.mpr c31
                    have c31b1 : (t210 != 9221120237041090560) = false := bne_eq_false_iff_eq.mpr c31
                    clear c31
                    replace H := Option.bind_eq_some_iff.mp H
                    obtain ⟨t211, A320, H⟩ := H
                    replace H : (if t211 = 0 then ((flo_Cmp.f (Go.bits .or .u64 (Go.bits .or .u64 (Go.bits .and .u64 a1 4503599627370495) 9218868437227405312) 1) (Go.bits .or .u64 (Go.bits .or .u64 (Go.bits .or .u64 (Go.bits .and .u64 a1 4503599627370495) 9218868437227405312) 1) 9223372036854775808)).bind fun t212 => (if t212 = 0 then ((falseworklaw1_awake.f).bind fun t213 => (some t213)) else (some false))) else (some false)) = some r := H
                    have A32 := Aside0.mk A320
                    clear A320
                    by_cases c33 : t211 = 0
                    · rw [if_pos c33] at H
                      have c33b0 : (t211 == 0) = true := beq_iff_eq.mpr c33
                      have c33b1 : (t211 != 0) = false := bne_eq_false_iff_eq.mpr c33
                      clear c33
                      replace H := Option.bind_eq_some_iff.mp H
                      obtain ⟨t212, A340, H⟩ := H
                      replace H : (if t212 = 0 then ((falseworklaw1_awake.f).bind fun t213 => (some t213)) else (some false)) = some r := H
                      have A34 := Aside0.mk A340
                      clear A340
                      by_cases c35 : t212 = 0
                      · rw [if_pos c35] at H
                        have c35b0 : (t212 == 0) = true := beq_iff_eq.mpr c35
                        have c35b1 : (t212 != 0) = false := bne_eq_false_iff_eq.mpr c35
                        clear c35
                        replace H := Option.bind_eq_some_iff.mp H
                        obtain ⟨t213, A360, H⟩ := H
                        replace H : (some t213) = some r := H
                        have A36 := Aside0.mk A360
                        clear A360
                        obtain rfl := Option.some.inj H
                        go_wp2_with (first | ((with_reducible refine gate_callee (f := 12) rfl ?_); refine goesL_ (some 71) rfl rfl Try.func12 (by kernel_rfl) rfl #[.int .u64 (Go.bits .or .u64 (Go.bits .or .u64 (Go.bits .and .u64 a1 4503599627370495) 9218868437227405312) 1)] rfl (by (try simp only [List.map_toArray, List.map_cons, List.map_nil]); first | done | rfl | (simp only [List.length_drop, List.length_take]; rfl)) ?_; (with_reducible refine (flo_Canon.calls (Go.bits .or .u64 (Go.bits .or .u64 (Go.bits .and .u64 a1 4503599627370495) 9218868437227405312) 1) t208 _ A26.out).mono ?_); rintro e w' ⟨rfl, ⟨nd, rfl⟩⟩; refine ⟨_, rfl, ?_⟩) | (go_at_call 12; (with_reducible refine (flo_Canon.calls (Go.bits .or .u64 (Go.bits .or .u64 (Go.bits .or .u64 (Go.bits .and .u64 a1 4503599627370495) 9218868437227405312) 1) 9223372036854775808) t209 _ A28.out).mono ?_); rintro e w' ⟨rfl, ⟨nd, rfl⟩⟩) | (go_at_call 15; (with_reducible refine (flo_Sum.calls a0 (Go.bits .or .u64 (Go.bits .or .u64 (Go.bits .and .u64 a1 4503599627370495) 9218868437227405312) 1) t210 _ A30.out).mono ?_); rintro e w' ⟨rfl, ⟨nd, rfl⟩⟩) | (go_at_call 25; (with_reducible refine (flo_Cmp.calls 0 9223372036854775808 t211 _ A32.out).mono ?_); rintro e w' ⟨rfl, ⟨nd, rfl⟩⟩) | (go_at_call 25; (with_reducible refine (flo_Cmp.calls (Go.bits .or .u64 (Go.bits .or .u64 (Go.bits .and .u64 a1 4503599627370495) 9218868437227405312) 1) (Go.bits .or .u64 (Go.bits .or .u64 (Go.bits .or .u64 (Go.bits .and .u64 a1 4503599627370495) 9218868437227405312) 1) 9223372036854775808) t212 _ A34.out).mono ?_); rintro e w' ⟨rfl, ⟨nd, rfl⟩⟩) | (go_at_call 14; (with_reducible refine (falseworklaw1_awake.calls  t213 _ A36.out).mono ?_); rintro e w' ⟨rfl, ⟨nd, rfl⟩⟩))
                        go_ret
                        exact ⟨by first | rfl | (simp; done) | (simp [*]; done), by repeat (first | exact Drawn0.refl _ | apply Drawn0.step)⟩
                      · rw [if_neg c35] at H
                        have c35b0 : (t212 == 0) = false := beq_eq_false_iff_ne.mpr c35
                        have c35b1 : (t212 != 0) = true := bne_iff_ne.mpr c35
                        obtain rfl := Option.some.inj H
                        go_wp2_with (first | ((with_reducible refine gate_callee (f := 12) rfl ?_); refine goesL_ (some 71) rfl rfl Try.func12 (by kernel_rfl) rfl #[.int .u64 (Go.bits .or .u64 (Go.bits .or .u64 (Go.bits .and .u64 a1 4503599627370495) 9218868437227405312) 1)] rfl (by (try simp only [List.map_toArray, List.map_cons, List.map_nil]); first | done | rfl | (simp only [List.length_drop, List.length_take]; rfl)) ?_; (with_reducible refine (flo_Canon.calls (Go.bits .or .u64 (Go.bits .or .u64 (Go.bits .and .u64 a1 4503599627370495) 9218868437227405312) 1) t208 _ A26.out).mono ?_); rintro e w' ⟨rfl, ⟨nd, rfl⟩⟩; refine ⟨_, rfl, ?_⟩) | (go_at_call 12; (with_reducible refine (flo_Canon.calls (Go.bits .or .u64 (Go.bits .or .u64 (Go.bits .or .u64 (Go.bits .and .u64 a1 4503599627370495) 9218868437227405312) 1) 9223372036854775808) t209 _ A28.out).mono ?_); rintro e w' ⟨rfl, ⟨nd, rfl⟩⟩) | (go_at_call 15; (with_reducible refine (flo_Sum.calls a0 (Go.bits .or .u64 (Go.bits .or .u64 (Go.bits .and .u64 a1 4503599627370495) 9218868437227405312) 1) t210 _ A30.out).mono ?_); rintro e w' ⟨rfl, ⟨nd, rfl⟩⟩) | (go_at_call 25; (with_reducible refine (flo_Cmp.calls 0 9223372036854775808 t211 _ A32.out).mono ?_); rintro e w' ⟨rfl, ⟨nd, rfl⟩⟩) | (go_at_call 25; (with_reducible refine (flo_Cmp.calls (Go.bits .or .u64 (Go.bits .or .u64 (Go.bits .and .u64 a1 4503599627370495) 9218868437227405312) 1) (Go.bits .or .u64 (Go.bits .or .u64 (Go.bits .or .u64 (Go.bits .and .u64 a1 4503599627370495) 9218868437227405312) 1) 9223372036854775808) t212 _ A34.out).mono ?_); rintro e w' ⟨rfl, ⟨nd, rfl⟩⟩))
                        go_ret
                        exact ⟨by first | rfl | (simp; done) | (simp [*]; done), by repeat (first | exact Drawn0.refl _ | apply Drawn0.step)⟩
                    · rw [if_neg c33] at H
                      have c33b0 : (t211 == 0) = false := beq_eq_false_iff_ne.mpr c33
                      have c33b1 : (t211 != 0) = true := bne_iff_ne.mpr c33
                      obtain rfl := Option.some.inj H
                      go_wp2_with (first | ((with_reducible refine gate_callee (f := 12) rfl ?_); refine goesL_ (some 71) rfl rfl Try.func12 (by kernel_rfl) rfl #[.int .u64 (Go.bits .or .u64 (Go.bits .or .u64 (Go.bits .and .u64 a1 4503599627370495) 9218868437227405312) 1)] rfl (by (try simp only [List.map_toArray, List.map_cons, List.map_nil]); first | done | rfl | (simp only [List.length_drop, List.length_take]; rfl)) ?_; (with_reducible refine (flo_Canon.calls (Go.bits .or .u64 (Go.bits .or .u64 (Go.bits .and .u64 a1 4503599627370495) 9218868437227405312) 1) t208 _ A26.out).mono ?_); rintro e w' ⟨rfl, ⟨nd, rfl⟩⟩; refine ⟨_, rfl, ?_⟩) | (go_at_call 12; (with_reducible refine (flo_Canon.calls (Go.bits .or .u64 (Go.bits .or .u64 (Go.bits .or .u64 (Go.bits .and .u64 a1 4503599627370495) 9218868437227405312) 1) 9223372036854775808) t209 _ A28.out).mono ?_); rintro e w' ⟨rfl, ⟨nd, rfl⟩⟩) | (go_at_call 15; (with_reducible refine (flo_Sum.calls a0 (Go.bits .or .u64 (Go.bits .or .u64 (Go.bits .and .u64 a1 4503599627370495) 9218868437227405312) 1) t210 _ A30.out).mono ?_); rintro e w' ⟨rfl, ⟨nd, rfl⟩⟩) | (go_at_call 25; (with_reducible refine (flo_Cmp.calls 0 9223372036854775808 t211 _ A32.out).mono ?_); rintro e w' ⟨rfl, ⟨nd, rfl⟩⟩))
                      go_ret
                      exact ⟨by first | rfl | (simp; done) | (simp [*]; done), by repeat (first | exact Drawn0.refl _ | apply Drawn0.step)⟩
                  · rw [if_neg c31] at H
                    have c31b0 : (t210 == 9221120237041090560) = false := beq_eq_false_iff_ne.mpr c31
                    have c31b1 : (t210 != 9221120237041090560) = true := bne_iff_ne.mpr c31
                    obtain rfl := Option.some.inj H
                    go_wp2_with (first | ((with_reducible refine gate_callee (f := 12) rfl ?_); refine goesL_ (some 71) rfl rfl Try.func12 (by kernel_rfl) rfl #[.int .u64 (Go.bits .or .u64 (Go.bits .or .u64 (Go.bits .and .u64 a1 4503599627370495) 9218868437227405312) 1)] rfl (by (try simp only [List.map_toArray, List.map_cons, List.map_nil]); first | done | rfl | (simp only [List.length_drop, List.length_take]; rfl)) ?_; (with_reducible refine (flo_Canon.calls (Go.bits .or .u64 (Go.bits .or .u64 (Go.bits .and .u64 a1 4503599627370495) 9218868437227405312) 1) t208 _ A26.out).mono ?_); rintro e w' ⟨rfl, ⟨nd, rfl⟩⟩; refine ⟨_, rfl, ?_⟩) | (go_at_call 12; (with_reducible refine (flo_Canon.calls (Go.bits .or .u64 (Go.bits .or .u64 (Go.bits .or .u64 (Go.bits .and .u64 a1 4503599627370495) 9218868437227405312) 1) 9223372036854775808) t209 _ A28.out).mono ?_); rintro e w' ⟨rfl, ⟨nd, rfl⟩⟩) | (go_at_call 15; (with_reducible refine (flo_Sum.calls a0 (Go.bits .or .u64 (Go.bits .or .u64 (Go.bits .and .u64 a1 4503599627370495) 9218868437227405312) 1) t210 _ A30.out).mono ?_); rintro e w' ⟨rfl, ⟨nd, rfl⟩⟩))
                    go_ret
                    exact ⟨by first | rfl | (simp; done) | (simp [*]; done), by repeat (first | exact Drawn0.refl _ | apply Drawn0.step)⟩
                · rw [if_neg c29] at H
                  have c29b0 : (t209 == 9221120237041090560) = false := beq_eq_false_iff_ne.mpr c29
                  have c29b1 : (t209 != 9221120237041090560) = true := bne_iff_ne.mpr c29
                  obtain rfl := Option.some.inj H
                  go_wp2_with (first | ((with_reducible refine gate_callee (f := 12) rfl ?_); refine goesL_ (some 71) rfl rfl Try.func12 (by kernel_rfl) rfl #[.int .u64 (Go.bits .or .u64 (Go.bits .or .u64 (Go.bits .and .u64 a1 4503599627370495) 9218868437227405312) 1)] rfl (by (try simp only [List.map_toArray, List.map_cons, List.map_nil]); first | done | rfl | (simp only [List.length_drop, List.length_take]; rfl)) ?_; (with_reducible refine (flo_Canon.calls (Go.bits .or .u64 (Go.bits .or .u64 (Go.bits .and .u64 a1 4503599627370495) 9218868437227405312) 1) t208 _ A26.out).mono ?_); rintro e w' ⟨rfl, ⟨nd, rfl⟩⟩; refine ⟨_, rfl, ?_⟩) | (go_at_call 12; (with_reducible refine (flo_Canon.calls (Go.bits .or .u64 (Go.bits .or .u64 (Go.bits .or .u64 (Go.bits .and .u64 a1 4503599627370495) 9218868437227405312) 1) 9223372036854775808) t209 _ A28.out).mono ?_); rintro e w' ⟨rfl, ⟨nd, rfl⟩⟩))
                  go_ret
                  exact ⟨by first | rfl | (simp; done) | (simp [*]; done), by repeat (first | exact Drawn0.refl _ | apply Drawn0.step)⟩
              · rw [if_neg c27] at H
                have c27b0 : (t208 == 9221120237041090560) = false := beq_eq_false_iff_ne.mpr c27
                have c27b1 : (t208 != 9221120237041090560) = true := bne_iff_ne.mpr c27
                obtain rfl := Option.some.inj H
                go_wp2_with (first | ((with_reducible refine gate_callee (f := 12) rfl ?_); refine goesL_ (some 71) rfl rfl Try.func12 (by kernel_rfl) rfl #[.int .u64 (Go.bits .or .u64 (Go.bits .or .u64 (Go.bits .and .u64 a1 4503599627370495) 9218868437227405312) 1)] rfl (by (try simp only [List.map_toArray, List.map_cons, List.map_nil]); first | done | rfl | (simp only [List.length_drop, List.length_take]; rfl)) ?_; (with_reducible refine (flo_Canon.calls (Go.bits .or .u64 (Go.bits .or .u64 (Go.bits .and .u64 a1 4503599627370495) 9218868437227405312) 1) t208 _ A26.out).mono ?_); rintro e w' ⟨rfl, ⟨nd, rfl⟩⟩; refine ⟨_, rfl, ?_⟩))
                go_ret
                exact ⟨by first | rfl | (simp; done) | (simp [*]; done), by repeat (first | exact Drawn0.refl _ | apply Drawn0.step)⟩

/-- THE ONE PURE STATEMENT of falseworklaw1_FloEdges: yours. -/
def falseworklaw1_FloEdges.Pure : Prop := ∀ (a0 : Int) (a1 : Int), (Lit.int .u64 a0).wf = true → (Lit.int .u64 a1).wf = true → ∃ k, falseworklaw1_FloEdges.f k a0 a1 = some true
theorem falseworklaw1_FloEdges.walk (P : falseworklaw1_FloEdges.Pure) (a0 : Int) (a1 : Int) (w : World) (w0 : (Lit.int .u64 a0).wf = true) (w1 : (Lit.int .u64 a1).wf = true) :
    Calls Try.prog 11 #[.int .u64 a0, .int .u64 a1] w fun e w' => e = .returned (.bool true) ∧ Below w.heap.size w w' := by
  obtain ⟨k, h⟩ := P a0 a1 w0 w1
  refine (falseworklaw1_FloEdges.calls k a0 a1 true w h).mono ?_
  rintro e w' ⟨rfl, hd⟩
  exact ⟨rfl, hd.below⟩

end Go.Proofs.Ytijdengicjjebaa.PA
