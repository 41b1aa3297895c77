/- Contracts of the Go functions of this seat: what each call returns is what a Lean function of its arguments says; each theorem bears its own conditions. Written by a program of this session (wip/tools/mkprint.py). -/
import Derived.Test.YtijdengicjjebaaPAx0
import Derived.Test.YtijdengicjjebaaPAx1
import Derived.Test.YtijdengicjjebaaPAx8
namespace Go.Proofs.Ytijdengicjjebaa.PA
open Go.RowKit Go.Proofs.YtijdengicjjebaaW.PrintWords Go.Proofs.YtijdengicjjebaaW.PrintLast Go.Proofs.YtijdengicjjebaaW.PrintMore
attribute [local go_sem] max2_int min2_int max_two min_two max_three min_three max_four min_four   -- for this text's walks alone
set_option linter.unusedVariables false
set_option linter.unusedSimpArgs false

attribute [local go_sem ↓ high] unary_xor_u64 ux_if_u64
attribute [local go_sem] str_gtr str_leq str_geq
/-! ### falseworklaw1_FloLeads: function 9 -/
def falseworklaw1_FloLeads.j0 : Nat → Int → Int → Int → Bool → Option (Bool)
  | 0, _, _, _, _ => none
  | k + 1, x0, x1, x7, x40 => if x40 = true then (some false) else ((flo_Cmp.f x1 x0).bind fun t176 => (if t176 = (wrap64 (-x7)) then ((flo_Canon.f x0).bind fun t177 => ((flo_Canon.f x1).bind fun t178 => (if ((x7 == 0) == (t177 == t178)) = true then ((falseworklaw1_awake.f).bind fun t179 => (some t179)) else (some false)))) else (some false)))
def falseworklaw1_FloLeads.f (k : Nat) (a0 : Int) (a1 : Int) (a2 : Int) : Option (Bool) := (flo_Cmp.f a0 a1).bind fun t173 => ((flo_Cmp.f a1 a2).bind fun t174 => ((flo_Cmp.f a0 a2).bind fun t175 => (if t173 ≤ 0 then (if t174 ≤ 0 then (if t175 > 0 then (falseworklaw1_FloLeads.j0 k a0 a1 t173 true) else (if t173 ≥ 0 then (if t174 ≥ 0 then (falseworklaw1_FloLeads.j0 k a0 a1 t173 (decide (t175 < 0))) else (falseworklaw1_FloLeads.j0 k a0 a1 t173 false)) else (falseworklaw1_FloLeads.j0 k a0 a1 t173 false))) else (if t173 ≥ 0 then (if t174 ≥ 0 then (falseworklaw1_FloLeads.j0 k a0 a1 t173 (decide (t175 < 0))) else (falseworklaw1_FloLeads.j0 k a0 a1 t173 false)) else (falseworklaw1_FloLeads.j0 k a0 a1 t173 false))) else (if t173 ≥ 0 then (if t174 ≥ 0 then (falseworklaw1_FloLeads.j0 k a0 a1 t173 (decide (t175 < 0))) else (falseworklaw1_FloLeads.j0 k a0 a1 t173 false)) else (falseworklaw1_FloLeads.j0 k a0 a1 t173 false)))))
theorem falseworklaw1_FloLeads.mono_l : ∀ k, (∀ y0 y1 y2 y3, LeO (falseworklaw1_FloLeads.j0 k y0 y1 y2 y3) (falseworklaw1_FloLeads.j0 (k + 1) y0 y1 y2 y3))
  | 0 => fun _ _ _ _ r h => by simp [falseworklaw1_FloLeads.j0] at h
  | k + 1 => by
    have ih0 := falseworklaw1_FloLeads.mono_l k
    · intro y0 y1 y2 y3
      unfold falseworklaw1_FloLeads.j0
      repeat' first
      | (with_reducible exact ih0 _ _ _ _)
      | (with_reducible exact LeO.refl _)
      | (with_reducible exact LeO.none _)
      | (with_reducible refine LeO.ite ?_ ?_)
      | (with_reducible refine LeO.bind ?_ (fun _ => ?_))
      | exact ih0 _ _ _ _
      | exact LeO.none _
      | refine LeO.ite ?_ ?_
      | refine LeO.bind ?_ (fun _ => ?_)
theorem falseworklaw1_FloLeads.mono : ∀ a0 a1 a2 k, LeO (falseworklaw1_FloLeads.f k a0 a1 a2) (falseworklaw1_FloLeads.f (k + 1) a0 a1 a2) := by
  intro a0 a1 a2 k
  have ih0 := falseworklaw1_FloLeads.mono_l k
  unfold falseworklaw1_FloLeads.f
  repeat' first
      | (with_reducible exact ih0 _ _ _ _)
      | (with_reducible exact LeO.refl _)
      | (with_reducible exact LeO.none _)
      | (with_reducible refine LeO.ite ?_ ?_)
      | (with_reducible refine LeO.bind ?_ (fun _ => ?_))
      | exact ih0 _ _ _ _
      | exact LeO.none _
      | refine LeO.ite ?_ ?_
      | refine LeO.bind ?_ (fun _ => ?_)
set_option maxHeartbeats 8000000 in
set_option maxRecDepth 100000 in
theorem falseworklaw1_FloLeads.calls (k : Nat) (a0 : Int) (a1 : Int) (a2 : Int) (r : Bool) (w : World) (h : falseworklaw1_FloLeads.f k a0 a1 a2 = some r) :
    Calls Try.prog 9 #[.int .u64 a0, .int .u64 a1, .int .u64 a2] w fun e w' => e = .returned (.bool r) ∧ Drawn0 w w' := by
  have H : ((flo_Cmp.f a0 a1).bind fun t173 => ((flo_Cmp.f a1 a2).bind fun t174 => ((flo_Cmp.f a0 a2).bind fun t175 => (if t173 ≤ 0 then (if t174 ≤ 0 then (if t175 > 0 then (falseworklaw1_FloLeads.j0 k a0 a1 t173 true) else (if t173 ≥ 0 then (if t174 ≥ 0 then (falseworklaw1_FloLeads.j0 k a0 a1 t173 (decide (t175 < 0))) else (falseworklaw1_FloLeads.j0 k a0 a1 t173 false)) else (falseworklaw1_FloLeads.j0 k a0 a1 t173 false))) else (if t173 ≥ 0 then (if t174 ≥ 0 then (falseworklaw1_FloLeads.j0 k a0 a1 t173 (decide (t175 < 0))) else (falseworklaw1_FloLeads.j0 k a0 a1 t173 false)) else (falseworklaw1_FloLeads.j0 k a0 a1 t173 false))) else (if t173 ≥ 0 then (if t174 ≥ 0 then (falseworklaw1_FloLeads.j0 k a0 a1 t173 (decide (t175 < 0))) else (falseworklaw1_FloLeads.j0 k a0 a1 t173 false)) else (falseworklaw1_FloLeads.j0 k a0 a1 t173 false)))))) = some r := h
  clear h
  replace H := Option.bind_eq_some_iff.mp H
  obtain ⟨t173, A40, H⟩ := H
  replace H : ((flo_Cmp.f a1 a2).bind fun t174 => ((flo_Cmp.f a0 a2).bind fun t175 => (if t173 ≤ 0 then (if t174 ≤ 0 then (if t175 > 0 then (falseworklaw1_FloLeads.j0 k a0 a1 t173 true) else (if t173 ≥ 0 then (if t174 ≥ 0 then (falseworklaw1_FloLeads.j0 k a0 a1 t173 (decide (t175 < 0))) else (falseworklaw1_FloLeads.j0 k a0 a1 t173 false)) else (falseworklaw1_FloLeads.j0 k a0 a1 t173 false))) else (if t173 ≥ 0 then (if t174 ≥ 0 then (falseworklaw1_FloLeads.j0 k a0 a1 t173 (decide (t175 < 0))) else (falseworklaw1_FloLeads.j0 k a0 a1 t173 false)) else (falseworklaw1_FloLeads.j0 k a0 a1 t173 false))) else (if t173 ≥ 0 then (if t174 ≥ 0 then (falseworklaw1_FloLeads.j0 k a0 a1 t173 (decide (t175 < 0))) else (falseworklaw1_FloLeads.j0 k a0 a1 t173 false)) else (falseworklaw1_FloLeads.j0 k a0 a1 t173 false))))) = some r := H
  have A4 := Aside0.mk A40
  clear A40
  replace H := Option.bind_eq_some_iff.mp H
  obtain ⟨t174, A50, H⟩ := H
  replace H : ((flo_Cmp.f a0 a2).bind fun t175 => (if t173 ≤ 0 then (if t174 ≤ 0 then (if t175 > 0 then (falseworklaw1_FloLeads.j0 k a0 a1 t173 true) else (if t173 ≥ 0 then (if t174 ≥ 0 then (falseworklaw1_FloLeads.j0 k a0 a1 t173 (decide (t175 < 0))) else (falseworklaw1_FloLeads.j0 k a0 a1 t173 false)) else (falseworklaw1_FloLeads.j0 k a0 a1 t173 false))) else (if t173 ≥ 0 then (if t174 ≥ 0 then (falseworklaw1_FloLeads.j0 k a0 a1 t173 (decide (t175 < 0))) else (falseworklaw1_FloLeads.j0 k a0 a1 t173 false)) else (falseworklaw1_FloLeads.j0 k a0 a1 t173 false))) else (if t173 ≥ 0 then (if t174 ≥ 0 then (falseworklaw1_FloLeads.j0 k a0 a1 t173 (decide (t175 < 0))) else (falseworklaw1_FloLeads.j0 k a0 a1 t173 false)) else (falseworklaw1_FloLeads.j0 k a0 a1 t173 false)))) = some r := H
  have A5 := Aside0.mk A50
  clear A50
  replace H := Option.bind_eq_some_iff.mp H
  obtain ⟨t175, A60, H⟩ := H
  replace H : (if t173 ≤ 0 then (if t174 ≤ 0 then (if t175 > 0 then (falseworklaw1_FloLeads.j0 k a0 a1 t173 true) else (if t173 ≥ 0 then (if t174 ≥ 0 then (falseworklaw1_FloLeads.j0 k a0 a1 t173 (decide (t175 < 0))) else (falseworklaw1_FloLeads.j0 k a0 a1 t173 false)) else (falseworklaw1_FloLeads.j0 k a0 a1 t173 false))) else (if t173 ≥ 0 then (if t174 ≥ 0 then (falseworklaw1_FloLeads.j0 k a0 a1 t173 (decide (t175 < 0))) else (falseworklaw1_FloLeads.j0 k a0 a1 t173 false)) else (falseworklaw1_FloLeads.j0 k a0 a1 t173 false))) else (if t173 ≥ 0 then (if t174 ≥ 0 then (falseworklaw1_FloLeads.j0 k a0 a1 t173 (decide (t175 < 0))) else (falseworklaw1_FloLeads.j0 k a0 a1 t173 false)) else (falseworklaw1_FloLeads.j0 k a0 a1 t173 false))) = some r := H
  have A6 := Aside0.mk A60
  clear A60
  have HC7 := Aside0.mk H
  clear H
  go_enter Try.func9, Try.ntmps9
  go_upto_region 2 with (first | ((with_reducible refine gate_callee (f := 25) rfl ?_); refine goesL_ (some 12) rfl rfl Try.func25 (by kernel_rfl) rfl #[.int .u64 a0, .int .u64 a1] rfl (by (try simp only [List.map_toArray, List.map_cons, List.map_nil]); first | done | rfl | (simp only [List.length_drop, List.length_take]; rfl)) ?_; (with_reducible refine (flo_Cmp.calls a0 a1 t173 _ A4.out).mono ?_); rintro e w' ⟨rfl, ⟨nd, rfl⟩⟩; refine ⟨_, rfl, ?_⟩) | ((with_reducible refine gate_callee (f := 25) rfl ?_); refine goesL_ (some 15) rfl rfl Try.func25 (by kernel_rfl) rfl #[.int .u64 a1, .int .u64 a2] rfl (by (try simp only [List.map_toArray, List.map_cons, List.map_nil]); first | done | rfl | (simp only [List.length_drop, List.length_take]; rfl)) ?_; (with_reducible refine (flo_Cmp.calls a1 a2 t174 _ A5.out).mono ?_); rintro e w' ⟨rfl, ⟨nd, rfl⟩⟩; refine ⟨_, rfl, ?_⟩) | ((with_reducible refine gate_callee (f := 25) rfl ?_); refine goesL_ (some 18) rfl rfl Try.func25 (by kernel_rfl) rfl #[.int .u64 a0, .int .u64 a2] rfl (by (try simp only [List.map_toArray, List.map_cons, List.map_nil]); first | done | rfl | (simp only [List.length_drop, List.length_take]; rfl)) ?_; (with_reducible refine (flo_Cmp.calls a0 a2 t175 _ A6.out).mono ?_); rintro e w' ⟨rfl, ⟨nd, rfl⟩⟩; refine ⟨_, rfl, ?_⟩))
  (try simp only [Act.put, List.setIfInBounds_toArray, List.set_cons_zero, List.set_cons_succ])
  go_cut [40] (fun v40 wc => ∃ (kq : Nat) (x40_6 : Bool), v40 = .bool x40_6 ∧ Aside0 (falseworklaw1_FloLeads.j0 kq a0 a1 t173 x40_6 = some r) ∧ Aside0 (kq ≤ k) ∧ Drawn0 w wc)
  case first =>
    have H := HC7.out
    clear HC7
    by_cases c8 : t173 ≤ 0
    · rw [if_pos c8] at H
      have c8b0 : decide (t173 ≤ 0) = true := decide_eq_true c8
      clear c8
      (first | rw [c8b0] | (simp only [i64_w, i32_w]; rw [c8b0]) | skip)
      by_cases c9 : t174 ≤ 0
      · rw [if_pos c9] at H
        have c9b0 : decide (t174 ≤ 0) = true := decide_eq_true c9
        clear c9
        by_cases c10 : t175 > 0
        · rw [if_pos c10] at H
          have c10b0 : decide (0 < t175) = true := decide_eq_true c10
          clear c10
          have H' := Aside0.mk H
          clear H
          go_wp2
          go_meet
          case rel => exact ⟨_, (true), (by first | rfl | (simp; done) | (simp [*]; done)), H', ⟨by first | omega | exact Nat.le_refl _⟩, by repeat (first | exact Drawn0.refl _ | apply Drawn0.step)⟩
        · rw [if_neg c10] at H
          have c10b0 : decide (0 < t175) = false := decide_eq_false c10
          clear c10
          by_cases c11 : t173 ≥ 0
          · rw [if_pos c11] at H
            have c11b0 : decide (0 ≤ t173) = true := decide_eq_true c11
            clear c11
            by_cases c12 : t174 ≥ 0
            · rw [if_pos c12] at H
              have c12b0 : decide (0 ≤ t174) = true := decide_eq_true c12
              clear c12
              have H' := Aside0.mk H
              clear H
              go_wp2
              go_meet
              case rel => exact ⟨_, (decide (t175 < 0)), (by first | rfl | (simp; done) | (simp [*]; done)), H', ⟨by first | omega | exact Nat.le_refl _⟩, by repeat (first | exact Drawn0.refl _ | apply Drawn0.step)⟩
            · rw [if_neg c12] at H
              have c12b0 : decide (0 ≤ t174) = false := decide_eq_false c12
              clear c12
              have H' := Aside0.mk H
              clear H
              go_wp2
              go_meet
              case rel => exact ⟨_, (false), (by first | rfl | (simp; done) | (simp [*]; done)), H', ⟨by first | omega | exact Nat.le_refl _⟩, by repeat (first | exact Drawn0.refl _ | apply Drawn0.step)⟩
          · rw [if_neg c11] at H
            have c11b0 : decide (0 ≤ t173) = false := decide_eq_false c11
            clear c11
            have H' := Aside0.mk H
            clear H
            go_wp2
            go_meet
            case rel => exact ⟨_, (false), (by first | rfl | (simp; done) | (simp [*]; done)), H', ⟨by first | omega | exact Nat.le_refl _⟩, by repeat (first | exact Drawn0.refl _ | apply Drawn0.step)⟩
      · rw [if_neg c9] at H
        have c9b0 : decide (t174 ≤ 0) = false := decide_eq_false c9
        clear c9
        by_cases c13 : t173 ≥ 0
        · rw [if_pos c13] at H
          have c13b0 : decide (0 ≤ t173) = true := decide_eq_true c13
          clear c13
          by_cases c14 : t174 ≥ 0
          · rw [if_pos c14] at H
            have c14b0 : decide (0 ≤ t174) = true := decide_eq_true c14
            clear c14
            have H' := Aside0.mk H
            clear H
            go_wp2
            go_meet
            case rel => exact ⟨_, (decide (t175 < 0)), (by first | rfl | (simp; done) | (simp [*]; done)), H', ⟨by first | omega | exact Nat.le_refl _⟩, by repeat (first | exact Drawn0.refl _ | apply Drawn0.step)⟩
          · rw [if_neg c14] at H
            have c14b0 : decide (0 ≤ t174) = false := decide_eq_false c14
            clear c14
            have H' := Aside0.mk H
            clear H
            go_wp2
            go_meet
            case rel => exact ⟨_, (false), (by first | rfl | (simp; done) | (simp [*]; done)), H', ⟨by first | omega | exact Nat.le_refl _⟩, by repeat (first | exact Drawn0.refl _ | apply Drawn0.step)⟩
        · rw [if_neg c13] at H
          have c13b0 : decide (0 ≤ t173) = false := decide_eq_false c13
          clear c13
          have H' := Aside0.mk H
          clear H
          go_wp2
          go_meet
          case rel => exact ⟨_, (false), (by first | rfl | (simp; done) | (simp [*]; done)), H', ⟨by first | omega | exact Nat.le_refl _⟩, by repeat (first | exact Drawn0.refl _ | apply Drawn0.step)⟩
    · rw [if_neg c8] at H
      have c8b0 : decide (t173 ≤ 0) = false := decide_eq_false c8
      clear c8
      (first | rw [c8b0] | (simp only [i64_w, i32_w]; rw [c8b0]) | skip)
      by_cases c15 : t173 ≥ 0
      · rw [if_pos c15] at H
        have c15b0 : decide (0 ≤ t173) = true := decide_eq_true c15
        clear c15
        by_cases c16 : t174 ≥ 0
        · rw [if_pos c16] at H
          have c16b0 : decide (0 ≤ t174) = true := decide_eq_true c16
          clear c16
          have H' := Aside0.mk H
          clear H
          go_wp2
          go_meet
          case rel => exact ⟨_, (decide (t175 < 0)), (by first | rfl | (simp; done) | (simp [*]; done)), H', ⟨by first | omega | exact Nat.le_refl _⟩, by repeat (first | exact Drawn0.refl _ | apply Drawn0.step)⟩
        · rw [if_neg c16] at H
          have c16b0 : decide (0 ≤ t174) = false := decide_eq_false c16
          clear c16
          have H' := Aside0.mk H
          clear H
          go_wp2
          go_meet
          case rel => exact ⟨_, (false), (by first | rfl | (simp; done) | (simp [*]; done)), H', ⟨by first | omega | exact Nat.le_refl _⟩, by repeat (first | exact Drawn0.refl _ | apply Drawn0.step)⟩
      · rw [if_neg c15] at H
        have c15b0 : decide (0 ≤ t173) = false := decide_eq_false c15
        clear c15
        have H' := Aside0.mk H
        clear H
        go_wp2
        go_meet
        case rel => exact ⟨_, (false), (by first | rfl | (simp; done) | (simp [*]; done)), H', ⟨by first | omega | exact Nat.le_refl _⟩, by repeat (first | exact Drawn0.refl _ | apply Drawn0.step)⟩
  case rest =>
    clear HC7
    try clear c1
    try clear c2
    try clear p2
    try clear c8
    try clear c8b0
    try clear c9
    try clear c9b0
    try clear c10
    try clear c10b0
    try clear c11
    try clear c11b0
    try clear c12
    try clear c12b0
    try clear c13
    try clear c13b0
    try clear c14
    try clear c14b0
    try clear c15
    try clear c15b0
    try clear c16
    try clear c16b0
    obtain ⟨kq, x40_6, rfl, HA, HJ6, ⟨mc6, rfl⟩⟩ := hcut
    cases kq with
    | zero => exact absurd HA.out (by simp [falseworklaw1_FloLeads.j0])
    | succ kj6 =>
      have H := HA.out
      clear HA
      simp only [falseworklaw1_FloLeads.j0] at H
      by_cases c17 : x40_6 = true
      · subst c17
        have H1 : (some false) = some r := by rw [if_pos rfl] at H; exact H
        clear H
        have H := H1
        clear H1
        obtain rfl := Option.some.inj H
        go_wp2
        go_ret
        exact ⟨by first | rfl | (simp; done) | (simp [*]; done), by repeat (first | exact Drawn0.refl _ | apply Drawn0.step)⟩
      · replace c17 := Bool.eq_false_iff.mpr c17
        subst c17
        have H1 : ((flo_Cmp.f a1 a0).bind fun t176 => (if t176 = (wrap64 (-t173)) then ((flo_Canon.f a0).bind fun t177 => ((flo_Canon.f a1).bind fun t178 => (if ((t173 == 0) == (t177 == t178)) = true then ((falseworklaw1_awake.f).bind fun t179 => (some t179)) else (some false)))) else (some false))) = some r := by rw [if_neg (show ¬ (false = true) by decide)] at H; exact H
        clear H
        have H := H1
        clear H1
        replace H := Option.bind_eq_some_iff.mp H
        obtain ⟨t176, A180, H⟩ := H
        replace H : (if t176 = (wrap64 (-t173)) then ((flo_Canon.f a0).bind fun t177 => ((flo_Canon.f a1).bind fun t178 => (if ((t173 == 0) == (t177 == t178)) = true then ((falseworklaw1_awake.f).bind fun t179 => (some t179)) else (some false)))) else (some false)) = some r := H
        have A18 := Aside0.mk A180
        clear A180
        by_cases c19 : t176 = (wrap64 (-t173))
        · rw [if_pos c19] at H
          have c19b0 : (t176 == (wrap64 (-t173))) = true := beq_iff_eq.mpr c19
          have c19b1 : (t176 != (wrap64 (-t173))) = false := bne_eq_false_iff_eq.mpr c19
          clear c19
          replace H := Option.bind_eq_some_iff.mp H
          obtain ⟨t177, A200, H⟩ := H
          replace H : ((flo_Canon.f a1).bind fun t178 => (if ((t173 == 0) == (t177 == t178)) = true then ((falseworklaw1_awake.f).bind fun t179 => (some t179)) else (some false))) = some r := H
          have A20 := Aside0.mk A200
          clear A200
          replace H := Option.bind_eq_some_iff.mp H
          obtain ⟨t178, A210, H⟩ := H
          replace H : (if ((t173 == 0) == (t177 == t178)) = true then ((falseworklaw1_awake.f).bind fun t179 => (some t179)) else (some false)) = some r := H
          have A21 := Aside0.mk A210
          clear A210
          by_cases c22 : ((t173 == 0) == (t177 == t178)) = true
          · rw [if_pos c22] at H
            have c22b0 : ((t173 == 0) == (t177 == t178)) = true := c22
            (try (have c22b1 : decide ((t173 == 0) = (t177 == t178)) = true := by simpa using c22))
            (try (have c22b2 : ((t173 == 0) == (t177 == t178)) = true := by simpa using c22))
            clear c22
            replace H := Option.bind_eq_some_iff.mp H
            obtain ⟨t179, A230, H⟩ := H
            replace H : (some t179) = some r := H
            have A23 := Aside0.mk A230
            clear A230
            obtain rfl := Option.some.inj H
            go_wp2_with (first | ((with_reducible refine gate_callee (f := 25) rfl ?_); refine goesL_ (some 43) rfl rfl Try.func25 (by kernel_rfl) rfl #[.int .u64 a1, .int .u64 a0] rfl (by (try simp only [List.map_toArray, List.map_cons, List.map_nil]); first | done | rfl | (simp only [List.length_drop, List.length_take]; rfl)) ?_; (with_reducible refine (flo_Cmp.calls a1 a0 t176 _ A18.out).mono ?_); rintro e w' ⟨rfl, ⟨nd, rfl⟩⟩; refine ⟨_, rfl, ?_⟩) | (go_at_call 12; (with_reducible refine (flo_Canon.calls a0 t177 _ A20.out).mono ?_); rintro e w' ⟨rfl, ⟨nd, rfl⟩⟩) | (go_at_call 12; (with_reducible refine (flo_Canon.calls a1 t178 _ A21.out).mono ?_); rintro e w' ⟨rfl, ⟨nd, rfl⟩⟩) | (go_at_call 14; (with_reducible refine (falseworklaw1_awake.calls  t179 _ A23.out).mono ?_); rintro e w' ⟨rfl, ⟨nd, rfl⟩⟩))
            go_ret
            exact ⟨by first | rfl | (simp; done) | (simp [*]; done), by repeat (first | exact Drawn0.refl _ | apply Drawn0.step)⟩
          · rw [if_neg c22] at H
            have c22b0 : ((t173 == 0) == (t177 == t178)) = false := by simpa using c22
            (try (have c22b1 : decide ((t173 == 0) = (t177 == t178)) = false := by simpa using c22))
            (try (have c22b2 : ((t173 == 0) == (t177 == t178)) = false := by simpa using c22))
            (try (have c22b3 : ¬ ((t173 == 0) = (t177 == t178)) := by simpa using c22))
            clear c22
            obtain rfl := Option.some.inj H
            go_wp2_with (first | ((with_reducible refine gate_callee (f := 25) rfl ?_); refine goesL_ (some 43) rfl rfl Try.func25 (by kernel_rfl) rfl #[.int .u64 a1, .int .u64 a0] rfl (by (try simp only [List.map_toArray, List.map_cons, List.map_nil]); first | done | rfl | (simp only [List.length_drop, List.length_take]; rfl)) ?_; (with_reducible refine (flo_Cmp.calls a1 a0 t176 _ A18.out).mono ?_); rintro e w' ⟨rfl, ⟨nd, rfl⟩⟩; refine ⟨_, rfl, ?_⟩) | (go_at_call 12; (with_reducible refine (flo_Canon.calls a0 t177 _ A20.out).mono ?_); rintro e w' ⟨rfl, ⟨nd, rfl⟩⟩) | (go_at_call 12; (with_reducible refine (flo_Canon.calls a1 t178 _ A21.out).mono ?_); rintro e w' ⟨rfl, ⟨nd, rfl⟩⟩))
            go_ret
            exact ⟨by first | rfl | (simp; done) | (simp [*]; done), by repeat (first | exact Drawn0.refl _ | apply Drawn0.step)⟩
        · rw [if_neg c19] at H
          have c19b0 : (t176 == (wrap64 (-t173))) = false := beq_eq_false_iff_ne.mpr c19
          have c19b1 : (t176 != (wrap64 (-t173))) = true := bne_iff_ne.mpr c19
          obtain rfl := Option.some.inj H
          go_wp2_with (first | ((with_reducible refine gate_callee (f := 25) rfl ?_); refine goesL_ (some 43) rfl rfl Try.func25 (by kernel_rfl) rfl #[.int .u64 a1, .int .u64 a0] rfl (by (try simp only [List.map_toArray, List.map_cons, List.map_nil]); first | done | rfl | (simp only [List.length_drop, List.length_take]; rfl)) ?_; (with_reducible refine (flo_Cmp.calls a1 a0 t176 _ A18.out).mono ?_); rintro e w' ⟨rfl, ⟨nd, rfl⟩⟩; refine ⟨_, rfl, ?_⟩))
          go_ret
          exact ⟨by first | rfl | (simp; done) | (simp [*]; done), by repeat (first | exact Drawn0.refl _ | apply Drawn0.step)⟩

/-- THE ONE PURE STATEMENT of falseworklaw1_FloLeads: yours. -/
def falseworklaw1_FloLeads.Pure : Prop := ∀ (a0 : Int) (a1 : Int) (a2 : Int), (Lit.int .u64 a0).wf = true → (Lit.int .u64 a1).wf = true → (Lit.int .u64 a2).wf = true → ∃ k, falseworklaw1_FloLeads.f k a0 a1 a2 = some true
theorem falseworklaw1_FloLeads.walk (P : falseworklaw1_FloLeads.Pure) (a0 : Int) (a1 : Int) (a2 : Int) (w : World) (w0 : (Lit.int .u64 a0).wf = true) (w1 : (Lit.int .u64 a1).wf = true) (w2 : (Lit.int .u64 a2).wf = true) :
    Calls Try.prog 9 #[.int .u64 a0, .int .u64 a1, .int .u64 a2] w fun e w' => e = .returned (.bool true) ∧ Below w.heap.size w w' := by
  obtain ⟨k, h⟩ := P a0 a1 a2 w0 w1 w2
  refine (falseworklaw1_FloLeads.calls k a0 a1 a2 true w h).mono ?_
  rintro e w' ⟨rfl, hd⟩
  exact ⟨rfl, hd.below⟩

end Go.Proofs.Ytijdengicjjebaa.PA
