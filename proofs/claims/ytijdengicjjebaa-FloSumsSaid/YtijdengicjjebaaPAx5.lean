/- Contracts of the Go functions of this seat: what each call returns is what a Lean function of its arguments says; each theorem bears its own conditions. Written by a program of this session (wip/tools/mkprint.py). -/
import Derived.Test.YtijdengicjjebaaPAx0
import Derived.Test.YtijdengicjjebaaPAx1
namespace Go.Proofs.Ytijdengicjjebaa.PA
open Go.RowKit Go.Proofs.YtijdengicjjebaaW.PrintWords Go.Proofs.YtijdengicjjebaaW.PrintLast Go.Proofs.YtijdengicjjebaaW.PrintMore
attribute [local go_sem] max2_int min2_int max_two min_two max_three min_three max_four min_four   -- for this text's walks alone
set_option linter.unusedVariables false
set_option linter.unusedSimpArgs false

attribute [local go_sem ↓ high] unary_xor_u64 ux_if_u64
attribute [local go_sem] str_gtr str_leq str_geq
/-! ### falseworkref1_Int: function 18 -/
def falseworkref1_Int.f (a0 : Int) : Option (Int × Bool) := (falseworkref1_Canon.f a0).bind fun t136 => (if t136 = 0 then (some (0, true)) else (if (wrap64 (Go.bits .and .u64 (t136 / 4503599627370496) 2047)) < 1023 then (some (0, false)) else (if (wrap64 (Go.bits .and .u64 (t136 / 4503599627370496) 2047)) = 2047 then (some (0, false)) else (if (wrap64 ((wrap64 (Go.bits .and .u64 (t136 / 4503599627370496) 2047)) - 1023)) ≥ 63 then (if (wrap64 ((wrap64 (Go.bits .and .u64 (t136 / 4503599627370496) 2047)) - 1023)) = 63 then (if (Go.bits .and .u64 t136 9223372036854775808) = 0 then (some (0, false)) else (if (Go.bits .or .u64 (Go.bits .and .u64 t136 4503599627370495) 4503599627370496) = 4503599627370496 then (some ((-9223372036854775808), true)) else (some (0, false)))) else (some (0, false))) else (if (wrap64 ((wrap64 (Go.bits .and .u64 (t136 / 4503599627370496) 2047)) - 1023)) < 52 then (if 0 ≤ (IntKind.u64.wrap (wrap64 (52 - (wrap64 ((wrap64 (Go.bits .and .u64 (t136 / 4503599627370496) 2047)) - 1023))))) then (if (Go.bits .and .u64 (Go.bits .or .u64 (Go.bits .and .u64 t136 4503599627370495) 4503599627370496) (IntKind.u64.wrap ((shl .u64 1 (IntKind.u64.wrap (wrap64 (52 - (wrap64 ((wrap64 (Go.bits .and .u64 (t136 / 4503599627370496) 2047)) - 1023)))))) - 1))) = 0 then (if (Go.bits .and .u64 t136 9223372036854775808) = 0 then (some (wrap64 (shr .u64 (Go.bits .or .u64 (Go.bits .and .u64 t136 4503599627370495) 4503599627370496) (IntKind.u64.wrap (wrap64 (52 - (wrap64 ((wrap64 (Go.bits .and .u64 (t136 / 4503599627370496) 2047)) - 1023)))))), true)) else (some (wrap64 (-(wrap64 (shr .u64 (Go.bits .or .u64 (Go.bits .and .u64 t136 4503599627370495) 4503599627370496) (IntKind.u64.wrap (wrap64 (52 - (wrap64 ((wrap64 (Go.bits .and .u64 (t136 / 4503599627370496) 2047)) - 1023)))))))), true))) else (some (0, false))) else (none)) else (if 0 ≤ (IntKind.u64.wrap (wrap64 ((wrap64 ((wrap64 (Go.bits .and .u64 (t136 / 4503599627370496) 2047)) - 1023)) - 52))) then (if (Go.bits .and .u64 t136 9223372036854775808) = 0 then (some (wrap64 (shl .u64 (Go.bits .or .u64 (Go.bits .and .u64 t136 4503599627370495) 4503599627370496) (IntKind.u64.wrap (wrap64 ((wrap64 ((wrap64 (Go.bits .and .u64 (t136 / 4503599627370496) 2047)) - 1023)) - 52)))), true)) else (some (wrap64 (-(wrap64 (shl .u64 (Go.bits .or .u64 (Go.bits .and .u64 t136 4503599627370495) 4503599627370496) (IntKind.u64.wrap (wrap64 ((wrap64 ((wrap64 (Go.bits .and .u64 (t136 / 4503599627370496) 2047)) - 1023)) - 52)))))), true))) else (none)))))))
set_option maxHeartbeats 8000000 in
set_option maxRecDepth 100000 in
theorem falseworkref1_Int.calls (a0 : Int) (r1 : Int) (r2 : Bool) (w : World) (h : falseworkref1_Int.f a0 = some (r1, r2)) :
    Calls Try.prog 18 #[.int .u64 a0] w fun e w' => e = .returned (.tuple #[.int .i64 r1, .bool r2]) ∧ Drawn0 w w' := by
  have H : ((falseworkref1_Canon.f a0).bind fun t136 => (if t136 = 0 then (some (0, true)) else (if (wrap64 (Go.bits .and .u64 (t136 / 4503599627370496) 2047)) < 1023 then (some (0, false)) else (if (wrap64 (Go.bits .and .u64 (t136 / 4503599627370496) 2047)) = 2047 then (some (0, false)) else (if (wrap64 ((wrap64 (Go.bits .and .u64 (t136 / 4503599627370496) 2047)) - 1023)) ≥ 63 then (if (wrap64 ((wrap64 (Go.bits .and .u64 (t136 / 4503599627370496) 2047)) - 1023)) = 63 then (if (Go.bits .and .u64 t136 9223372036854775808) = 0 then (some (0, false)) else (if (Go.bits .or .u64 (Go.bits .and .u64 t136 4503599627370495) 4503599627370496) = 4503599627370496 then (some ((-9223372036854775808), true)) else (some (0, false)))) else (some (0, false))) else (if (wrap64 ((wrap64 (Go.bits .and .u64 (t136 / 4503599627370496) 2047)) - 1023)) < 52 then (if 0 ≤ (IntKind.u64.wrap (wrap64 (52 - (wrap64 ((wrap64 (Go.bits .and .u64 (t136 / 4503599627370496) 2047)) - 1023))))) then (if (Go.bits .and .u64 (Go.bits .or .u64 (Go.bits .and .u64 t136 4503599627370495) 4503599627370496) (IntKind.u64.wrap ((shl .u64 1 (IntKind.u64.wrap (wrap64 (52 - (wrap64 ((wrap64 (Go.bits .and .u64 (t136 / 4503599627370496) 2047)) - 1023)))))) - 1))) = 0 then (if (Go.bits .and .u64 t136 9223372036854775808) = 0 then (some (wrap64 (shr .u64 (Go.bits .or .u64 (Go.bits .and .u64 t136 4503599627370495) 4503599627370496) (IntKind.u64.wrap (wrap64 (52 - (wrap64 ((wrap64 (Go.bits .and .u64 (t136 / 4503599627370496) 2047)) - 1023)))))), true)) else (some (wrap64 (-(wrap64 (shr .u64 (Go.bits .or .u64 (Go.bits .and .u64 t136 4503599627370495) 4503599627370496) (IntKind.u64.wrap (wrap64 (52 - (wrap64 ((wrap64 (Go.bits .and .u64 (t136 / 4503599627370496) 2047)) - 1023)))))))), true))) else (some (0, false))) else (none)) else (if 0 ≤ (IntKind.u64.wrap (wrap64 ((wrap64 ((wrap64 (Go.bits .and .u64 (t136 / 4503599627370496) 2047)) - 1023)) - 52))) then (if (Go.bits .and .u64 t136 9223372036854775808) = 0 then (some (wrap64 (shl .u64 (Go.bits .or .u64 (Go.bits .and .u64 t136 4503599627370495) 4503599627370496) (IntKind.u64.wrap (wrap64 ((wrap64 ((wrap64 (Go.bits .and .u64 (t136 / 4503599627370496) 2047)) - 1023)) - 52)))), true)) else (some (wrap64 (-(wrap64 (shl .u64 (Go.bits .or .u64 (Go.bits .and .u64 t136 4503599627370495) 4503599627370496) (IntKind.u64.wrap (wrap64 ((wrap64 ((wrap64 (Go.bits .and .u64 (t136 / 4503599627370496) 2047)) - 1023)) - 52)))))), true))) else (none)))))))) = some (r1, r2) := h
  clear h
  replace H := Option.bind_eq_some_iff.mp H
  obtain ⟨t136, A20, H⟩ := H
  replace H : (if t136 = 0 then (some (0, true)) else (if (wrap64 (Go.bits .and .u64 (t136 / 4503599627370496) 2047)) < 1023 then (some (0, false)) else (if (wrap64 (Go.bits .and .u64 (t136 / 4503599627370496) 2047)) = 2047 then (some (0, false)) else (if (wrap64 ((wrap64 (Go.bits .and .u64 (t136 / 4503599627370496) 2047)) - 1023)) ≥ 63 then (if (wrap64 ((wrap64 (Go.bits .and .u64 (t136 / 4503599627370496) 2047)) - 1023)) = 63 then (if (Go.bits .and .u64 t136 9223372036854775808) = 0 then (some (0, false)) else (if (Go.bits .or .u64 (Go.bits .and .u64 t136 4503599627370495) 4503599627370496) = 4503599627370496 then (some ((-9223372036854775808), true)) else (some (0, false)))) else (some (0, false))) else (if (wrap64 ((wrap64 (Go.bits .and .u64 (t136 / 4503599627370496) 2047)) - 1023)) < 52 then (if 0 ≤ (IntKind.u64.wrap (wrap64 (52 - (wrap64 ((wrap64 (Go.bits .and .u64 (t136 / 4503599627370496) 2047)) - 1023))))) then (if (Go.bits .and .u64 (Go.bits .or .u64 (Go.bits .and .u64 t136 4503599627370495) 4503599627370496) (IntKind.u64.wrap ((shl .u64 1 (IntKind.u64.wrap (wrap64 (52 - (wrap64 ((wrap64 (Go.bits .and .u64 (t136 / 4503599627370496) 2047)) - 1023)))))) - 1))) = 0 then (if (Go.bits .and .u64 t136 9223372036854775808) = 0 then (some (wrap64 (shr .u64 (Go.bits .or .u64 (Go.bits .and .u64 t136 4503599627370495) 4503599627370496) (IntKind.u64.wrap (wrap64 (52 - (wrap64 ((wrap64 (Go.bits .and .u64 (t136 / 4503599627370496) 2047)) - 1023)))))), true)) else (some (wrap64 (-(wrap64 (shr .u64 (Go.bits .or .u64 (Go.bits .and .u64 t136 4503599627370495) 4503599627370496) (IntKind.u64.wrap (wrap64 (52 - (wrap64 ((wrap64 (Go.bits .and .u64 (t136 / 4503599627370496) 2047)) - 1023)))))))), true))) else (some (0, false))) else (none)) else (if 0 ≤ (IntKind.u64.wrap (wrap64 ((wrap64 ((wrap64 (Go.bits .and .u64 (t136 / 4503599627370496) 2047)) - 1023)) - 52))) then (if (Go.bits .and .u64 t136 9223372036854775808) = 0 then (some (wrap64 (shl .u64 (Go.bits .or .u64 (Go.bits .and .u64 t136 4503599627370495) 4503599627370496) (IntKind.u64.wrap (wrap64 ((wrap64 ((wrap64 (Go.bits .and .u64 (t136 / 4503599627370496) 2047)) - 1023)) - 52)))), true)) else (some (wrap64 (-(wrap64 (shl .u64 (Go.bits .or .u64 (Go.bits .and .u64 t136 4503599627370495) 4503599627370496) (IntKind.u64.wrap (wrap64 ((wrap64 ((wrap64 (Go.bits .and .u64 (t136 / 4503599627370496) 2047)) - 1023)) - 52)))))), true))) else (none))))))) = some (r1, r2) := H
  have A2 := Aside0.mk A20
  clear A20
  by_cases c3 : t136 = 0
  · rw [if_pos c3] at H
    have c3b0 : (t136 == 0) = true := beq_iff_eq.mpr c3
    have c3b1 : (t136 != 0) = false := bne_eq_false_iff_eq.mpr c3
    clear c3
    simp only [Option.some.injEq, Prod.mk.injEq] at H
    obtain ⟨rfl, rfl⟩ := H
    go_enter Try.func18, Try.ntmps18
    go_wp2_with (first | ((with_reducible refine gate_callee (f := 13) rfl ?_); refine goesL_ (some 9) rfl rfl Try.func13 (by kernel_rfl) rfl #[.int .u64 a0] rfl (by (try simp only [List.map_toArray, List.map_cons, List.map_nil]); first | done | rfl | (simp only [List.length_drop, List.length_take]; rfl)) ?_; (with_reducible refine (falseworkref1_Canon.calls a0 t136 _ A2.out).mono ?_); rintro e w' ⟨rfl, ⟨nd, rfl⟩⟩; refine ⟨_, rfl, ?_⟩))
    go_ret2
    exact ⟨by first | rfl | (simp; done) | (simp [*]; done), by repeat (first | exact Drawn0.refl _ | apply Drawn0.step)⟩
  · rw [if_neg c3] at H
    have c3b0 : (t136 == 0) = false := beq_eq_false_iff_ne.mpr c3
    have c3b1 : (t136 != 0) = true := bne_iff_ne.mpr c3
    by_cases c4 : (wrap64 (Go.bits .and .u64 (t136 / 4503599627370496) 2047)) < 1023
    · rw [if_pos c4] at H
      have c4b0 : decide ((wrap64 (Go.bits .and .u64 (t136 / 4503599627370496) 2047)) < 1023) = true := decide_eq_true c4
      clear c4
      simp only [Option.some.injEq, Prod.mk.injEq] at H
      obtain ⟨rfl, rfl⟩ := H
      go_enter Try.func18, Try.ntmps18
      go_wp2_with (first | ((with_reducible refine gate_callee (f := 13) rfl ?_); refine goesL_ (some 9) rfl rfl Try.func13 (by kernel_rfl) rfl #[.int .u64 a0] rfl (by (try simp only [List.map_toArray, List.map_cons, List.map_nil]); first | done | rfl | (simp only [List.length_drop, List.length_take]; rfl)) ?_; (with_reducible refine (falseworkref1_Canon.calls a0 t136 _ A2.out).mono ?_); rintro e w' ⟨rfl, ⟨nd, rfl⟩⟩; refine ⟨_, rfl, ?_⟩))
      go_ret2
      exact ⟨by first | rfl | (simp; done) | (simp [*]; done), by repeat (first | exact Drawn0.refl _ | apply Drawn0.step)⟩
    · rw [if_neg c4] at H
      have c4b0 : decide ((wrap64 (Go.bits .and .u64 (t136 / 4503599627370496) 2047)) < 1023) = false := decide_eq_false c4
      clear c4
      by_cases c5 : (wrap64 (Go.bits .and .u64 (t136 / 4503599627370496) 2047)) = 2047
      · rw [if_pos c5] at H
        have c5b0 : ((wrap64 (Go.bits .and .u64 (t136 / 4503599627370496) 2047)) == 2047) = true := beq_iff_eq.mpr c5
        have c5b1 : ((wrap64 (Go.bits .and .u64 (t136 / 4503599627370496) 2047)) != 2047) = false := bne_eq_false_iff_eq.mpr c5
        clear c5
        simp only [Option.some.injEq, Prod.mk.injEq] at H
        obtain ⟨rfl, rfl⟩ := H
        go_enter Try.func18, Try.ntmps18
        go_wp2_with (first | ((with_reducible refine gate_callee (f := 13) rfl ?_); refine goesL_ (some 9) rfl rfl Try.func13 (by kernel_rfl) rfl #[.int .u64 a0] rfl (by (try simp only [List.map_toArray, List.map_cons, List.map_nil]); first | done | rfl | (simp only [List.length_drop, List.length_take]; rfl)) ?_; (with_reducible refine (falseworkref1_Canon.calls a0 t136 _ A2.out).mono ?_); rintro e w' ⟨rfl, ⟨nd, rfl⟩⟩; refine ⟨_, rfl, ?_⟩))
        go_ret2
        exact ⟨by first | rfl | (simp; done) | (simp [*]; done), by repeat (first | exact Drawn0.refl _ | apply Drawn0.step)⟩
      · rw [if_neg c5] at H
        have c5b0 : ((wrap64 (Go.bits .and .u64 (t136 / 4503599627370496) 2047)) == 2047) = false := beq_eq_false_iff_ne.mpr c5
        have c5b1 : ((wrap64 (Go.bits .and .u64 (t136 / 4503599627370496) 2047)) != 2047) = true := bne_iff_ne.mpr c5
        by_cases c6 : (wrap64 ((wrap64 (Go.bits .and .u64 (t136 / 4503599627370496) 2047)) - 1023)) ≥ 63
        · rw [if_pos c6] at H
          have c6b0 : decide (63 ≤ (wrap64 ((wrap64 (Go.bits .and .u64 (t136 / 4503599627370496) 2047)) - 1023))) = true := decide_eq_true c6
          clear c6
          by_cases c7 : (wrap64 ((wrap64 (Go.bits .and .u64 (t136 / 4503599627370496) 2047)) - 1023)) = 63
          · rw [if_pos c7] at H
            have c7b0 : ((wrap64 ((wrap64 (Go.bits .and .u64 (t136 / 4503599627370496) 2047)) - 1023)) == 63) = true := beq_iff_eq.mpr c7
            have c7b1 : ((wrap64 ((wrap64 (Go.bits .and .u64 (t136 / 4503599627370496) 2047)) - 1023)) != 63) = false := bne_eq_false_iff_eq.mpr c7
            clear c7
            by_cases c8 : (Go.bits .and .u64 t136 9223372036854775808) = 0
            · rw [if_pos c8] at H
              have c8b0 : ((Go.bits .and .u64 t136 9223372036854775808) == 0) = true := beq_iff_eq.mpr c8
              have c8b1 : ((Go.bits .and .u64 t136 9223372036854775808) != 0) = false := bne_eq_false_iff_eq.mpr c8
              clear c8
              simp only [Option.some.injEq, Prod.mk.injEq] at H
              obtain ⟨rfl, rfl⟩ := H
              go_enter Try.func18, Try.ntmps18
              go_wp2_with (first | ((with_reducible refine gate_callee (f := 13) rfl ?_); refine goesL_ (some 9) rfl rfl Try.func13 (by kernel_rfl) rfl #[.int .u64 a0] rfl (by (try simp only [List.map_toArray, List.map_cons, List.map_nil]); first | done | rfl | (simp only [List.length_drop, List.length_take]; rfl)) ?_; (with_reducible refine (falseworkref1_Canon.calls a0 t136 _ A2.out).mono ?_); rintro e w' ⟨rfl, ⟨nd, rfl⟩⟩; refine ⟨_, rfl, ?_⟩))
              go_ret2
              exact ⟨by first | rfl | (simp; done) | (simp [*]; done), by repeat (first | exact Drawn0.refl _ | apply Drawn0.step)⟩
            · rw [if_neg c8] at H
              have c8b0 : ((Go.bits .and .u64 t136 9223372036854775808) == 0) = false := beq_eq_false_iff_ne.mpr c8
              have c8b1 : ((Go.bits .and .u64 t136 9223372036854775808) != 0) = true := bne_iff_ne.mpr c8
              by_cases c9 : (Go.bits .or .u64 (Go.bits .and .u64 t136 4503599627370495) 4503599627370496) = 4503599627370496
              · rw [if_pos c9] at H
                have c9b0 : ((Go.bits .or .u64 (Go.bits .and .u64 t136 4503599627370495) 4503599627370496) == 4503599627370496) = true := beq_iff_eq.mpr c9
                have c9b1 : ((Go.bits .or .u64 (Go.bits .and .u64 t136 4503599627370495) 4503599627370496) != 4503599627370496) = false := bne_eq_false_iff_eq.mpr c9
                clear c9
                simp only [Option.some.injEq, Prod.mk.injEq] at H
                obtain ⟨rfl, rfl⟩ := H
                go_enter Try.func18, Try.ntmps18
                go_wp2_with (first | ((with_reducible refine gate_callee (f := 13) rfl ?_); refine goesL_ (some 9) rfl rfl Try.func13 (by kernel_rfl) rfl #[.int .u64 a0] rfl (by (try simp only [List.map_toArray, List.map_cons, List.map_nil]); first | done | rfl | (simp only [List.length_drop, List.length_take]; rfl)) ?_; (with_reducible refine (falseworkref1_Canon.calls a0 t136 _ A2.out).mono ?_); rintro e w' ⟨rfl, ⟨nd, rfl⟩⟩; refine ⟨_, rfl, ?_⟩))
                go_ret2
                exact ⟨by first | rfl | (simp; done) | (simp [*]; done), by repeat (first | exact Drawn0.refl _ | apply Drawn0.step)⟩
              · rw [if_neg c9] at H
                have c9b0 : ((Go.bits .or .u64 (Go.bits .and .u64 t136 4503599627370495) 4503599627370496) == 4503599627370496) = false := beq_eq_false_iff_ne.mpr c9
                have c9b1 : ((Go.bits .or .u64 (Go.bits .and .u64 t136 4503599627370495) 4503599627370496) != 4503599627370496) = true := bne_iff_ne.mpr c9
                simp only [Option.some.injEq, Prod.mk.injEq] at H
                obtain ⟨rfl, rfl⟩ := H
                go_enter Try.func18, Try.ntmps18
                go_wp2_with (first | ((with_reducible refine gate_callee (f := 13) rfl ?_); refine goesL_ (some 9) rfl rfl Try.func13 (by kernel_rfl) rfl #[.int .u64 a0] rfl (by (try simp only [List.map_toArray, List.map_cons, List.map_nil]); first | done | rfl | (simp only [List.length_drop, List.length_take]; rfl)) ?_; (with_reducible refine (falseworkref1_Canon.calls a0 t136 _ A2.out).mono ?_); rintro e w' ⟨rfl, ⟨nd, rfl⟩⟩; refine ⟨_, rfl, ?_⟩))
                go_ret2
                exact ⟨by first | rfl | (simp; done) | (simp [*]; done), by repeat (first | exact Drawn0.refl _ | apply Drawn0.step)⟩
          · rw [if_neg c7] at H
            have c7b0 : ((wrap64 ((wrap64 (Go.bits .and .u64 (t136 / 4503599627370496) 2047)) - 1023)) == 63) = false := beq_eq_false_iff_ne.mpr c7
            have c7b1 : ((wrap64 ((wrap64 (Go.bits .and .u64 (t136 / 4503599627370496) 2047)) - 1023)) != 63) = true := bne_iff_ne.mpr c7
            simp only [Option.some.injEq, Prod.mk.injEq] at H
            obtain ⟨rfl, rfl⟩ := H
            go_enter Try.func18, Try.ntmps18
            go_wp2_with (first | ((with_reducible refine gate_callee (f := 13) rfl ?_); refine goesL_ (some 9) rfl rfl Try.func13 (by kernel_rfl) rfl #[.int .u64 a0] rfl (by (try simp only [List.map_toArray, List.map_cons, List.map_nil]); first | done | rfl | (simp only [List.length_drop, List.length_take]; rfl)) ?_; (with_reducible refine (falseworkref1_Canon.calls a0 t136 _ A2.out).mono ?_); rintro e w' ⟨rfl, ⟨nd, rfl⟩⟩; refine ⟨_, rfl, ?_⟩))
            go_ret2
            exact ⟨by first | rfl | (simp; done) | (simp [*]; done), by repeat (first | exact Drawn0.refl _ | apply Drawn0.step)⟩
        · rw [if_neg c6] at H
          have c6b0 : decide (63 ≤ (wrap64 ((wrap64 (Go.bits .and .u64 (t136 / 4503599627370496) 2047)) - 1023))) = false := decide_eq_false c6
          clear c6
          by_cases c10 : (wrap64 ((wrap64 (Go.bits .and .u64 (t136 / 4503599627370496) 2047)) - 1023)) < 52
          · rw [if_pos c10] at H
            have c10b0 : decide ((wrap64 ((wrap64 (Go.bits .and .u64 (t136 / 4503599627370496) 2047)) - 1023)) < 52) = true := decide_eq_true c10
            clear c10
            obtain ⟨ji11, hji11⟩ : ∃ j_ : Int, (IntKind.u64.wrap (wrap64 (52 - (wrap64 ((wrap64 (Go.bits .and .u64 (t136 / 4503599627370496) 2047)) - 1023))))) = j_ := ⟨_, rfl⟩
            replace H : (if 0 ≤ (ji11) then (if (Go.bits .and .u64 (Go.bits .or .u64 (Go.bits .and .u64 t136 4503599627370495) 4503599627370496) (IntKind.u64.wrap ((shl .u64 1 (ji11)) - 1))) = 0 then (if (Go.bits .and .u64 t136 9223372036854775808) = 0 then (some (wrap64 (shr .u64 (Go.bits .or .u64 (Go.bits .and .u64 t136 4503599627370495) 4503599627370496) (ji11)), true)) else (some (wrap64 (-(wrap64 (shr .u64 (Go.bits .or .u64 (Go.bits .and .u64 t136 4503599627370495) 4503599627370496) (ji11)))), true))) else (some (0, false))) else (none)) = some (r1, r2) := by first | (rw [hji11] at H; exact H) | (simp only [hji11] at H ⊢; exact H)
            (try rw [hji11] at A2)
            by_cases c12 : 0 ≤ (ji11)
            · rw [if_pos c12] at H
              have c12b0 := eq_true c12
              have c12b1 : decide (0 ≤ (ji11)) = true := decide_eq_true c12
              clear c12
              obtain ⟨ji13, hji13⟩ : ∃ j_ : Int, (shl .u64 1 (ji11)) = j_ := ⟨_, rfl⟩
              replace H : (if (Go.bits .and .u64 (Go.bits .or .u64 (Go.bits .and .u64 t136 4503599627370495) 4503599627370496) (IntKind.u64.wrap ((ji13) - 1))) = 0 then (if (Go.bits .and .u64 t136 9223372036854775808) = 0 then (some (wrap64 (shr .u64 (Go.bits .or .u64 (Go.bits .and .u64 t136 4503599627370495) 4503599627370496) (ji11)), true)) else (some (wrap64 (-(wrap64 (shr .u64 (Go.bits .or .u64 (Go.bits .and .u64 t136 4503599627370495) 4503599627370496) (ji11)))), true))) else (some (0, false))) = some (r1, r2) := by first | (rw [hji13] at H; exact H) | (simp only [hji13] at H ⊢; exact H)
              (try rw [hji13] at A2)
              have hji13_ : (IntKind.u64.wrap (1 * 2 ^ min (ji11).toNat 64)) = ji13 := hji13
              have hji13z : (ji11) ≤ 64 → (IntKind.u64.wrap (1 * 2 ^ (ji11).toNat)) = ji13 := shl_small hji13
              have hji13u : (IntKind.u64.wrap (2 ^ min (ji11).toNat 64)) = ji13 := by have h_ := hji13_; rw [Int.one_mul] at h_; exact h_
              have hji13v : (ji11) ≤ 64 → (IntKind.u64.wrap (2 ^ (ji11).toNat)) = ji13 := fun hle_ => by have h_ := hji13z hle_; rw [Int.one_mul] at h_; exact h_
              by_cases c14 : (Go.bits .and .u64 (Go.bits .or .u64 (Go.bits .and .u64 t136 4503599627370495) 4503599627370496) (IntKind.u64.wrap ((ji13) - 1))) = 0
              · rw [if_pos c14] at H
                have c14b0 : ((Go.bits .and .u64 (Go.bits .or .u64 (Go.bits .and .u64 t136 4503599627370495) 4503599627370496) (IntKind.u64.wrap ((ji13) - 1))) == 0) = true := beq_iff_eq.mpr c14
                have c14b1 : ((Go.bits .and .u64 (Go.bits .or .u64 (Go.bits .and .u64 t136 4503599627370495) 4503599627370496) (IntKind.u64.wrap ((ji13) - 1))) != 0) = false := bne_eq_false_iff_eq.mpr c14
                clear c14
                have c15b0 := eq_true (of_decide_eq_true (by first | (with_reducible assumption) | assumption) : 0 ≤ (ji11))
                obtain ⟨ji16, hji16⟩ : ∃ j_ : Int, (shr .u64 (Go.bits .or .u64 (Go.bits .and .u64 t136 4503599627370495) 4503599627370496) (ji11)) = j_ := ⟨_, rfl⟩
                replace H : (if (Go.bits .and .u64 t136 9223372036854775808) = 0 then (some (wrap64 (ji16), true)) else (some (wrap64 (-(wrap64 (ji16))), true))) = some (r1, r2) := by first | (rw [hji16] at H; exact H) | (simp only [hji16] at H ⊢; exact H)
                (try rw [hji16] at A2)
                have hji16_ : ((Go.bits .or .u64 (Go.bits .and .u64 t136 4503599627370495) 4503599627370496) / 2 ^ min (ji11).toNat 64) = ji16 := hji16
                have hji16z : (ji11) ≤ 64 → ((Go.bits .or .u64 (Go.bits .and .u64 t136 4503599627370495) 4503599627370496) / 2 ^ (ji11).toNat) = ji16 := shr_small hji16
                by_cases c17 : (Go.bits .and .u64 t136 9223372036854775808) = 0
                · rw [if_pos c17] at H
                  have c17b0 : ((Go.bits .and .u64 t136 9223372036854775808) == 0) = true := beq_iff_eq.mpr c17
                  have c17b1 : ((Go.bits .and .u64 t136 9223372036854775808) != 0) = false := bne_eq_false_iff_eq.mpr c17
                  clear c17
                  simp only [Option.some.injEq, Prod.mk.injEq] at H
                  obtain ⟨rfl, rfl⟩ := H
                  go_enter Try.func18, Try.ntmps18
                  go_wp2_with (first | ((with_reducible refine gate_callee (f := 13) rfl ?_); refine goesL_ (some 9) rfl rfl Try.func13 (by kernel_rfl) rfl #[.int .u64 a0] rfl (by (try simp only [List.map_toArray, List.map_cons, List.map_nil]); first | done | rfl | (simp only [List.length_drop, List.length_take]; rfl)) ?_; (with_reducible refine (falseworkref1_Canon.calls a0 t136 _ A2.out).mono ?_); rintro e w' ⟨rfl, ⟨nd, rfl⟩⟩; refine ⟨_, rfl, ?_⟩))
                  go_ret2
                  exact ⟨by first | rfl | (simp; done) | (simp only [← hji11, ← hji13, ← hji16] <;> (first | rfl | simp)) | (simp [*]; done), by repeat (first | exact Drawn0.refl _ | apply Drawn0.step)⟩
                · rw [if_neg c17] at H
                  have c17b0 : ((Go.bits .and .u64 t136 9223372036854775808) == 0) = false := beq_eq_false_iff_ne.mpr c17
                  have c17b1 : ((Go.bits .and .u64 t136 9223372036854775808) != 0) = true := bne_iff_ne.mpr c17
                  simp only [Option.some.injEq, Prod.mk.injEq] at H
                  obtain ⟨rfl, rfl⟩ := H
                  go_enter Try.func18, Try.ntmps18
                  go_wp2_with (first | ((with_reducible refine gate_callee (f := 13) rfl ?_); refine goesL_ (some 9) rfl rfl Try.func13 (by kernel_rfl) rfl #[.int .u64 a0] rfl (by (try simp only [List.map_toArray, List.map_cons, List.map_nil]); first | done | rfl | (simp only [List.length_drop, List.length_take]; rfl)) ?_; (with_reducible refine (falseworkref1_Canon.calls a0 t136 _ A2.out).mono ?_); rintro e w' ⟨rfl, ⟨nd, rfl⟩⟩; refine ⟨_, rfl, ?_⟩))
                  go_ret2
                  exact ⟨by first | rfl | (simp; done) | (simp only [← hji11, ← hji13, ← hji16] <;> (first | rfl | simp)) | (simp [*]; done), by repeat (first | exact Drawn0.refl _ | apply Drawn0.step)⟩
              · rw [if_neg c14] at H
                have c14b0 : ((Go.bits .and .u64 (Go.bits .or .u64 (Go.bits .and .u64 t136 4503599627370495) 4503599627370496) (IntKind.u64.wrap ((ji13) - 1))) == 0) = false := beq_eq_false_iff_ne.mpr c14
                have c14b1 : ((Go.bits .and .u64 (Go.bits .or .u64 (Go.bits .and .u64 t136 4503599627370495) 4503599627370496) (IntKind.u64.wrap ((ji13) - 1))) != 0) = true := bne_iff_ne.mpr c14
                simp only [Option.some.injEq, Prod.mk.injEq] at H
                obtain ⟨rfl, rfl⟩ := H
                go_enter Try.func18, Try.ntmps18
                go_wp2_with (first | ((with_reducible refine gate_callee (f := 13) rfl ?_); refine goesL_ (some 9) rfl rfl Try.func13 (by kernel_rfl) rfl #[.int .u64 a0] rfl (by (try simp only [List.map_toArray, List.map_cons, List.map_nil]); first | done | rfl | (simp only [List.length_drop, List.length_take]; rfl)) ?_; (with_reducible refine (falseworkref1_Canon.calls a0 t136 _ A2.out).mono ?_); rintro e w' ⟨rfl, ⟨nd, rfl⟩⟩; refine ⟨_, rfl, ?_⟩))
                go_ret2
                exact ⟨by first | rfl | (simp; done) | (simp only [← hji11, ← hji13] <;> (first | rfl | simp)) | (simp [*]; done), by repeat (first | exact Drawn0.refl _ | apply Drawn0.step)⟩
            · rw [if_neg c12] at H
              exact absurd H (by simp)
          · rw [if_neg c10] at H
            have c10b0 : decide ((wrap64 ((wrap64 (Go.bits .and .u64 (t136 / 4503599627370496) 2047)) - 1023)) < 52) = false := decide_eq_false c10
            clear c10
            obtain ⟨ji18, hji18⟩ : ∃ j_ : Int, (IntKind.u64.wrap (wrap64 ((wrap64 ((wrap64 (Go.bits .and .u64 (t136 / 4503599627370496) 2047)) - 1023)) - 52))) = j_ := ⟨_, rfl⟩
            replace H : (if 0 ≤ (ji18) then (if (Go.bits .and .u64 t136 9223372036854775808) = 0 then (some (wrap64 (shl .u64 (Go.bits .or .u64 (Go.bits .and .u64 t136 4503599627370495) 4503599627370496) (ji18)), true)) else (some (wrap64 (-(wrap64 (shl .u64 (Go.bits .or .u64 (Go.bits .and .u64 t136 4503599627370495) 4503599627370496) (ji18)))), true))) else (none)) = some (r1, r2) := by first | (rw [hji18] at H; exact H) | (simp only [hji18] at H ⊢; exact H)
            (try rw [hji18] at A2)
            by_cases c19 : 0 ≤ (ji18)
            · rw [if_pos c19] at H
              have c19b0 := eq_true c19
              have c19b1 : decide (0 ≤ (ji18)) = true := decide_eq_true c19
              clear c19
              obtain ⟨ji20, hji20⟩ : ∃ j_ : Int, (shl .u64 (Go.bits .or .u64 (Go.bits .and .u64 t136 4503599627370495) 4503599627370496) (ji18)) = j_ := ⟨_, rfl⟩
              replace H : (if (Go.bits .and .u64 t136 9223372036854775808) = 0 then (some (wrap64 (ji20), true)) else (some (wrap64 (-(wrap64 (ji20))), true))) = some (r1, r2) := by first | (rw [hji20] at H; exact H) | (simp only [hji20] at H ⊢; exact H)
              (try rw [hji20] at A2)
              have hji20_ : (IntKind.u64.wrap ((Go.bits .or .u64 (Go.bits .and .u64 t136 4503599627370495) 4503599627370496) * 2 ^ min (ji18).toNat 64)) = ji20 := hji20
              have hji20z : (ji18) ≤ 64 → (IntKind.u64.wrap ((Go.bits .or .u64 (Go.bits .and .u64 t136 4503599627370495) 4503599627370496) * 2 ^ (ji18).toNat)) = ji20 := shl_small hji20
              by_cases c21 : (Go.bits .and .u64 t136 9223372036854775808) = 0
              · rw [if_pos c21] at H
                have c21b0 : ((Go.bits .and .u64 t136 9223372036854775808) == 0) = true := beq_iff_eq.mpr c21
                have c21b1 : ((Go.bits .and .u64 t136 9223372036854775808) != 0) = false := bne_eq_false_iff_eq.mpr c21
                clear c21
                simp only [Option.some.injEq, Prod.mk.injEq] at H
                obtain ⟨rfl, rfl⟩ := H
                go_enter Try.func18, Try.ntmps18
                go_wp2_with (first | ((with_reducible refine gate_callee (f := 13) rfl ?_); refine goesL_ (some 9) rfl rfl Try.func13 (by kernel_rfl) rfl #[.int .u64 a0] rfl (by (try simp only [List.map_toArray, List.map_cons, List.map_nil]); first | done | rfl | (simp only [List.length_drop, List.length_take]; rfl)) ?_; (with_reducible refine (falseworkref1_Canon.calls a0 t136 _ A2.out).mono ?_); rintro e w' ⟨rfl, ⟨nd, rfl⟩⟩; refine ⟨_, rfl, ?_⟩))
                go_ret2
                exact ⟨by first | rfl | (simp; done) | (simp only [← hji18, ← hji20] <;> (first | rfl | simp)) | (simp [*]; done), by repeat (first | exact Drawn0.refl _ | apply Drawn0.step)⟩
              · rw [if_neg c21] at H
                have c21b0 : ((Go.bits .and .u64 t136 9223372036854775808) == 0) = false := beq_eq_false_iff_ne.mpr c21
                have c21b1 : ((Go.bits .and .u64 t136 9223372036854775808) != 0) = true := bne_iff_ne.mpr c21
                simp only [Option.some.injEq, Prod.mk.injEq] at H
                obtain ⟨rfl, rfl⟩ := H
                go_enter Try.func18, Try.ntmps18
                go_wp2_with (first | ((with_reducible refine gate_callee (f := 13) rfl ?_); refine goesL_ (some 9) rfl rfl Try.func13 (by kernel_rfl) rfl #[.int .u64 a0] rfl (by (try simp only [List.map_toArray, List.map_cons, List.map_nil]); first | done | rfl | (simp only [List.length_drop, List.length_take]; rfl)) ?_; (with_reducible refine (falseworkref1_Canon.calls a0 t136 _ A2.out).mono ?_); rintro e w' ⟨rfl, ⟨nd, rfl⟩⟩; refine ⟨_, rfl, ?_⟩))
                go_ret2
                exact ⟨by first | rfl | (simp; done) | (simp only [← hji18, ← hji20] <;> (first | rfl | simp)) | (simp [*]; done), by repeat (first | exact Drawn0.refl _ | apply Drawn0.step)⟩
            · rw [if_neg c19] at H
              exact absurd H (by simp)

end Go.Proofs.Ytijdengicjjebaa.PA
