/- Contracts of the Go functions of this seat: what each call returns is what a Lean function of its arguments says; each theorem bears its own conditions. Written by a program of this session (wip/tools/mkprint.py). -/
import Derived.Test.YtijdengicjjebaaPAx0
import Derived.Test.YtijdengicjjebaaPAx1
import Derived.Test.YtijdengicjjebaaPAx2
import Derived.Test.YtijdengicjjebaaPAx3
namespace Go.Proofs.Ytijdengicjjebaa.PA
open Go.RowKit Go.Proofs.YtijdengicjjebaaW.PrintWords Go.Proofs.YtijdengicjjebaaW.PrintLast Go.Proofs.YtijdengicjjebaaW.PrintMore
attribute [local go_sem] max2_int min2_int max_two min_two max_three min_three max_four min_four   -- for this text's walks alone
set_option linter.unusedVariables false
set_option linter.unusedSimpArgs false

attribute [local go_sem ↓ high] unary_xor_u64 ux_if_u64
attribute [local go_sem] str_gtr str_leq str_geq
/-! ### falseworkref1_Sum: function 16 -/
def falseworkref1_Sum.f (k : Nat) (a0 : Int) (a1 : Int) : Option (Int) := (falseworkref1_Canon.f a0).bind fun t111 => ((falseworkref1_Canon.f a1).bind fun t112 => (if t111 = 9221120237041090560 then (some 9221120237041090560) else (if t112 = 9221120237041090560 then (some 9221120237041090560) else (if (Go.bits .andNot .u64 t111 9223372036854775808) ≥ 9218868437227405312 then (if (Go.bits .andNot .u64 t112 9223372036854775808) ≥ 9218868437227405312 then (if t111 = t112 then (some t111) else (some 9221120237041090560)) else (some t111)) else (if (Go.bits .andNot .u64 t112 9223372036854775808) ≥ 9218868437227405312 then (some t112) else (if (Go.bits .andNot .u64 t111 9223372036854775808) < (Go.bits .andNot .u64 t112 9223372036854775808) then ((falseworkref1_parts.f t112).bind fun bt113 => ((falseworkref1_parts.f t111).bind fun bt115 => ((falseworkref1_shift.f k bt115.2 (wrap64 (bt113.1 - bt115.1))).bind fun t117 => (if (Go.bits .and .u64 (Go.bits .xor .u64 t112 t111) 9223372036854775808) = 0 then (if (IntKind.u64.wrap (bt113.2 + t117)) = 0 then (some 0) else ((falseworkref1_pack.f k (Go.bits .and .u64 t112 9223372036854775808) bt113.1 (IntKind.u64.wrap (bt113.2 + t117))).bind fun t118 => ((falseworkref1_Canon.f t118).bind fun t119 => (some t119)))) else (if (IntKind.u64.wrap (bt113.2 - t117)) = 0 then (some 0) else ((falseworkref1_pack.f k (Go.bits .and .u64 t112 9223372036854775808) bt113.1 (IntKind.u64.wrap (bt113.2 - t117))).bind fun t120 => ((falseworkref1_Canon.f t120).bind fun t121 => (some t121)))))))) else ((falseworkref1_parts.f t111).bind fun bt122 => ((falseworkref1_parts.f t112).bind fun bt124 => ((falseworkref1_shift.f k bt124.2 (wrap64 (bt122.1 - bt124.1))).bind fun t126 => (if (Go.bits .and .u64 (Go.bits .xor .u64 t111 t112) 9223372036854775808) = 0 then (if (IntKind.u64.wrap (bt122.2 + t126)) = 0 then (some 0) else ((falseworkref1_pack.f k (Go.bits .and .u64 t111 9223372036854775808) bt122.1 (IntKind.u64.wrap (bt122.2 + t126))).bind fun t127 => ((falseworkref1_Canon.f t127).bind fun t128 => (some t128)))) else (if (IntKind.u64.wrap (bt122.2 - t126)) = 0 then (some 0) else ((falseworkref1_pack.f k (Go.bits .and .u64 t111 9223372036854775808) bt122.1 (IntKind.u64.wrap (bt122.2 - t126))).bind fun t129 => ((falseworkref1_Canon.f t129).bind fun t130 => (some t130))))))))))))))
theorem falseworkref1_Sum.mono : ∀ a0 a1 k, LeO (falseworkref1_Sum.f k a0 a1) (falseworkref1_Sum.f (k + 1) a0 a1) := by
  intro a0 a1 k
  unfold falseworkref1_Sum.f
  repeat' first
      | (with_reducible exact falseworkref1_pack.mono _ _ _ _)
      | (with_reducible exact falseworkref1_shift.mono _ _ _)
      | (with_reducible exact LeO.refl _)
      | (with_reducible exact LeO.none _)
      | (with_reducible refine LeO.ite ?_ ?_)
      | (with_reducible refine LeO.bind ?_ (fun _ => ?_))
      | exact falseworkref1_pack.mono _ _ _ _
      | exact falseworkref1_shift.mono _ _ _
      | exact LeO.none _
      | refine LeO.ite ?_ ?_
      | refine LeO.bind ?_ (fun _ => ?_)
set_option maxHeartbeats 8000000 in
set_option maxRecDepth 100000 in
theorem falseworkref1_Sum.calls (k : Nat) (a0 : Int) (a1 : Int) (r : Int) (w : World) (h : falseworkref1_Sum.f k a0 a1 = some r) :
    Calls Try.prog 16 #[.int .u64 a0, .int .u64 a1] w fun e w' => e = .returned (.int .u64 r) ∧ Drawn0 w w' := by
  have H : ((falseworkref1_Canon.f a0).bind fun t111 => ((falseworkref1_Canon.f a1).bind fun t112 => (if t111 = 9221120237041090560 then (some 9221120237041090560) else (if t112 = 9221120237041090560 then (some 9221120237041090560) else (if (Go.bits .andNot .u64 t111 9223372036854775808) ≥ 9218868437227405312 then (if (Go.bits .andNot .u64 t112 9223372036854775808) ≥ 9218868437227405312 then (if t111 = t112 then (some t111) else (some 9221120237041090560)) else (some t111)) else (if (Go.bits .andNot .u64 t112 9223372036854775808) ≥ 9218868437227405312 then (some t112) else (if (Go.bits .andNot .u64 t111 9223372036854775808) < (Go.bits .andNot .u64 t112 9223372036854775808) then ((falseworkref1_parts.f t112).bind fun bt113 => ((falseworkref1_parts.f t111).bind fun bt115 => ((falseworkref1_shift.f k bt115.2 (wrap64 (bt113.1 - bt115.1))).bind fun t117 => (if (Go.bits .and .u64 (Go.bits .xor .u64 t112 t111) 9223372036854775808) = 0 then (if (IntKind.u64.wrap (bt113.2 + t117)) = 0 then (some 0) else ((falseworkref1_pack.f k (Go.bits .and .u64 t112 9223372036854775808) bt113.1 (IntKind.u64.wrap (bt113.2 + t117))).bind fun t118 => ((falseworkref1_Canon.f t118).bind fun t119 => (some t119)))) else (if (IntKind.u64.wrap (bt113.2 - t117)) = 0 then (some 0) else ((falseworkref1_pack.f k (Go.bits .and .u64 t112 9223372036854775808) bt113.1 (IntKind.u64.wrap (bt113.2 - t117))).bind fun t120 => ((falseworkref1_Canon.f t120).bind fun t121 => (some t121)))))))) else ((falseworkref1_parts.f t111).bind fun bt122 => ((falseworkref1_parts.f t112).bind fun bt124 => ((falseworkref1_shift.f k bt124.2 (wrap64 (bt122.1 - bt124.1))).bind fun t126 => (if (Go.bits .and .u64 (Go.bits .xor .u64 t111 t112) 9223372036854775808) = 0 then (if (IntKind.u64.wrap (bt122.2 + t126)) = 0 then (some 0) else ((falseworkref1_pack.f k (Go.bits .and .u64 t111 9223372036854775808) bt122.1 (IntKind.u64.wrap (bt122.2 + t126))).bind fun t127 => ((falseworkref1_Canon.f t127).bind fun t128 => (some t128)))) else (if (IntKind.u64.wrap (bt122.2 - t126)) = 0 then (some 0) else ((falseworkref1_pack.f k (Go.bits .and .u64 t111 9223372036854775808) bt122.1 (IntKind.u64.wrap (bt122.2 - t126))).bind fun t129 => ((falseworkref1_Canon.f t129).bind fun t130 => (some t130))))))))))))))) = some r := h
  clear h
  replace H := Option.bind_eq_some_iff.mp H
  obtain ⟨t111, A30, H⟩ := H
  replace H : ((falseworkref1_Canon.f a1).bind fun t112 => (if t111 = 9221120237041090560 then (some 9221120237041090560) else (if t112 = 9221120237041090560 then (some 9221120237041090560) else (if (Go.bits .andNot .u64 t111 9223372036854775808) ≥ 9218868437227405312 then (if (Go.bits .andNot .u64 t112 9223372036854775808) ≥ 9218868437227405312 then (if t111 = t112 then (some t111) else (some 9221120237041090560)) else (some t111)) else (if (Go.bits .andNot .u64 t112 9223372036854775808) ≥ 9218868437227405312 then (some t112) else (if (Go.bits .andNot .u64 t111 9223372036854775808) < (Go.bits .andNot .u64 t112 9223372036854775808) then ((falseworkref1_parts.f t112).bind fun bt113 => ((falseworkref1_parts.f t111).bind fun bt115 => ((falseworkref1_shift.f k bt115.2 (wrap64 (bt113.1 - bt115.1))).bind fun t117 => (if (Go.bits .and .u64 (Go.bits .xor .u64 t112 t111) 9223372036854775808) = 0 then (if (IntKind.u64.wrap (bt113.2 + t117)) = 0 then (some 0) else ((falseworkref1_pack.f k (Go.bits .and .u64 t112 9223372036854775808) bt113.1 (IntKind.u64.wrap (bt113.2 + t117))).bind fun t118 => ((falseworkref1_Canon.f t118).bind fun t119 => (some t119)))) else (if (IntKind.u64.wrap (bt113.2 - t117)) = 0 then (some 0) else ((falseworkref1_pack.f k (Go.bits .and .u64 t112 9223372036854775808) bt113.1 (IntKind.u64.wrap (bt113.2 - t117))).bind fun t120 => ((falseworkref1_Canon.f t120).bind fun t121 => (some t121)))))))) else ((falseworkref1_parts.f t111).bind fun bt122 => ((falseworkref1_parts.f t112).bind fun bt124 => ((falseworkref1_shift.f k bt124.2 (wrap64 (bt122.1 - bt124.1))).bind fun t126 => (if (Go.bits .and .u64 (Go.bits .xor .u64 t111 t112) 9223372036854775808) = 0 then (if (IntKind.u64.wrap (bt122.2 + t126)) = 0 then (some 0) else ((falseworkref1_pack.f k (Go.bits .and .u64 t111 9223372036854775808) bt122.1 (IntKind.u64.wrap (bt122.2 + t126))).bind fun t127 => ((falseworkref1_Canon.f t127).bind fun t128 => (some t128)))) else (if (IntKind.u64.wrap (bt122.2 - t126)) = 0 then (some 0) else ((falseworkref1_pack.f k (Go.bits .and .u64 t111 9223372036854775808) bt122.1 (IntKind.u64.wrap (bt122.2 - t126))).bind fun t129 => ((falseworkref1_Canon.f t129).bind fun t130 => (some t130)))))))))))))) = some r := H
  have A3 := Aside0.mk A30
  clear A30
  replace H := Option.bind_eq_some_iff.mp H
  obtain ⟨t112, A40, H⟩ := H
  replace H : (if t111 = 9221120237041090560 then (some 9221120237041090560) else (if t112 = 9221120237041090560 then (some 9221120237041090560) else (if (Go.bits .andNot .u64 t111 9223372036854775808) ≥ 9218868437227405312 then (if (Go.bits .andNot .u64 t112 9223372036854775808) ≥ 9218868437227405312 then (if t111 = t112 then (some t111) else (some 9221120237041090560)) else (some t111)) else (if (Go.bits .andNot .u64 t112 9223372036854775808) ≥ 9218868437227405312 then (some t112) else (if (Go.bits .andNot .u64 t111 9223372036854775808) < (Go.bits .andNot .u64 t112 9223372036854775808) then ((falseworkref1_parts.f t112).bind fun bt113 => ((falseworkref1_parts.f t111).bind fun bt115 => ((falseworkref1_shift.f k bt115.2 (wrap64 (bt113.1 - bt115.1))).bind fun t117 => (if (Go.bits .and .u64 (Go.bits .xor .u64 t112 t111) 9223372036854775808) = 0 then (if (IntKind.u64.wrap (bt113.2 + t117)) = 0 then (some 0) else ((falseworkref1_pack.f k (Go.bits .and .u64 t112 9223372036854775808) bt113.1 (IntKind.u64.wrap (bt113.2 + t117))).bind fun t118 => ((falseworkref1_Canon.f t118).bind fun t119 => (some t119)))) else (if (IntKind.u64.wrap (bt113.2 - t117)) = 0 then (some 0) else ((falseworkref1_pack.f k (Go.bits .and .u64 t112 9223372036854775808) bt113.1 (IntKind.u64.wrap (bt113.2 - t117))).bind fun t120 => ((falseworkref1_Canon.f t120).bind fun t121 => (some t121)))))))) else ((falseworkref1_parts.f t111).bind fun bt122 => ((falseworkref1_parts.f t112).bind fun bt124 => ((falseworkref1_shift.f k bt124.2 (wrap64 (bt122.1 - bt124.1))).bind fun t126 => (if (Go.bits .and .u64 (Go.bits .xor .u64 t111 t112) 9223372036854775808) = 0 then (if (IntKind.u64.wrap (bt122.2 + t126)) = 0 then (some 0) else ((falseworkref1_pack.f k (Go.bits .and .u64 t111 9223372036854775808) bt122.1 (IntKind.u64.wrap (bt122.2 + t126))).bind fun t127 => ((falseworkref1_Canon.f t127).bind fun t128 => (some t128)))) else (if (IntKind.u64.wrap (bt122.2 - t126)) = 0 then (some 0) else ((falseworkref1_pack.f k (Go.bits .and .u64 t111 9223372036854775808) bt122.1 (IntKind.u64.wrap (bt122.2 - t126))).bind fun t129 => ((falseworkref1_Canon.f t129).bind fun t130 => (some t130))))))))))))) = some r := H
  have A4 := Aside0.mk A40
  clear A40
  by_cases c5 : t111 = 9221120237041090560
  · rw [if_pos c5] at H
    have c5b0 : (t111 == 9221120237041090560) = true := beq_iff_eq.mpr c5
    have c5b1 : (t111 != 9221120237041090560) = false := bne_eq_false_iff_eq.mpr c5
    clear c5
    obtain rfl := Option.some.inj H
    go_enter Try.func16, Try.ntmps16
    go_wp2_with (first | ((with_reducible refine gate_callee (f := 13) rfl ?_); refine goesL_ (some 13) rfl rfl Try.func13 (by kernel_rfl) rfl #[.int .u64 a0] rfl (by (try simp only [List.map_toArray, List.map_cons, List.map_nil]); first | done | rfl | (simp only [List.length_drop, List.length_take]; rfl)) ?_; (with_reducible refine (falseworkref1_Canon.calls a0 t111 _ A3.out).mono ?_); rintro e w' ⟨rfl, ⟨nd, rfl⟩⟩; refine ⟨_, rfl, ?_⟩) | ((with_reducible refine gate_callee (f := 13) rfl ?_); refine goesL_ (some 15) rfl rfl Try.func13 (by kernel_rfl) rfl #[.int .u64 a1] rfl (by (try simp only [List.map_toArray, List.map_cons, List.map_nil]); first | done | rfl | (simp only [List.length_drop, List.length_take]; rfl)) ?_; (with_reducible refine (falseworkref1_Canon.calls a1 t112 _ A4.out).mono ?_); rintro e w' ⟨rfl, ⟨nd, rfl⟩⟩; refine ⟨_, rfl, ?_⟩))
    go_ret
    exact ⟨by first | rfl | (simp; done) | (simp [*]; done), by repeat (first | exact Drawn0.refl _ | apply Drawn0.step)⟩
  · rw [if_neg c5] at H
    have c5b0 : (t111 == 9221120237041090560) = false := beq_eq_false_iff_ne.mpr c5
    have c5b1 : (t111 != 9221120237041090560) = true := bne_iff_ne.mpr c5
    by_cases c6 : t112 = 9221120237041090560
    · rw [if_pos c6] at H
      have c6b0 : (t112 == 9221120237041090560) = true := beq_iff_eq.mpr c6
      have c6b1 : (t112 != 9221120237041090560) = false := bne_eq_false_iff_eq.mpr c6
      clear c6
      obtain rfl := Option.some.inj H
      go_enter Try.func16, Try.ntmps16
      go_wp2_with (first | ((with_reducible refine gate_callee (f := 13) rfl ?_); refine goesL_ (some 13) rfl rfl Try.func13 (by kernel_rfl) rfl #[.int .u64 a0] rfl (by (try simp only [List.map_toArray, List.map_cons, List.map_nil]); first | done | rfl | (simp only [List.length_drop, List.length_take]; rfl)) ?_; (with_reducible refine (falseworkref1_Canon.calls a0 t111 _ A3.out).mono ?_); rintro e w' ⟨rfl, ⟨nd, rfl⟩⟩; refine ⟨_, rfl, ?_⟩) | ((with_reducible refine gate_callee (f := 13) rfl ?_); refine goesL_ (some 15) rfl rfl Try.func13 (by kernel_rfl) rfl #[.int .u64 a1] rfl (by (try simp only [List.map_toArray, List.map_cons, List.map_nil]); first | done | rfl | (simp only [List.length_drop, List.length_take]; rfl)) ?_; (with_reducible refine (falseworkref1_Canon.calls a1 t112 _ A4.out).mono ?_); rintro e w' ⟨rfl, ⟨nd, rfl⟩⟩; refine ⟨_, rfl, ?_⟩))
      go_ret
      exact ⟨by first | rfl | (simp; done) | (simp [*]; done), by repeat (first | exact Drawn0.refl _ | apply Drawn0.step)⟩
    · rw [if_neg c6] at H
      have c6b0 : (t112 == 9221120237041090560) = false := beq_eq_false_iff_ne.mpr c6
      have c6b1 : (t112 != 9221120237041090560) = true := bne_iff_ne.mpr c6
      by_cases c7 : (Go.bits .andNot .u64 t111 9223372036854775808) ≥ 9218868437227405312
      · rw [if_pos c7] at H
        have c7b0 : decide (9218868437227405312 ≤ (Go.bits .andNot .u64 t111 9223372036854775808)) = true := decide_eq_true c7
        clear c7
        by_cases c8 : (Go.bits .andNot .u64 t112 9223372036854775808) ≥ 9218868437227405312
        · rw [if_pos c8] at H
          have c8b0 : decide (9218868437227405312 ≤ (Go.bits .andNot .u64 t112 9223372036854775808)) = true := decide_eq_true c8
          clear c8
          by_cases c9 : t111 = t112
          · rw [if_pos c9] at H
            have c9b0 : (t111 == t112) = true := beq_iff_eq.mpr c9
            have c9b1 : (t111 != t112) = false := bne_eq_false_iff_eq.mpr c9
            clear c9
            obtain rfl := Option.some.inj H
            go_enter Try.func16, Try.ntmps16
            go_wp2_with (first | ((with_reducible refine gate_callee (f := 13) rfl ?_); refine goesL_ (some 13) rfl rfl Try.func13 (by kernel_rfl) rfl #[.int .u64 a0] rfl (by (try simp only [List.map_toArray, List.map_cons, List.map_nil]); first | done | rfl | (simp only [List.length_drop, List.length_take]; rfl)) ?_; (with_reducible refine (falseworkref1_Canon.calls a0 t111 _ A3.out).mono ?_); rintro e w' ⟨rfl, ⟨nd, rfl⟩⟩; refine ⟨_, rfl, ?_⟩) | ((with_reducible refine gate_callee (f := 13) rfl ?_); refine goesL_ (some 15) rfl rfl Try.func13 (by kernel_rfl) rfl #[.int .u64 a1] rfl (by (try simp only [List.map_toArray, List.map_cons, List.map_nil]); first | done | rfl | (simp only [List.length_drop, List.length_take]; rfl)) ?_; (with_reducible refine (falseworkref1_Canon.calls a1 t112 _ A4.out).mono ?_); rintro e w' ⟨rfl, ⟨nd, rfl⟩⟩; refine ⟨_, rfl, ?_⟩))
            go_ret
            exact ⟨by first | rfl | (simp; done) | (simp [*]; done), by repeat (first | exact Drawn0.refl _ | apply Drawn0.step)⟩
          · rw [if_neg c9] at H
            have c9b0 : (t111 == t112) = false := beq_eq_false_iff_ne.mpr c9
            have c9b1 : (t111 != t112) = true := bne_iff_ne.mpr c9
            obtain rfl := Option.some.inj H
            go_enter Try.func16, Try.ntmps16
            go_wp2_with (first | ((with_reducible refine gate_callee (f := 13) rfl ?_); refine goesL_ (some 13) rfl rfl Try.func13 (by kernel_rfl) rfl #[.int .u64 a0] rfl (by (try simp only [List.map_toArray, List.map_cons, List.map_nil]); first | done | rfl | (simp only [List.length_drop, List.length_take]; rfl)) ?_; (with_reducible refine (falseworkref1_Canon.calls a0 t111 _ A3.out).mono ?_); rintro e w' ⟨rfl, ⟨nd, rfl⟩⟩; refine ⟨_, rfl, ?_⟩) | ((with_reducible refine gate_callee (f := 13) rfl ?_); refine goesL_ (some 15) rfl rfl Try.func13 (by kernel_rfl) rfl #[.int .u64 a1] rfl (by (try simp only [List.map_toArray, List.map_cons, List.map_nil]); first | done | rfl | (simp only [List.length_drop, List.length_take]; rfl)) ?_; (with_reducible refine (falseworkref1_Canon.calls a1 t112 _ A4.out).mono ?_); rintro e w' ⟨rfl, ⟨nd, rfl⟩⟩; refine ⟨_, rfl, ?_⟩))
            go_ret
            exact ⟨by first | rfl | (simp; done) | (simp [*]; done), by repeat (first | exact Drawn0.refl _ | apply Drawn0.step)⟩
        · rw [if_neg c8] at H
          have c8b0 : decide (9218868437227405312 ≤ (Go.bits .andNot .u64 t112 9223372036854775808)) = false := decide_eq_false c8
          clear c8
          obtain rfl := Option.some.inj H
          go_enter Try.func16, Try.ntmps16
          go_wp2_with (first | ((with_reducible refine gate_callee (f := 13) rfl ?_); refine goesL_ (some 13) rfl rfl Try.func13 (by kernel_rfl) rfl #[.int .u64 a0] rfl (by (try simp only [List.map_toArray, List.map_cons, List.map_nil]); first | done | rfl | (simp only [List.length_drop, List.length_take]; rfl)) ?_; (with_reducible refine (falseworkref1_Canon.calls a0 t111 _ A3.out).mono ?_); rintro e w' ⟨rfl, ⟨nd, rfl⟩⟩; refine ⟨_, rfl, ?_⟩) | ((with_reducible refine gate_callee (f := 13) rfl ?_); refine goesL_ (some 15) rfl rfl Try.func13 (by kernel_rfl) rfl #[.int .u64 a1] rfl (by (try simp only [List.map_toArray, List.map_cons, List.map_nil]); first | done | rfl | (simp only [List.length_drop, List.length_take]; rfl)) ?_; (with_reducible refine (falseworkref1_Canon.calls a1 t112 _ A4.out).mono ?_); rintro e w' ⟨rfl, ⟨nd, rfl⟩⟩; refine ⟨_, rfl, ?_⟩))
          go_ret
          exact ⟨by first | rfl | (simp; done) | (simp [*]; done), by repeat (first | exact Drawn0.refl _ | apply Drawn0.step)⟩
      · rw [if_neg c7] at H
        have c7b0 : decide (9218868437227405312 ≤ (Go.bits .andNot .u64 t111 9223372036854775808)) = false := decide_eq_false c7
        clear c7
        by_cases c10 : (Go.bits .andNot .u64 t112 9223372036854775808) ≥ 9218868437227405312
        · rw [if_pos c10] at H
          have c10b0 : decide (9218868437227405312 ≤ (Go.bits .andNot .u64 t112 9223372036854775808)) = true := decide_eq_true c10
          clear c10
          obtain rfl := Option.some.inj H
          go_enter Try.func16, Try.ntmps16
          go_wp2_with (first | ((with_reducible refine gate_callee (f := 13) rfl ?_); refine goesL_ (some 13) rfl rfl Try.func13 (by kernel_rfl) rfl #[.int .u64 a0] rfl (by (try simp only [List.map_toArray, List.map_cons, List.map_nil]); first | done | rfl | (simp only [List.length_drop, List.length_take]; rfl)) ?_; (with_reducible refine (falseworkref1_Canon.calls a0 t111 _ A3.out).mono ?_); rintro e w' ⟨rfl, ⟨nd, rfl⟩⟩; refine ⟨_, rfl, ?_⟩) | ((with_reducible refine gate_callee (f := 13) rfl ?_); refine goesL_ (some 15) rfl rfl Try.func13 (by kernel_rfl) rfl #[.int .u64 a1] rfl (by (try simp only [List.map_toArray, List.map_cons, List.map_nil]); first | done | rfl | (simp only [List.length_drop, List.length_take]; rfl)) ?_; (with_reducible refine (falseworkref1_Canon.calls a1 t112 _ A4.out).mono ?_); rintro e w' ⟨rfl, ⟨nd, rfl⟩⟩; refine ⟨_, rfl, ?_⟩))
          go_ret
          exact ⟨by first | rfl | (simp; done) | (simp [*]; done), by repeat (first | exact Drawn0.refl _ | apply Drawn0.step)⟩
        · rw [if_neg c10] at H
          have c10b0 : decide (9218868437227405312 ≤ (Go.bits .andNot .u64 t112 9223372036854775808)) = false := decide_eq_false c10
          clear c10
          by_cases c11 : (Go.bits .andNot .u64 t111 9223372036854775808) < (Go.bits .andNot .u64 t112 9223372036854775808)
          · rw [if_pos c11] at H
            have c11b0 : decide ((Go.bits .andNot .u64 t111 9223372036854775808) < (Go.bits .andNot .u64 t112 9223372036854775808)) = true := decide_eq_true c11
            clear c11
            replace H := Option.bind_eq_some_iff.mp H
            obtain ⟨⟨t113, t114⟩, A120, H⟩ := H
            replace H : ((falseworkref1_parts.f t111).bind fun bt115 => ((falseworkref1_shift.f k bt115.2 (wrap64 (t113 - bt115.1))).bind fun t117 => (if (Go.bits .and .u64 (Go.bits .xor .u64 t112 t111) 9223372036854775808) = 0 then (if (IntKind.u64.wrap (t114 + t117)) = 0 then (some 0) else ((falseworkref1_pack.f k (Go.bits .and .u64 t112 9223372036854775808) t113 (IntKind.u64.wrap (t114 + t117))).bind fun t118 => ((falseworkref1_Canon.f t118).bind fun t119 => (some t119)))) else (if (IntKind.u64.wrap (t114 - t117)) = 0 then (some 0) else ((falseworkref1_pack.f k (Go.bits .and .u64 t112 9223372036854775808) t113 (IntKind.u64.wrap (t114 - t117))).bind fun t120 => ((falseworkref1_Canon.f t120).bind fun t121 => (some t121))))))) = some r := H
            have A12 := Aside0.mk A120
            clear A120
            replace H := Option.bind_eq_some_iff.mp H
            obtain ⟨⟨t115, t116⟩, A130, H⟩ := H
            replace H : ((falseworkref1_shift.f k t116 (wrap64 (t113 - t115))).bind fun t117 => (if (Go.bits .and .u64 (Go.bits .xor .u64 t112 t111) 9223372036854775808) = 0 then (if (IntKind.u64.wrap (t114 + t117)) = 0 then (some 0) else ((falseworkref1_pack.f k (Go.bits .and .u64 t112 9223372036854775808) t113 (IntKind.u64.wrap (t114 + t117))).bind fun t118 => ((falseworkref1_Canon.f t118).bind fun t119 => (some t119)))) else (if (IntKind.u64.wrap (t114 - t117)) = 0 then (some 0) else ((falseworkref1_pack.f k (Go.bits .and .u64 t112 9223372036854775808) t113 (IntKind.u64.wrap (t114 - t117))).bind fun t120 => ((falseworkref1_Canon.f t120).bind fun t121 => (some t121)))))) = some r := H
            have A13 := Aside0.mk A130
            clear A130
            replace H := Option.bind_eq_some_iff.mp H
            obtain ⟨t117, A140, H⟩ := H
            replace H : (if (Go.bits .and .u64 (Go.bits .xor .u64 t112 t111) 9223372036854775808) = 0 then (if (IntKind.u64.wrap (t114 + t117)) = 0 then (some 0) else ((falseworkref1_pack.f k (Go.bits .and .u64 t112 9223372036854775808) t113 (IntKind.u64.wrap (t114 + t117))).bind fun t118 => ((falseworkref1_Canon.f t118).bind fun t119 => (some t119)))) else (if (IntKind.u64.wrap (t114 - t117)) = 0 then (some 0) else ((falseworkref1_pack.f k (Go.bits .and .u64 t112 9223372036854775808) t113 (IntKind.u64.wrap (t114 - t117))).bind fun t120 => ((falseworkref1_Canon.f t120).bind fun t121 => (some t121))))) = some r := H
            have A14 := Aside0.mk A140
            clear A140
            by_cases c15 : (Go.bits .and .u64 (Go.bits .xor .u64 t112 t111) 9223372036854775808) = 0
            · rw [if_pos c15] at H
              have c15b0 : ((Go.bits .and .u64 (Go.bits .xor .u64 t112 t111) 9223372036854775808) == 0) = true := beq_iff_eq.mpr c15
              have c15b1 : ((Go.bits .and .u64 (Go.bits .xor .u64 t112 t111) 9223372036854775808) != 0) = false := bne_eq_false_iff_eq.mpr c15
              clear c15
              by_cases c16 : (IntKind.u64.wrap (t114 + t117)) = 0
              · rw [if_pos c16] at H
                have c16b0 : ((IntKind.u64.wrap (t114 + t117)) == 0) = true := beq_iff_eq.mpr c16
                have c16b1 : ((IntKind.u64.wrap (t114 + t117)) != 0) = false := bne_eq_false_iff_eq.mpr c16
                clear c16
                obtain rfl := Option.some.inj H
                go_enter Try.func16, Try.ntmps16
                go_wp2_with (first | ((with_reducible refine gate_callee (f := 13) rfl ?_); refine goesL_ (some 13) rfl rfl Try.func13 (by kernel_rfl) rfl #[.int .u64 a0] rfl (by (try simp only [List.map_toArray, List.map_cons, List.map_nil]); first | done | rfl | (simp only [List.length_drop, List.length_take]; rfl)) ?_; (with_reducible refine (falseworkref1_Canon.calls a0 t111 _ A3.out).mono ?_); rintro e w' ⟨rfl, ⟨nd, rfl⟩⟩; refine ⟨_, rfl, ?_⟩) | ((with_reducible refine gate_callee (f := 13) rfl ?_); refine goesL_ (some 15) rfl rfl Try.func13 (by kernel_rfl) rfl #[.int .u64 a1] rfl (by (try simp only [List.map_toArray, List.map_cons, List.map_nil]); first | done | rfl | (simp only [List.length_drop, List.length_take]; rfl)) ?_; (with_reducible refine (falseworkref1_Canon.calls a1 t112 _ A4.out).mono ?_); rintro e w' ⟨rfl, ⟨nd, rfl⟩⟩; refine ⟨_, rfl, ?_⟩) | ((with_reducible refine gate_callee (f := 29) rfl ?_); refine goesL_ (some 55) rfl rfl Try.func29 (by kernel_rfl) rfl #[.int .u64 t112] rfl (by (try simp only [List.map_toArray, List.map_cons, List.map_nil]); first | done | rfl | (simp only [List.length_drop, List.length_take]; rfl)) ?_; (with_reducible refine (falseworkref1_parts.calls t112 t113 t114 _ A12.out).mono ?_); rintro e w' ⟨rfl, ⟨nd, rfl⟩⟩; refine ⟨_, rfl, ?_⟩) | ((with_reducible refine gate_callee (f := 29) rfl ?_); refine goesL_ (some 60) rfl rfl Try.func29 (by kernel_rfl) rfl #[.int .u64 t111] rfl (by (try simp only [List.map_toArray, List.map_cons, List.map_nil]); first | done | rfl | (simp only [List.length_drop, List.length_take]; rfl)) ?_; (with_reducible refine (falseworkref1_parts.calls t111 t115 t116 _ A13.out).mono ?_); rintro e w' ⟨rfl, ⟨nd, rfl⟩⟩; refine ⟨_, rfl, ?_⟩) | ((with_reducible refine gate_callee (f := 30) rfl ?_); refine goesL_ (some 67) rfl rfl Try.func30 (by kernel_rfl) rfl #[.int .u64 t116, .int .i64 (wrap64 (t113 - t115))] rfl (by (try simp only [List.map_toArray, List.map_cons, List.map_nil]); first | done | rfl | (simp only [List.length_drop, List.length_take]; rfl)) ?_; (with_reducible refine (falseworkref1_shift.calls k t116 (wrap64 (t113 - t115)) t117 _ A14.out).mono ?_); rintro e w' ⟨rfl, ⟨nd, rfl⟩⟩; refine ⟨_, rfl, ?_⟩))
                go_ret
                exact ⟨by first | rfl | (simp; done) | (simp [*]; done), by repeat (first | exact Drawn0.refl _ | apply Drawn0.step)⟩
              · rw [if_neg c16] at H
                have c16b0 : ((IntKind.u64.wrap (t114 + t117)) == 0) = false := beq_eq_false_iff_ne.mpr c16
                have c16b1 : ((IntKind.u64.wrap (t114 + t117)) != 0) = true := bne_iff_ne.mpr c16
                replace H := Option.bind_eq_some_iff.mp H
                obtain ⟨t118, A170, H⟩ := H
                replace H : ((falseworkref1_Canon.f t118).bind fun t119 => (some t119)) = some r := H
                have A17 := Aside0.mk A170
                clear A170
                replace H := Option.bind_eq_some_iff.mp H
                obtain ⟨t119, A180, H⟩ := H
                replace H : (some t119) = some r := H
                have A18 := Aside0.mk A180
                clear A180
                obtain rfl := Option.some.inj H
                go_enter Try.func16, Try.ntmps16
                go_wp2_with (first | ((with_reducible refine gate_callee (f := 13) rfl ?_); refine goesL_ (some 13) rfl rfl Try.func13 (by kernel_rfl) rfl #[.int .u64 a0] rfl (by (try simp only [List.map_toArray, List.map_cons, List.map_nil]); first | done | rfl | (simp only [List.length_drop, List.length_take]; rfl)) ?_; (with_reducible refine (falseworkref1_Canon.calls a0 t111 _ A3.out).mono ?_); rintro e w' ⟨rfl, ⟨nd, rfl⟩⟩; refine ⟨_, rfl, ?_⟩) | ((with_reducible refine gate_callee (f := 13) rfl ?_); refine goesL_ (some 15) rfl rfl Try.func13 (by kernel_rfl) rfl #[.int .u64 a1] rfl (by (try simp only [List.map_toArray, List.map_cons, List.map_nil]); first | done | rfl | (simp only [List.length_drop, List.length_take]; rfl)) ?_; (with_reducible refine (falseworkref1_Canon.calls a1 t112 _ A4.out).mono ?_); rintro e w' ⟨rfl, ⟨nd, rfl⟩⟩; refine ⟨_, rfl, ?_⟩) | ((with_reducible refine gate_callee (f := 29) rfl ?_); refine goesL_ (some 55) rfl rfl Try.func29 (by kernel_rfl) rfl #[.int .u64 t112] rfl (by (try simp only [List.map_toArray, List.map_cons, List.map_nil]); first | done | rfl | (simp only [List.length_drop, List.length_take]; rfl)) ?_; (with_reducible refine (falseworkref1_parts.calls t112 t113 t114 _ A12.out).mono ?_); rintro e w' ⟨rfl, ⟨nd, rfl⟩⟩; refine ⟨_, rfl, ?_⟩) | ((with_reducible refine gate_callee (f := 29) rfl ?_); refine goesL_ (some 60) rfl rfl Try.func29 (by kernel_rfl) rfl #[.int .u64 t111] rfl (by (try simp only [List.map_toArray, List.map_cons, List.map_nil]); first | done | rfl | (simp only [List.length_drop, List.length_take]; rfl)) ?_; (with_reducible refine (falseworkref1_parts.calls t111 t115 t116 _ A13.out).mono ?_); rintro e w' ⟨rfl, ⟨nd, rfl⟩⟩; refine ⟨_, rfl, ?_⟩) | ((with_reducible refine gate_callee (f := 30) rfl ?_); refine goesL_ (some 67) rfl rfl Try.func30 (by kernel_rfl) rfl #[.int .u64 t116, .int .i64 (wrap64 (t113 - t115))] rfl (by (try simp only [List.map_toArray, List.map_cons, List.map_nil]); first | done | rfl | (simp only [List.length_drop, List.length_take]; rfl)) ?_; (with_reducible refine (falseworkref1_shift.calls k t116 (wrap64 (t113 - t115)) t117 _ A14.out).mono ?_); rintro e w' ⟨rfl, ⟨nd, rfl⟩⟩; refine ⟨_, rfl, ?_⟩) | ((with_reducible refine gate_callee (f := 31) rfl ?_); refine goesL_ (some 85) rfl rfl Try.func31 (by kernel_rfl) rfl #[.int .u64 (Go.bits .and .u64 t112 9223372036854775808), .int .i64 t113, .int .u64 (IntKind.u64.wrap (t114 + t117))] rfl (by (try simp only [List.map_toArray, List.map_cons, List.map_nil]); first | done | rfl | (simp only [List.length_drop, List.length_take]; rfl)) ?_; (with_reducible refine (falseworkref1_pack.calls k (Go.bits .and .u64 t112 9223372036854775808) t113 (IntKind.u64.wrap (t114 + t117)) t118 _ A17.out).mono ?_); rintro e w' ⟨rfl, ⟨nd, rfl⟩⟩; refine ⟨_, rfl, ?_⟩) | ((with_reducible refine gate_callee (f := 13) rfl ?_); refine goesL_ (some 86) rfl rfl Try.func13 (by kernel_rfl) rfl #[.int .u64 t118] rfl (by (try simp only [List.map_toArray, List.map_cons, List.map_nil]); first | done | rfl | (simp only [List.length_drop, List.length_take]; rfl)) ?_; (with_reducible refine (falseworkref1_Canon.calls t118 t119 _ A18.out).mono ?_); rintro e w' ⟨rfl, ⟨nd, rfl⟩⟩; refine ⟨_, rfl, ?_⟩))
                go_ret
                exact ⟨by first | rfl | (simp; done) | (simp [*]; done), by repeat (first | exact Drawn0.refl _ | apply Drawn0.step)⟩
            · rw [if_neg c15] at H
              have c15b0 : ((Go.bits .and .u64 (Go.bits .xor .u64 t112 t111) 9223372036854775808) == 0) = false := beq_eq_false_iff_ne.mpr c15
              have c15b1 : ((Go.bits .and .u64 (Go.bits .xor .u64 t112 t111) 9223372036854775808) != 0) = true := bne_iff_ne.mpr c15
              by_cases c19 : (IntKind.u64.wrap (t114 - t117)) = 0
              · rw [if_pos c19] at H
                have c19b0 : ((IntKind.u64.wrap (t114 - t117)) == 0) = true := beq_iff_eq.mpr c19
                have c19b1 : ((IntKind.u64.wrap (t114 - t117)) != 0) = false := bne_eq_false_iff_eq.mpr c19
                clear c19
                obtain rfl := Option.some.inj H
                go_enter Try.func16, Try.ntmps16
                go_wp2_with (first | ((with_reducible refine gate_callee (f := 13) rfl ?_); refine goesL_ (some 13) rfl rfl Try.func13 (by kernel_rfl) rfl #[.int .u64 a0] rfl (by (try simp only [List.map_toArray, List.map_cons, List.map_nil]); first | done | rfl | (simp only [List.length_drop, List.length_take]; rfl)) ?_; (with_reducible refine (falseworkref1_Canon.calls a0 t111 _ A3.out).mono ?_); rintro e w' ⟨rfl, ⟨nd, rfl⟩⟩; refine ⟨_, rfl, ?_⟩) | ((with_reducible refine gate_callee (f := 13) rfl ?_); refine goesL_ (some 15) rfl rfl Try.func13 (by kernel_rfl) rfl #[.int .u64 a1] rfl (by (try simp only [List.map_toArray, List.map_cons, List.map_nil]); first | done | rfl | (simp only [List.length_drop, List.length_take]; rfl)) ?_; (with_reducible refine (falseworkref1_Canon.calls a1 t112 _ A4.out).mono ?_); rintro e w' ⟨rfl, ⟨nd, rfl⟩⟩; refine ⟨_, rfl, ?_⟩) | ((with_reducible refine gate_callee (f := 29) rfl ?_); refine goesL_ (some 55) rfl rfl Try.func29 (by kernel_rfl) rfl #[.int .u64 t112] rfl (by (try simp only [List.map_toArray, List.map_cons, List.map_nil]); first | done | rfl | (simp only [List.length_drop, List.length_take]; rfl)) ?_; (with_reducible refine (falseworkref1_parts.calls t112 t113 t114 _ A12.out).mono ?_); rintro e w' ⟨rfl, ⟨nd, rfl⟩⟩; refine ⟨_, rfl, ?_⟩) | ((with_reducible refine gate_callee (f := 29) rfl ?_); refine goesL_ (some 60) rfl rfl Try.func29 (by kernel_rfl) rfl #[.int .u64 t111] rfl (by (try simp only [List.map_toArray, List.map_cons, List.map_nil]); first | done | rfl | (simp only [List.length_drop, List.length_take]; rfl)) ?_; (with_reducible refine (falseworkref1_parts.calls t111 t115 t116 _ A13.out).mono ?_); rintro e w' ⟨rfl, ⟨nd, rfl⟩⟩; refine ⟨_, rfl, ?_⟩) | ((with_reducible refine gate_callee (f := 30) rfl ?_); refine goesL_ (some 67) rfl rfl Try.func30 (by kernel_rfl) rfl #[.int .u64 t116, .int .i64 (wrap64 (t113 - t115))] rfl (by (try simp only [List.map_toArray, List.map_cons, List.map_nil]); first | done | rfl | (simp only [List.length_drop, List.length_take]; rfl)) ?_; (with_reducible refine (falseworkref1_shift.calls k t116 (wrap64 (t113 - t115)) t117 _ A14.out).mono ?_); rintro e w' ⟨rfl, ⟨nd, rfl⟩⟩; refine ⟨_, rfl, ?_⟩))
                go_ret
                exact ⟨by first | rfl | (simp; done) | (simp [*]; done), by repeat (first | exact Drawn0.refl _ | apply Drawn0.step)⟩
              · rw [if_neg c19] at H
                have c19b0 : ((IntKind.u64.wrap (t114 - t117)) == 0) = false := beq_eq_false_iff_ne.mpr c19
                have c19b1 : ((IntKind.u64.wrap (t114 - t117)) != 0) = true := bne_iff_ne.mpr c19
                replace H := Option.bind_eq_some_iff.mp H
                obtain ⟨t120, A200, H⟩ := H
                replace H : ((falseworkref1_Canon.f t120).bind fun t121 => (some t121)) = some r := H
                have A20 := Aside0.mk A200
                clear A200
                replace H := Option.bind_eq_some_iff.mp H
                obtain ⟨t121, A210, H⟩ := H
                replace H : (some t121) = some r := H
                have A21 := Aside0.mk A210
                clear A210
                obtain rfl := Option.some.inj H
                go_enter Try.func16, Try.ntmps16
                go_wp2_with (first | ((with_reducible refine gate_callee (f := 13) rfl ?_); refine goesL_ (some 13) rfl rfl Try.func13 (by kernel_rfl) rfl #[.int .u64 a0] rfl (by (try simp only [List.map_toArray, List.map_cons, List.map_nil]); first | done | rfl | (simp only [List.length_drop, List.length_take]; rfl)) ?_; (with_reducible refine (falseworkref1_Canon.calls a0 t111 _ A3.out).mono ?_); rintro e w' ⟨rfl, ⟨nd, rfl⟩⟩; refine ⟨_, rfl, ?_⟩) | ((with_reducible refine gate_callee (f := 13) rfl ?_); refine goesL_ (some 15) rfl rfl Try.func13 (by kernel_rfl) rfl #[.int .u64 a1] rfl (by (try simp only [List.map_toArray, List.map_cons, List.map_nil]); first | done | rfl | (simp only [List.length_drop, List.length_take]; rfl)) ?_; (with_reducible refine (falseworkref1_Canon.calls a1 t112 _ A4.out).mono ?_); rintro e w' ⟨rfl, ⟨nd, rfl⟩⟩; refine ⟨_, rfl, ?_⟩) | ((with_reducible refine gate_callee (f := 29) rfl ?_); refine goesL_ (some 55) rfl rfl Try.func29 (by kernel_rfl) rfl #[.int .u64 t112] rfl (by (try simp only [List.map_toArray, List.map_cons, List.map_nil]); first | done | rfl | (simp only [List.length_drop, List.length_take]; rfl)) ?_; (with_reducible refine (falseworkref1_parts.calls t112 t113 t114 _ A12.out).mono ?_); rintro e w' ⟨rfl, ⟨nd, rfl⟩⟩; refine ⟨_, rfl, ?_⟩) | ((with_reducible refine gate_callee (f := 29) rfl ?_); refine goesL_ (some 60) rfl rfl Try.func29 (by kernel_rfl) rfl #[.int .u64 t111] rfl (by (try simp only [List.map_toArray, List.map_cons, List.map_nil]); first | done | rfl | (simp only [List.length_drop, List.length_take]; rfl)) ?_; (with_reducible refine (falseworkref1_parts.calls t111 t115 t116 _ A13.out).mono ?_); rintro e w' ⟨rfl, ⟨nd, rfl⟩⟩; refine ⟨_, rfl, ?_⟩) | ((with_reducible refine gate_callee (f := 30) rfl ?_); refine goesL_ (some 67) rfl rfl Try.func30 (by kernel_rfl) rfl #[.int .u64 t116, .int .i64 (wrap64 (t113 - t115))] rfl (by (try simp only [List.map_toArray, List.map_cons, List.map_nil]); first | done | rfl | (simp only [List.length_drop, List.length_take]; rfl)) ?_; (with_reducible refine (falseworkref1_shift.calls k t116 (wrap64 (t113 - t115)) t117 _ A14.out).mono ?_); rintro e w' ⟨rfl, ⟨nd, rfl⟩⟩; refine ⟨_, rfl, ?_⟩) | ((with_reducible refine gate_callee (f := 31) rfl ?_); refine goesL_ (some 85) rfl rfl Try.func31 (by kernel_rfl) rfl #[.int .u64 (Go.bits .and .u64 t112 9223372036854775808), .int .i64 t113, .int .u64 (IntKind.u64.wrap (t114 - t117))] rfl (by (try simp only [List.map_toArray, List.map_cons, List.map_nil]); first | done | rfl | (simp only [List.length_drop, List.length_take]; rfl)) ?_; (with_reducible refine (falseworkref1_pack.calls k (Go.bits .and .u64 t112 9223372036854775808) t113 (IntKind.u64.wrap (t114 - t117)) t120 _ A20.out).mono ?_); rintro e w' ⟨rfl, ⟨nd, rfl⟩⟩; refine ⟨_, rfl, ?_⟩) | ((with_reducible refine gate_callee (f := 13) rfl ?_); refine goesL_ (some 86) rfl rfl Try.func13 (by kernel_rfl) rfl #[.int .u64 t120] rfl (by (try simp only [List.map_toArray, List.map_cons, List.map_nil]); first | done | rfl | (simp only [List.length_drop, List.length_take]; rfl)) ?_; (with_reducible refine (falseworkref1_Canon.calls t120 t121 _ A21.out).mono ?_); rintro e w' ⟨rfl, ⟨nd, rfl⟩⟩; refine ⟨_, rfl, ?_⟩))
                go_ret
                exact ⟨by first | rfl | (simp; done) | (simp [*]; done), by repeat (first | exact Drawn0.refl _ | apply Drawn0.step)⟩
          · rw [if_neg c11] at H
            have c11b0 : decide ((Go.bits .andNot .u64 t111 9223372036854775808) < (Go.bits .andNot .u64 t112 9223372036854775808)) = false := decide_eq_false c11
            clear c11
            replace H := Option.bind_eq_some_iff.mp H
            obtain ⟨⟨t122, t123⟩, A220, H⟩ := H
            replace H : ((falseworkref1_parts.f t112).bind fun bt124 => ((falseworkref1_shift.f k bt124.2 (wrap64 (t122 - bt124.1))).bind fun t126 => (if (Go.bits .and .u64 (Go.bits .xor .u64 t111 t112) 9223372036854775808) = 0 then (if (IntKind.u64.wrap (t123 + t126)) = 0 then (some 0) else ((falseworkref1_pack.f k (Go.bits .and .u64 t111 9223372036854775808) t122 (IntKind.u64.wrap (t123 + t126))).bind fun t127 => ((falseworkref1_Canon.f t127).bind fun t128 => (some t128)))) else (if (IntKind.u64.wrap (t123 - t126)) = 0 then (some 0) else ((falseworkref1_pack.f k (Go.bits .and .u64 t111 9223372036854775808) t122 (IntKind.u64.wrap (t123 - t126))).bind fun t129 => ((falseworkref1_Canon.f t129).bind fun t130 => (some t130))))))) = some r := H
            have A22 := Aside0.mk A220
            clear A220
            replace H := Option.bind_eq_some_iff.mp H
            obtain ⟨⟨t124, t125⟩, A230, H⟩ := H
            replace H : ((falseworkref1_shift.f k t125 (wrap64 (t122 - t124))).bind fun t126 => (if (Go.bits .and .u64 (Go.bits .xor .u64 t111 t112) 9223372036854775808) = 0 then (if (IntKind.u64.wrap (t123 + t126)) = 0 then (some 0) else ((falseworkref1_pack.f k (Go.bits .and .u64 t111 9223372036854775808) t122 (IntKind.u64.wrap (t123 + t126))).bind fun t127 => ((falseworkref1_Canon.f t127).bind fun t128 => (some t128)))) else (if (IntKind.u64.wrap (t123 - t126)) = 0 then (some 0) else ((falseworkref1_pack.f k (Go.bits .and .u64 t111 9223372036854775808) t122 (IntKind.u64.wrap (t123 - t126))).bind fun t129 => ((falseworkref1_Canon.f t129).bind fun t130 => (some t130)))))) = some r := H
            have A23 := Aside0.mk A230
            clear A230
            replace H := Option.bind_eq_some_iff.mp H
            obtain ⟨t126, A240, H⟩ := H
            replace H : (if (Go.bits .and .u64 (Go.bits .xor .u64 t111 t112) 9223372036854775808) = 0 then (if (IntKind.u64.wrap (t123 + t126)) = 0 then (some 0) else ((falseworkref1_pack.f k (Go.bits .and .u64 t111 9223372036854775808) t122 (IntKind.u64.wrap (t123 + t126))).bind fun t127 => ((falseworkref1_Canon.f t127).bind fun t128 => (some t128)))) else (if (IntKind.u64.wrap (t123 - t126)) = 0 then (some 0) else ((falseworkref1_pack.f k (Go.bits .and .u64 t111 9223372036854775808) t122 (IntKind.u64.wrap (t123 - t126))).bind fun t129 => ((falseworkref1_Canon.f t129).bind fun t130 => (some t130))))) = some r := H
            have A24 := Aside0.mk A240
            clear A240
            by_cases c25 : (Go.bits .and .u64 (Go.bits .xor .u64 t111 t112) 9223372036854775808) = 0
            · rw [if_pos c25] at H
              have c25b0 : ((Go.bits .and .u64 (Go.bits .xor .u64 t111 t112) 9223372036854775808) == 0) = true := beq_iff_eq.mpr c25
              have c25b1 : ((Go.bits .and .u64 (Go.bits .xor .u64 t111 t112) 9223372036854775808) != 0) = false := bne_eq_false_iff_eq.mpr c25
              clear c25
              by_cases c26 : (IntKind.u64.wrap (t123 + t126)) = 0
              · rw [if_pos c26] at H
                have c26b0 : ((IntKind.u64.wrap (t123 + t126)) == 0) = true := beq_iff_eq.mpr c26
                have c26b1 : ((IntKind.u64.wrap (t123 + t126)) != 0) = false := bne_eq_false_iff_eq.mpr c26
                clear c26
                obtain rfl := Option.some.inj H
                go_enter Try.func16, Try.ntmps16
                go_wp2_with (first | ((with_reducible refine gate_callee (f := 13) rfl ?_); refine goesL_ (some 13) rfl rfl Try.func13 (by kernel_rfl) rfl #[.int .u64 a0] rfl (by (try simp only [List.map_toArray, List.map_cons, List.map_nil]); first | done | rfl | (simp only [List.length_drop, List.length_take]; rfl)) ?_; (with_reducible refine (falseworkref1_Canon.calls a0 t111 _ A3.out).mono ?_); rintro e w' ⟨rfl, ⟨nd, rfl⟩⟩; refine ⟨_, rfl, ?_⟩) | ((with_reducible refine gate_callee (f := 13) rfl ?_); refine goesL_ (some 15) rfl rfl Try.func13 (by kernel_rfl) rfl #[.int .u64 a1] rfl (by (try simp only [List.map_toArray, List.map_cons, List.map_nil]); first | done | rfl | (simp only [List.length_drop, List.length_take]; rfl)) ?_; (with_reducible refine (falseworkref1_Canon.calls a1 t112 _ A4.out).mono ?_); rintro e w' ⟨rfl, ⟨nd, rfl⟩⟩; refine ⟨_, rfl, ?_⟩) | ((with_reducible refine gate_callee (f := 29) rfl ?_); refine goesL_ (some 55) rfl rfl Try.func29 (by kernel_rfl) rfl #[.int .u64 t111] rfl (by (try simp only [List.map_toArray, List.map_cons, List.map_nil]); first | done | rfl | (simp only [List.length_drop, List.length_take]; rfl)) ?_; (with_reducible refine (falseworkref1_parts.calls t111 t122 t123 _ A22.out).mono ?_); rintro e w' ⟨rfl, ⟨nd, rfl⟩⟩; refine ⟨_, rfl, ?_⟩) | ((with_reducible refine gate_callee (f := 29) rfl ?_); refine goesL_ (some 60) rfl rfl Try.func29 (by kernel_rfl) rfl #[.int .u64 t112] rfl (by (try simp only [List.map_toArray, List.map_cons, List.map_nil]); first | done | rfl | (simp only [List.length_drop, List.length_take]; rfl)) ?_; (with_reducible refine (falseworkref1_parts.calls t112 t124 t125 _ A23.out).mono ?_); rintro e w' ⟨rfl, ⟨nd, rfl⟩⟩; refine ⟨_, rfl, ?_⟩) | ((with_reducible refine gate_callee (f := 30) rfl ?_); refine goesL_ (some 67) rfl rfl Try.func30 (by kernel_rfl) rfl #[.int .u64 t125, .int .i64 (wrap64 (t122 - t124))] rfl (by (try simp only [List.map_toArray, List.map_cons, List.map_nil]); first | done | rfl | (simp only [List.length_drop, List.length_take]; rfl)) ?_; (with_reducible refine (falseworkref1_shift.calls k t125 (wrap64 (t122 - t124)) t126 _ A24.out).mono ?_); rintro e w' ⟨rfl, ⟨nd, rfl⟩⟩; refine ⟨_, rfl, ?_⟩))
                go_ret
                exact ⟨by first | rfl | (simp; done) | (simp [*]; done), by repeat (first | exact Drawn0.refl _ | apply Drawn0.step)⟩
              · rw [if_neg c26] at H
                have c26b0 : ((IntKind.u64.wrap (t123 + t126)) == 0) = false := beq_eq_false_iff_ne.mpr c26
                have c26b1 : ((IntKind.u64.wrap (t123 + t126)) != 0) = true := bne_iff_ne.mpr c26
                replace H := Option.bind_eq_some_iff.mp H
                obtain ⟨t127, A270, H⟩ := H
                replace H : ((falseworkref1_Canon.f t127).bind fun t128 => (some t128)) = some r := H
                have A27 := Aside0.mk A270
                clear A270
                replace H := Option.bind_eq_some_iff.mp H
                obtain ⟨t128, A280, H⟩ := H
                replace H : (some t128) = some r := H
                have A28 := Aside0.mk A280
                clear A280
                obtain rfl := Option.some.inj H
                go_enter Try.func16, Try.ntmps16
                go_wp2_with (first | ((with_reducible refine gate_callee (f := 13) rfl ?_); refine goesL_ (some 13) rfl rfl Try.func13 (by kernel_rfl) rfl #[.int .u64 a0] rfl (by (try simp only [List.map_toArray, List.map_cons, List.map_nil]); first | done | rfl | (simp only [List.length_drop, List.length_take]; rfl)) ?_; (with_reducible refine (falseworkref1_Canon.calls a0 t111 _ A3.out).mono ?_); rintro e w' ⟨rfl, ⟨nd, rfl⟩⟩; refine ⟨_, rfl, ?_⟩) | ((with_reducible refine gate_callee (f := 13) rfl ?_); refine goesL_ (some 15) rfl rfl Try.func13 (by kernel_rfl) rfl #[.int .u64 a1] rfl (by (try simp only [List.map_toArray, List.map_cons, List.map_nil]); first | done | rfl | (simp only [List.length_drop, List.length_take]; rfl)) ?_; (with_reducible refine (falseworkref1_Canon.calls a1 t112 _ A4.out).mono ?_); rintro e w' ⟨rfl, ⟨nd, rfl⟩⟩; refine ⟨_, rfl, ?_⟩) | ((with_reducible refine gate_callee (f := 29) rfl ?_); refine goesL_ (some 55) rfl rfl Try.func29 (by kernel_rfl) rfl #[.int .u64 t111] rfl (by (try simp only [List.map_toArray, List.map_cons, List.map_nil]); first | done | rfl | (simp only [List.length_drop, List.length_take]; rfl)) ?_; (with_reducible refine (falseworkref1_parts.calls t111 t122 t123 _ A22.out).mono ?_); rintro e w' ⟨rfl, ⟨nd, rfl⟩⟩; refine ⟨_, rfl, ?_⟩) | ((with_reducible refine gate_callee (f := 29) rfl ?_); refine goesL_ (some 60) rfl rfl Try.func29 (by kernel_rfl) rfl #[.int .u64 t112] rfl (by (try simp only [List.map_toArray, List.map_cons, List.map_nil]); first | done | rfl | (simp only [List.length_drop, List.length_take]; rfl)) ?_; (with_reducible refine (falseworkref1_parts.calls t112 t124 t125 _ A23.out).mono ?_); rintro e w' ⟨rfl, ⟨nd, rfl⟩⟩; refine ⟨_, rfl, ?_⟩) | ((with_reducible refine gate_callee (f := 30) rfl ?_); refine goesL_ (some 67) rfl rfl Try.func30 (by kernel_rfl) rfl #[.int .u64 t125, .int .i64 (wrap64 (t122 - t124))] rfl (by (try simp only [List.map_toArray, List.map_cons, List.map_nil]); first | done | rfl | (simp only [List.length_drop, List.length_take]; rfl)) ?_; (with_reducible refine (falseworkref1_shift.calls k t125 (wrap64 (t122 - t124)) t126 _ A24.out).mono ?_); rintro e w' ⟨rfl, ⟨nd, rfl⟩⟩; refine ⟨_, rfl, ?_⟩) | ((with_reducible refine gate_callee (f := 31) rfl ?_); refine goesL_ (some 85) rfl rfl Try.func31 (by kernel_rfl) rfl #[.int .u64 (Go.bits .and .u64 t111 9223372036854775808), .int .i64 t122, .int .u64 (IntKind.u64.wrap (t123 + t126))] rfl (by (try simp only [List.map_toArray, List.map_cons, List.map_nil]); first | done | rfl | (simp only [List.length_drop, List.length_take]; rfl)) ?_; (with_reducible refine (falseworkref1_pack.calls k (Go.bits .and .u64 t111 9223372036854775808) t122 (IntKind.u64.wrap (t123 + t126)) t127 _ A27.out).mono ?_); rintro e w' ⟨rfl, ⟨nd, rfl⟩⟩; refine ⟨_, rfl, ?_⟩) | ((with_reducible refine gate_callee (f := 13) rfl ?_); refine goesL_ (some 86) rfl rfl Try.func13 (by kernel_rfl) rfl #[.int .u64 t127] rfl (by (try simp only [List.map_toArray, List.map_cons, List.map_nil]); first | done | rfl | (simp only [List.length_drop, List.length_take]; rfl)) ?_; (with_reducible refine (falseworkref1_Canon.calls t127 t128 _ A28.out).mono ?_); rintro e w' ⟨rfl, ⟨nd, rfl⟩⟩; refine ⟨_, rfl, ?_⟩))
                go_ret
                exact ⟨by first | rfl | (simp; done) | (simp [*]; done), by repeat (first | exact Drawn0.refl _ | apply Drawn0.step)⟩
            · rw [if_neg c25] at H
              have c25b0 : ((Go.bits .and .u64 (Go.bits .xor .u64 t111 t112) 9223372036854775808) == 0) = false := beq_eq_false_iff_ne.mpr c25
              have c25b1 : ((Go.bits .and .u64 (Go.bits .xor .u64 t111 t112) 9223372036854775808) != 0) = true := bne_iff_ne.mpr c25
              by_cases c29 : (IntKind.u64.wrap (t123 - t126)) = 0
              · rw [if_pos c29] at H
                have c29b0 : ((IntKind.u64.wrap (t123 - t126)) == 0) = true := beq_iff_eq.mpr c29
                have c29b1 : ((IntKind.u64.wrap (t123 - t126)) != 0) = false := bne_eq_false_iff_eq.mpr c29
                clear c29
                obtain rfl := Option.some.inj H
                go_enter Try.func16, Try.ntmps16
                go_wp2_with (first | ((with_reducible refine gate_callee (f := 13) rfl ?_); refine goesL_ (some 13) rfl rfl Try.func13 (by kernel_rfl) rfl #[.int .u64 a0] rfl (by (try simp only [List.map_toArray, List.map_cons, List.map_nil]); first | done | rfl | (simp only [List.length_drop, List.length_take]; rfl)) ?_; (with_reducible refine (falseworkref1_Canon.calls a0 t111 _ A3.out).mono ?_); rintro e w' ⟨rfl, ⟨nd, rfl⟩⟩; refine ⟨_, rfl, ?_⟩) | ((with_reducible refine gate_callee (f := 13) rfl ?_); refine goesL_ (some 15) rfl rfl Try.func13 (by kernel_rfl) rfl #[.int .u64 a1] rfl (by (try simp only [List.map_toArray, List.map_cons, List.map_nil]); first | done | rfl | (simp only [List.length_drop, List.length_take]; rfl)) ?_; (with_reducible refine (falseworkref1_Canon.calls a1 t112 _ A4.out).mono ?_); rintro e w' ⟨rfl, ⟨nd, rfl⟩⟩; refine ⟨_, rfl, ?_⟩) | ((with_reducible refine gate_callee (f := 29) rfl ?_); refine goesL_ (some 55) rfl rfl Try.func29 (by kernel_rfl) rfl #[.int .u64 t111] rfl (by (try simp only [List.map_toArray, List.map_cons, List.map_nil]); first | done | rfl | (simp only [List.length_drop, List.length_take]; rfl)) ?_; (with_reducible refine (falseworkref1_parts.calls t111 t122 t123 _ A22.out).mono ?_); rintro e w' ⟨rfl, ⟨nd, rfl⟩⟩; refine ⟨_, rfl, ?_⟩) | ((with_reducible refine gate_callee (f := 29) rfl ?_); refine goesL_ (some 60) rfl rfl Try.func29 (by kernel_rfl) rfl #[.int .u64 t112] rfl (by (try simp only [List.map_toArray, List.map_cons, List.map_nil]); first | done | rfl | (simp only [List.length_drop, List.length_take]; rfl)) ?_; (with_reducible refine (falseworkref1_parts.calls t112 t124 t125 _ A23.out).mono ?_); rintro e w' ⟨rfl, ⟨nd, rfl⟩⟩; refine ⟨_, rfl, ?_⟩) | ((with_reducible refine gate_callee (f := 30) rfl ?_); refine goesL_ (some 67) rfl rfl Try.func30 (by kernel_rfl) rfl #[.int .u64 t125, .int .i64 (wrap64 (t122 - t124))] rfl (by (try simp only [List.map_toArray, List.map_cons, List.map_nil]); first | done | rfl | (simp only [List.length_drop, List.length_take]; rfl)) ?_; (with_reducible refine (falseworkref1_shift.calls k t125 (wrap64 (t122 - t124)) t126 _ A24.out).mono ?_); rintro e w' ⟨rfl, ⟨nd, rfl⟩⟩; refine ⟨_, rfl, ?_⟩))
                go_ret
                exact ⟨by first | rfl | (simp; done) | (simp [*]; done), by repeat (first | exact Drawn0.refl _ | apply Drawn0.step)⟩
              · rw [if_neg c29] at H
                have c29b0 : ((IntKind.u64.wrap (t123 - t126)) == 0) = false := beq_eq_false_iff_ne.mpr c29
                have c29b1 : ((IntKind.u64.wrap (t123 - t126)) != 0) = true := bne_iff_ne.mpr c29
                replace H := Option.bind_eq_some_iff.mp H
                obtain ⟨t129, A300, H⟩ := H
                replace H : ((falseworkref1_Canon.f t129).bind fun t130 => (some t130)) = some r := H
                have A30 := Aside0.mk A300
                clear A300
                replace H := Option.bind_eq_some_iff.mp H
                obtain ⟨t130, A310, H⟩ := H
                replace H : (some t130) = some r := H
                have A31 := Aside0.mk A310
                clear A310
                obtain rfl := Option.some.inj H
                go_enter Try.func16, Try.ntmps16
                go_wp2_with (first | ((with_reducible refine gate_callee (f := 13) rfl ?_); refine goesL_ (some 13) rfl rfl Try.func13 (by kernel_rfl) rfl #[.int .u64 a0] rfl (by (try simp only [List.map_toArray, List.map_cons, List.map_nil]); first | done | rfl | (simp only [List.length_drop, List.length_take]; rfl)) ?_; (with_reducible refine (falseworkref1_Canon.calls a0 t111 _ A3.out).mono ?_); rintro e w' ⟨rfl, ⟨nd, rfl⟩⟩; refine ⟨_, rfl, ?_⟩) | ((with_reducible refine gate_callee (f := 13) rfl ?_); refine goesL_ (some 15) rfl rfl Try.func13 (by kernel_rfl) rfl #[.int .u64 a1] rfl (by (try simp only [List.map_toArray, List.map_cons, List.map_nil]); first | done | rfl | (simp only [List.length_drop, List.length_take]; rfl)) ?_; (with_reducible refine (falseworkref1_Canon.calls a1 t112 _ A4.out).mono ?_); rintro e w' ⟨rfl, ⟨nd, rfl⟩⟩; refine ⟨_, rfl, ?_⟩) | ((with_reducible refine gate_callee (f := 29) rfl ?_); refine goesL_ (some 55) rfl rfl Try.func29 (by kernel_rfl) rfl #[.int .u64 t111] rfl (by (try simp only [List.map_toArray, List.map_cons, List.map_nil]); first | done | rfl | (simp only [List.length_drop, List.length_take]; rfl)) ?_; (with_reducible refine (falseworkref1_parts.calls t111 t122 t123 _ A22.out).mono ?_); rintro e w' ⟨rfl, ⟨nd, rfl⟩⟩; refine ⟨_, rfl, ?_⟩) | ((with_reducible refine gate_callee (f := 29) rfl ?_); refine goesL_ (some 60) rfl rfl Try.func29 (by kernel_rfl) rfl #[.int .u64 t112] rfl (by (try simp only [List.map_toArray, List.map_cons, List.map_nil]); first | done | rfl | (simp only [List.length_drop, List.length_take]; rfl)) ?_; (with_reducible refine (falseworkref1_parts.calls t112 t124 t125 _ A23.out).mono ?_); rintro e w' ⟨rfl, ⟨nd, rfl⟩⟩; refine ⟨_, rfl, ?_⟩) | ((with_reducible refine gate_callee (f := 30) rfl ?_); refine goesL_ (some 67) rfl rfl Try.func30 (by kernel_rfl) rfl #[.int .u64 t125, .int .i64 (wrap64 (t122 - t124))] rfl (by (try simp only [List.map_toArray, List.map_cons, List.map_nil]); first | done | rfl | (simp only [List.length_drop, List.length_take]; rfl)) ?_; (with_reducible refine (falseworkref1_shift.calls k t125 (wrap64 (t122 - t124)) t126 _ A24.out).mono ?_); rintro e w' ⟨rfl, ⟨nd, rfl⟩⟩; refine ⟨_, rfl, ?_⟩) | ((with_reducible refine gate_callee (f := 31) rfl ?_); refine goesL_ (some 85) rfl rfl Try.func31 (by kernel_rfl) rfl #[.int .u64 (Go.bits .and .u64 t111 9223372036854775808), .int .i64 t122, .int .u64 (IntKind.u64.wrap (t123 - t126))] rfl (by (try simp only [List.map_toArray, List.map_cons, List.map_nil]); first | done | rfl | (simp only [List.length_drop, List.length_take]; rfl)) ?_; (with_reducible refine (falseworkref1_pack.calls k (Go.bits .and .u64 t111 9223372036854775808) t122 (IntKind.u64.wrap (t123 - t126)) t129 _ A30.out).mono ?_); rintro e w' ⟨rfl, ⟨nd, rfl⟩⟩; refine ⟨_, rfl, ?_⟩) | ((with_reducible refine gate_callee (f := 13) rfl ?_); refine goesL_ (some 86) rfl rfl Try.func13 (by kernel_rfl) rfl #[.int .u64 t129] rfl (by (try simp only [List.map_toArray, List.map_cons, List.map_nil]); first | done | rfl | (simp only [List.length_drop, List.length_take]; rfl)) ?_; (with_reducible refine (falseworkref1_Canon.calls t129 t130 _ A31.out).mono ?_); rintro e w' ⟨rfl, ⟨nd, rfl⟩⟩; refine ⟨_, rfl, ?_⟩))
                go_ret
                exact ⟨by first | rfl | (simp; done) | (simp [*]; done), by repeat (first | exact Drawn0.refl _ | apply Drawn0.step)⟩

/-! ### falseworklaw1_FloSums: function 4 -/
def falseworklaw1_FloSums.f (k : Nat) (a0 : Int) (a1 : Int) : Option (Bool) := (flo_Sum.f a0 a1).bind fun t131 => ((falseworkref1_Sum.f k a0 a1).bind fun t132 => (if t131 = t132 then ((flo_Sum.f a1 a0).bind fun t133 => ((falseworkref1_Sum.f k a0 a1).bind fun t134 => (if t133 = t134 then ((falseworklaw1_awake.f).bind fun t135 => (some t135)) else (some false)))) else (some false)))
theorem falseworklaw1_FloSums.mono : ∀ a0 a1 k, LeO (falseworklaw1_FloSums.f k a0 a1) (falseworklaw1_FloSums.f (k + 1) a0 a1) := by
  intro a0 a1 k
  unfold falseworklaw1_FloSums.f
  repeat' first
      | (with_reducible exact falseworkref1_Sum.mono _ _ _)
      | (with_reducible exact LeO.refl _)
      | (with_reducible exact LeO.none _)
      | (with_reducible refine LeO.ite ?_ ?_)
      | (with_reducible refine LeO.bind ?_ (fun _ => ?_))
      | exact falseworkref1_Sum.mono _ _ _
      | exact LeO.none _
      | refine LeO.ite ?_ ?_
      | refine LeO.bind ?_ (fun _ => ?_)
set_option maxHeartbeats 8000000 in
set_option maxRecDepth 100000 in
theorem falseworklaw1_FloSums.calls (k : Nat) (a0 : Int) (a1 : Int) (r : Bool) (w : World) (h : falseworklaw1_FloSums.f k a0 a1 = some r) :
    Calls Try.prog 4 #[.int .u64 a0, .int .u64 a1] w fun e w' => e = .returned (.bool r) ∧ Drawn0 w w' := by
  have H : ((flo_Sum.f a0 a1).bind fun t131 => ((falseworkref1_Sum.f k a0 a1).bind fun t132 => (if t131 = t132 then ((flo_Sum.f a1 a0).bind fun t133 => ((falseworkref1_Sum.f k a0 a1).bind fun t134 => (if t133 = t134 then ((falseworklaw1_awake.f).bind fun t135 => (some t135)) else (some false)))) else (some false)))) = some r := h
  clear h
  replace H := Option.bind_eq_some_iff.mp H
  obtain ⟨t131, A30, H⟩ := H
  replace H : ((falseworkref1_Sum.f k a0 a1).bind fun t132 => (if t131 = t132 then ((flo_Sum.f a1 a0).bind fun t133 => ((falseworkref1_Sum.f k a0 a1).bind fun t134 => (if t133 = t134 then ((falseworklaw1_awake.f).bind fun t135 => (some t135)) else (some false)))) else (some false))) = some r := H
  have A3 := Aside0.mk A30
  clear A30
  replace H := Option.bind_eq_some_iff.mp H
  obtain ⟨t132, A40, H⟩ := H
  replace H : (if t131 = t132 then ((flo_Sum.f a1 a0).bind fun t133 => ((falseworkref1_Sum.f k a0 a1).bind fun t134 => (if t133 = t134 then ((falseworklaw1_awake.f).bind fun t135 => (some t135)) else (some false)))) else (some false)) = some r := H
  have A4 := Aside0.mk A40
  clear A40
  by_cases c5 : t131 = t132
  · rw [if_pos c5] at H
    have c5b0 : (t131 == t132) = true := beq_iff_eq.mpr c5
    have c5b1 : (t131 != t132) = false := bne_eq_false_iff_eq.mpr c5
    clear c5
    replace H := Option.bind_eq_some_iff.mp H
    obtain ⟨t133, A60, H⟩ := H
    replace H : ((falseworkref1_Sum.f k a0 a1).bind fun t134 => (if t133 = t134 then ((falseworklaw1_awake.f).bind fun t135 => (some t135)) else (some false))) = some r := H
    have A6 := Aside0.mk A60
    clear A60
    replace H := Option.bind_eq_some_iff.mp H
    obtain ⟨t134, A70, H⟩ := H
    replace H : (if t133 = t134 then ((falseworklaw1_awake.f).bind fun t135 => (some t135)) else (some false)) = some r := H
    have A7 := Aside0.mk A70
    clear A70
    by_cases c8 : t133 = t134
    · rw [if_pos c8] at H
      have c8b0 : (t133 == t134) = true := beq_iff_eq.mpr c8
      have c8b1 : (t133 != t134) = false := bne_eq_false_iff_eq.mpr c8
      clear c8
      replace H := Option.bind_eq_some_iff.mp H
      obtain ⟨t135, A90, H⟩ := H
      replace H : (some t135) = some r := H
      have A9 := Aside0.mk A90
      clear A90
      obtain rfl := Option.some.inj H
      go_enter Try.func4, Try.ntmps4
      go_wp2_with (first | ((with_reducible refine gate_callee (f := 15) rfl ?_); refine goesL_ (some 7) rfl rfl Try.func15 (by kernel_rfl) rfl #[.int .u64 a0, .int .u64 a1] rfl (by (try simp only [List.map_toArray, List.map_cons, List.map_nil]); first | done | rfl | (simp only [List.length_drop, List.length_take]; rfl)) ?_; (with_reducible refine (flo_Sum.calls a0 a1 t131 _ A3.out).mono ?_); rintro e w' ⟨rfl, ⟨nd, rfl⟩⟩; refine ⟨_, rfl, ?_⟩) | ((with_reducible refine gate_callee (f := 16) rfl ?_); refine goesL_ (some 10) rfl rfl Try.func16 (by kernel_rfl) rfl #[.int .u64 a0, .int .u64 a1] rfl (by (try simp only [List.map_toArray, List.map_cons, List.map_nil]); first | done | rfl | (simp only [List.length_drop, List.length_take]; rfl)) ?_; (with_reducible refine (falseworkref1_Sum.calls k a0 a1 t132 _ A4.out).mono ?_); rintro e w' ⟨rfl, ⟨nd, rfl⟩⟩; refine ⟨_, rfl, ?_⟩) | (go_at_call 15; (with_reducible refine (flo_Sum.calls a1 a0 t133 _ A6.out).mono ?_); rintro e w' ⟨rfl, ⟨nd, rfl⟩⟩) | (go_at_call 16; (with_reducible refine (falseworkref1_Sum.calls k a0 a1 t134 _ A7.out).mono ?_); rintro e w' ⟨rfl, ⟨nd, rfl⟩⟩) | (go_at_call 14; (with_reducible refine (falseworklaw1_awake.calls  t135 _ A9.out).mono ?_); rintro e w' ⟨rfl, ⟨nd, rfl⟩⟩))
      go_ret
      exact ⟨by first | rfl | (simp; done) | (simp [*]; done), by repeat (first | exact Drawn0.refl _ | apply Drawn0.step)⟩
    · rw [if_neg c8] at H
      have c8b0 : (t133 == t134) = false := beq_eq_false_iff_ne.mpr c8
      have c8b1 : (t133 != t134) = true := bne_iff_ne.mpr c8
      obtain rfl := Option.some.inj H
      go_enter Try.func4, Try.ntmps4
      go_wp2_with (first | ((with_reducible refine gate_callee (f := 15) rfl ?_); refine goesL_ (some 7) rfl rfl Try.func15 (by kernel_rfl) rfl #[.int .u64 a0, .int .u64 a1] rfl (by (try simp only [List.map_toArray, List.map_cons, List.map_nil]); first | done | rfl | (simp only [List.length_drop, List.length_take]; rfl)) ?_; (with_reducible refine (flo_Sum.calls a0 a1 t131 _ A3.out).mono ?_); rintro e w' ⟨rfl, ⟨nd, rfl⟩⟩; refine ⟨_, rfl, ?_⟩) | ((with_reducible refine gate_callee (f := 16) rfl ?_); refine goesL_ (some 10) rfl rfl Try.func16 (by kernel_rfl) rfl #[.int .u64 a0, .int .u64 a1] rfl (by (try simp only [List.map_toArray, List.map_cons, List.map_nil]); first | done | rfl | (simp only [List.length_drop, List.length_take]; rfl)) ?_; (with_reducible refine (falseworkref1_Sum.calls k a0 a1 t132 _ A4.out).mono ?_); rintro e w' ⟨rfl, ⟨nd, rfl⟩⟩; refine ⟨_, rfl, ?_⟩) | (go_at_call 15; (with_reducible refine (flo_Sum.calls a1 a0 t133 _ A6.out).mono ?_); rintro e w' ⟨rfl, ⟨nd, rfl⟩⟩) | (go_at_call 16; (with_reducible refine (falseworkref1_Sum.calls k a0 a1 t134 _ A7.out).mono ?_); rintro e w' ⟨rfl, ⟨nd, rfl⟩⟩))
      go_ret
      exact ⟨by first | rfl | (simp; done) | (simp [*]; done), by repeat (first | exact Drawn0.refl _ | apply Drawn0.step)⟩
  · rw [if_neg c5] at H
    have c5b0 : (t131 == t132) = false := beq_eq_false_iff_ne.mpr c5
    have c5b1 : (t131 != t132) = true := bne_iff_ne.mpr c5
    obtain rfl := Option.some.inj H
    go_enter Try.func4, Try.ntmps4
    go_wp2_with (first | ((with_reducible refine gate_callee (f := 15) rfl ?_); refine goesL_ (some 7) rfl rfl Try.func15 (by kernel_rfl) rfl #[.int .u64 a0, .int .u64 a1] rfl (by (try simp only [List.map_toArray, List.map_cons, List.map_nil]); first | done | rfl | (simp only [List.length_drop, List.length_take]; rfl)) ?_; (with_reducible refine (flo_Sum.calls a0 a1 t131 _ A3.out).mono ?_); rintro e w' ⟨rfl, ⟨nd, rfl⟩⟩; refine ⟨_, rfl, ?_⟩) | ((with_reducible refine gate_callee (f := 16) rfl ?_); refine goesL_ (some 10) rfl rfl Try.func16 (by kernel_rfl) rfl #[.int .u64 a0, .int .u64 a1] rfl (by (try simp only [List.map_toArray, List.map_cons, List.map_nil]); first | done | rfl | (simp only [List.length_drop, List.length_take]; rfl)) ?_; (with_reducible refine (falseworkref1_Sum.calls k a0 a1 t132 _ A4.out).mono ?_); rintro e w' ⟨rfl, ⟨nd, rfl⟩⟩; refine ⟨_, rfl, ?_⟩))
    go_ret
    exact ⟨by first | rfl | (simp; done) | (simp [*]; done), by repeat (first | exact Drawn0.refl _ | apply Drawn0.step)⟩

/-- THE ONE PURE STATEMENT of falseworklaw1_FloSums: yours. -/
def falseworklaw1_FloSums.Pure : Prop := ∀ (a0 : Int) (a1 : Int), (Lit.int .u64 a0).wf = true → (Lit.int .u64 a1).wf = true → ∃ k, falseworklaw1_FloSums.f k a0 a1 = some true
theorem falseworklaw1_FloSums.walk (P : falseworklaw1_FloSums.Pure) (a0 : Int) (a1 : Int) (w : World) (w0 : (Lit.int .u64 a0).wf = true) (w1 : (Lit.int .u64 a1).wf = true) :
    Calls Try.prog 4 #[.int .u64 a0, .int .u64 a1] w fun e w' => e = .returned (.bool true) ∧ Below w.heap.size w w' := by
  obtain ⟨k, h⟩ := P a0 a1 w0 w1
  refine (falseworklaw1_FloSums.calls k a0 a1 true w h).mono ?_
  rintro e w' ⟨rfl, hd⟩
  exact ⟨rfl, hd.below⟩

end Go.Proofs.Ytijdengicjjebaa.PA
