/- Contracts of the Go functions of this seat: what each call returns is what a Lean function of its arguments says; each theorem bears its own conditions. Written by a program of this session (wip/tools/mkprint.py). -/
import Derived.Test.YtjdgmbikaholoaaPAx0
import Derived.Test.YtjdgmbikaholoaaPAx1
import Derived.Test.YtjdgmbikaholoaaPAx2
import Derived.Test.YtjdgmbikaholoaaPAx3
namespace Go.Proofs.Ytjdgmbikaholoaa.PA
open Go.RowKit Go.Proofs.YtjdgmbikaholoaaW.PrintWords Go.Proofs.YtjdgmbikaholoaaW.PrintLast Go.Proofs.YtjdgmbikaholoaaW.PrintMore
attribute [local go_sem] max2_int min2_int max_two min_two max_three min_three max_four min_four   -- for this text's walks alone
set_option linter.unusedVariables false
set_option linter.unusedSimpArgs false

attribute [local go_sem ↓ high] unary_xor_u32 ux_if_u32
attribute [local go_sem] str_gtr str_leq str_geq
/-! ### falseworklaw5_SealBack: function 6 -/
def falseworklaw5_SealBack.f (k : Nat) (a0 : ByteArray) : Option (Bool) := if (a0.size : Int) > 20000 then ((falseworklaw5_awake.f k).bind fun t125 => (some t125)) else ((seal_Put.f k a0).bind fun t126 => ((seal_Get.f k t126).bind fun bt127 => ((falseworklaw5_num.f bt127.2).bind fun t129 => (if t129 = 0 then (if bt127.1.toList = a0.toList then ((seal_Put.f k a0).bind fun t130 => (if (t130.size : Int) = (wrap64 ((a0.size : Int) + 4)) then ((falseworklaw5_awake.f k).bind fun t131 => (some t131)) else (some false))) else (some false)) else (some false)))))
theorem falseworklaw5_SealBack.mono : ∀ a0 k, LeO (falseworklaw5_SealBack.f k a0) (falseworklaw5_SealBack.f (k + 1) a0) := by
  intro a0 k
  unfold falseworklaw5_SealBack.f
  repeat' first
      | (with_reducible exact falseworklaw5_awake.mono _)
      | (with_reducible exact seal_Get.mono _ _)
      | (with_reducible exact seal_Put.mono _ _)
      | (with_reducible exact LeO.refl _)
      | (with_reducible exact LeO.none _)
      | (with_reducible refine LeO.ite ?_ ?_)
      | (with_reducible refine LeO.bind ?_ (fun _ => ?_))
      | exact falseworklaw5_awake.mono _
      | exact seal_Get.mono _ _
      | exact seal_Put.mono _ _
      | exact LeO.none _
      | refine LeO.ite ?_ ?_
      | refine LeO.bind ?_ (fun _ => ?_)
set_option maxHeartbeats 8000000 in
set_option maxRecDepth 100000 in
theorem falseworklaw5_SealBack.calls (k : Nat) (a0 : ByteArray) (r : Bool) (w : World) (h : falseworklaw5_SealBack.f k a0 = some r) :
    Calls Try.prog 6 #[.string a0] w fun e w' => e = .returned (.bool r) ∧ Below w.heap.size w w' := by
  have HB := Aside0.mk (Below.refl w.heap.size w)
  have H : (if (a0.size : Int) > 20000 then ((falseworklaw5_awake.f k).bind fun t125 => (some t125)) else ((seal_Put.f k a0).bind fun t126 => ((seal_Get.f k t126).bind fun bt127 => ((falseworklaw5_num.f bt127.2).bind fun t129 => (if t129 = 0 then (if bt127.1.toList = a0.toList then ((seal_Put.f k a0).bind fun t130 => (if (t130.size : Int) = (wrap64 ((a0.size : Int) + 4)) then ((falseworklaw5_awake.f k).bind fun t131 => (some t131)) else (some false))) else (some false)) else (some false)))))) = some r := h
  clear h
  by_cases c2 : (a0.size : Int) > 20000
  · rw [if_pos c2] at H
    have c2b0 : decide (20000 < (a0.size : Int)) = true := decide_eq_true c2
    have c2b1 : decide (20000 < a0.size) = true := decide_eq_true (by omega)
    clear c2
    replace H := Option.bind_eq_some_iff.mp H
    obtain ⟨t125, A30, H⟩ := H
    replace H : (some t125) = some r := H
    have A3 := Aside0.mk A30
    clear A30
    obtain rfl := Option.some.inj H
    go_enter Try.func6, Try.ntmps6
    go_wp2_with (first | ((with_reducible refine gate_callee (f := 10) rfl ?_); refine goesL_ (some 8) rfl rfl Try.func10 (by kernel_rfl) rfl #[] rfl (by (try simp only [List.map_toArray, List.map_cons, List.map_nil]); first | done | rfl | (simp only [List.length_drop, List.length_take]; rfl)) ?_; (with_reducible refine (falseworklaw5_awake.calls k  t125 _ A3.out).mono ?_); rintro e w' ⟨rfl, ⟨nd, rfl⟩⟩; refine ⟨_, rfl, ?_⟩))
    go_ret
    exact ⟨by first | rfl | (simp [errW_none, errW_some] <;> rfl) | (simp [*, errW_none, errW_some] <;> rfl), by repeat (first | (with_reducible first | exact HB.out | apply below_alloc | apply pw_below_drewN | apply below_drew1) | exact HB.out)⟩
  · rw [if_neg c2] at H
    have c2b0 : decide (20000 < (a0.size : Int)) = false := decide_eq_false c2
    have c2b1 : decide (20000 < a0.size) = false := decide_eq_false (by omega)
    clear c2
    replace H := Option.bind_eq_some_iff.mp H
    obtain ⟨t126, A40, H⟩ := H
    replace H : ((seal_Get.f k t126).bind fun bt127 => ((falseworklaw5_num.f bt127.2).bind fun t129 => (if t129 = 0 then (if bt127.1.toList = a0.toList then ((seal_Put.f k a0).bind fun t130 => (if (t130.size : Int) = (wrap64 ((a0.size : Int) + 4)) then ((falseworklaw5_awake.f k).bind fun t131 => (some t131)) else (some false))) else (some false)) else (some false)))) = some r := H
    have A4 := Aside0.mk A40
    clear A40
    replace H := Option.bind_eq_some_iff.mp H
    obtain ⟨⟨t127, t128⟩, A50, H⟩ := H
    replace H : ((falseworklaw5_num.f t128).bind fun t129 => (if t129 = 0 then (if t127.toList = a0.toList then ((seal_Put.f k a0).bind fun t130 => (if (t130.size : Int) = (wrap64 ((a0.size : Int) + 4)) then ((falseworklaw5_awake.f k).bind fun t131 => (some t131)) else (some false))) else (some false)) else (some false))) = some r := H
    have A5 := Aside0.mk A50
    clear A50
    replace H := Option.bind_eq_some_iff.mp H
    obtain ⟨t129, A60, H⟩ := H
    replace H : (if t129 = 0 then (if t127.toList = a0.toList then ((seal_Put.f k a0).bind fun t130 => (if (t130.size : Int) = (wrap64 ((a0.size : Int) + 4)) then ((falseworklaw5_awake.f k).bind fun t131 => (some t131)) else (some false))) else (some false)) else (some false)) = some r := H
    have A6 := Aside0.mk A60
    clear A60
    by_cases c7 : t129 = 0
    · rw [if_pos c7] at H
      have c7b0 : (t129 == 0) = true := beq_iff_eq.mpr c7
      have c7b1 : (t129 != 0) = false := bne_eq_false_iff_eq.mpr c7
      clear c7
      by_cases c8 : t127.toList = a0.toList
      · rw [if_pos c8] at H
        have c8b0 : (t127.toList == a0.toList) = true := beq_iff_eq.mpr c8
        have c8b1 : (t127.toList != a0.toList) = false := bne_eq_false_iff_eq.mpr c8
        clear c8
        replace H := Option.bind_eq_some_iff.mp H
        obtain ⟨t130, A90, H⟩ := H
        replace H : (if (t130.size : Int) = (wrap64 ((a0.size : Int) + 4)) then ((falseworklaw5_awake.f k).bind fun t131 => (some t131)) else (some false)) = some r := H
        have A9 := Aside0.mk A90
        clear A90
        by_cases c10 : (t130.size : Int) = (wrap64 ((a0.size : Int) + 4))
        · rw [if_pos c10] at H
          have c10b0 : ((t130.size : Int) == (wrap64 ((a0.size : Int) + 4))) = true := beq_iff_eq.mpr c10
          have c10b1 : ((t130.size : Int) != (wrap64 ((a0.size : Int) + 4))) = false := bne_eq_false_iff_eq.mpr c10
          clear c10
          replace H := Option.bind_eq_some_iff.mp H
          obtain ⟨t131, A110, H⟩ := H
          replace H : (some t131) = some r := H
          have A11 := Aside0.mk A110
          clear A110
          obtain rfl := Option.some.inj H
          go_enter Try.func6, Try.ntmps6
          go_wp2_with (first | ((with_reducible refine gate_callee (f := 13) rfl ?_); refine goesL_ (some 11) rfl rfl Try.func13 (by kernel_rfl) rfl #[.string a0] rfl (by (try simp only [List.map_toArray, List.map_cons, List.map_nil]); first | done | rfl | (simp only [List.length_drop, List.length_take]; rfl)) ?_; (with_reducible refine (seal_Put.calls k a0 t126 _ A4.out).mono ?_); rintro e w12 ⟨rfl, hb⟩; refine ⟨_, rfl, ?_⟩; have n0_ := Aside0.mk (below_step (by repeat (first | (with_reducible first | exact HB.out | apply below_alloc | apply pw_below_drewN | apply below_drew1) | exact HB.out)) hb); clear HB; have HB := n0_; clear n0_; (try clear hb); (try clear hb2); (try clear hk); (try clear hi)) | ((with_reducible refine gate_callee (f := 11) rfl ?_); refine goesL_ (some 12) rfl rfl Try.func11 (by kernel_rfl) rfl #[.string t126] rfl (by (try simp only [List.map_toArray, List.map_cons, List.map_nil]); first | done | rfl | (simp only [List.length_drop, List.length_take]; rfl)) ?_; (with_reducible refine (seal_Get.calls k t126 t127 t128 _ A5.out).mono ?_); rintro e w13 ⟨rfl, hb⟩; refine ⟨_, rfl, ?_⟩; have n0_ := Aside0.mk (below_step (by repeat (first | (with_reducible first | exact HB.out | apply below_alloc | apply pw_below_drewN | apply below_drew1) | exact HB.out)) hb); clear HB; have HB := n0_; clear n0_; (try clear hb); (try clear hb2); (try clear hk); (try clear hi)) | ((with_reducible refine gate_callee (f := 15) rfl ?_); refine goesL_ (some 16) rfl rfl Try.func15 (by kernel_rfl) rfl #[.int .i64 t128] rfl (by (try simp only [List.map_toArray, List.map_cons, List.map_nil]); first | done | rfl | (simp only [List.length_drop, List.length_take]; rfl)) ?_; (with_reducible refine (falseworklaw5_num.calls t128 t129 _ A6.out).mono ?_); rintro e w' ⟨rfl, ⟨nd, rfl⟩⟩; refine ⟨_, rfl, ?_⟩) | (go_at_call 13; (with_reducible refine (seal_Put.calls k a0 t130 _ A9.out).mono ?_); rintro e w14 ⟨rfl, hb⟩; have n0_ := Aside0.mk (below_step (by repeat (first | (with_reducible first | exact HB.out | apply below_alloc | apply pw_below_drewN | apply below_drew1) | exact HB.out)) hb); clear HB; have HB := n0_; clear n0_; (try clear hb); (try clear hb2); (try clear hk); (try clear hi)) | (go_at_call 10; (with_reducible refine (falseworklaw5_awake.calls k  t131 _ A11.out).mono ?_); rintro e w' ⟨rfl, ⟨nd, rfl⟩⟩))
          go_ret
          exact ⟨by first | rfl | (simp [errW_none, errW_some] <;> rfl) | (simp [*, errW_none, errW_some] <;> rfl), by repeat (first | (with_reducible first | exact HB.out | apply below_alloc | apply pw_below_drewN | apply below_drew1) | exact HB.out)⟩
        · rw [if_neg c10] at H
          have c10b0 : ((t130.size : Int) == (wrap64 ((a0.size : Int) + 4))) = false := beq_eq_false_iff_ne.mpr c10
          have c10b1 : ((t130.size : Int) != (wrap64 ((a0.size : Int) + 4))) = true := bne_iff_ne.mpr c10
          obtain rfl := Option.some.inj H
          go_enter Try.func6, Try.ntmps6
          go_wp2_with (first | ((with_reducible refine gate_callee (f := 13) rfl ?_); refine goesL_ (some 11) rfl rfl Try.func13 (by kernel_rfl) rfl #[.string a0] rfl (by (try simp only [List.map_toArray, List.map_cons, List.map_nil]); first | done | rfl | (simp only [List.length_drop, List.length_take]; rfl)) ?_; (with_reducible refine (seal_Put.calls k a0 t126 _ A4.out).mono ?_); rintro e w15 ⟨rfl, hb⟩; refine ⟨_, rfl, ?_⟩; have n0_ := Aside0.mk (below_step (by repeat (first | (with_reducible first | exact HB.out | apply below_alloc | apply pw_below_drewN | apply below_drew1) | exact HB.out)) hb); clear HB; have HB := n0_; clear n0_; (try clear hb); (try clear hb2); (try clear hk); (try clear hi)) | ((with_reducible refine gate_callee (f := 11) rfl ?_); refine goesL_ (some 12) rfl rfl Try.func11 (by kernel_rfl) rfl #[.string t126] rfl (by (try simp only [List.map_toArray, List.map_cons, List.map_nil]); first | done | rfl | (simp only [List.length_drop, List.length_take]; rfl)) ?_; (with_reducible refine (seal_Get.calls k t126 t127 t128 _ A5.out).mono ?_); rintro e w16 ⟨rfl, hb⟩; refine ⟨_, rfl, ?_⟩; have n0_ := Aside0.mk (below_step (by repeat (first | (with_reducible first | exact HB.out | apply below_alloc | apply pw_below_drewN | apply below_drew1) | exact HB.out)) hb); clear HB; have HB := n0_; clear n0_; (try clear hb); (try clear hb2); (try clear hk); (try clear hi)) | ((with_reducible refine gate_callee (f := 15) rfl ?_); refine goesL_ (some 16) rfl rfl Try.func15 (by kernel_rfl) rfl #[.int .i64 t128] rfl (by (try simp only [List.map_toArray, List.map_cons, List.map_nil]); first | done | rfl | (simp only [List.length_drop, List.length_take]; rfl)) ?_; (with_reducible refine (falseworklaw5_num.calls t128 t129 _ A6.out).mono ?_); rintro e w' ⟨rfl, ⟨nd, rfl⟩⟩; refine ⟨_, rfl, ?_⟩) | (go_at_call 13; (with_reducible refine (seal_Put.calls k a0 t130 _ A9.out).mono ?_); rintro e w17 ⟨rfl, hb⟩; have n0_ := Aside0.mk (below_step (by repeat (first | (with_reducible first | exact HB.out | apply below_alloc | apply pw_below_drewN | apply below_drew1) | exact HB.out)) hb); clear HB; have HB := n0_; clear n0_; (try clear hb); (try clear hb2); (try clear hk); (try clear hi)))
          go_ret
          exact ⟨by first | rfl | (simp [errW_none, errW_some] <;> rfl) | (simp [*, errW_none, errW_some] <;> rfl), by repeat (first | (with_reducible first | exact HB.out | apply below_alloc | apply pw_below_drewN | apply below_drew1) | exact HB.out)⟩
      · rw [if_neg c8] at H
        have c8b0 : (t127.toList == a0.toList) = false := beq_eq_false_iff_ne.mpr c8
        have c8b1 : (t127.toList != a0.toList) = true := bne_iff_ne.mpr c8
        obtain rfl := Option.some.inj H
        go_enter Try.func6, Try.ntmps6
        go_wp2_with (first | ((with_reducible refine gate_callee (f := 13) rfl ?_); refine goesL_ (some 11) rfl rfl Try.func13 (by kernel_rfl) rfl #[.string a0] rfl (by (try simp only [List.map_toArray, List.map_cons, List.map_nil]); first | done | rfl | (simp only [List.length_drop, List.length_take]; rfl)) ?_; (with_reducible refine (seal_Put.calls k a0 t126 _ A4.out).mono ?_); rintro e w18 ⟨rfl, hb⟩; refine ⟨_, rfl, ?_⟩; have n0_ := Aside0.mk (below_step (by repeat (first | (with_reducible first | exact HB.out | apply below_alloc | apply pw_below_drewN | apply below_drew1) | exact HB.out)) hb); clear HB; have HB := n0_; clear n0_; (try clear hb); (try clear hb2); (try clear hk); (try clear hi)) | ((with_reducible refine gate_callee (f := 11) rfl ?_); refine goesL_ (some 12) rfl rfl Try.func11 (by kernel_rfl) rfl #[.string t126] rfl (by (try simp only [List.map_toArray, List.map_cons, List.map_nil]); first | done | rfl | (simp only [List.length_drop, List.length_take]; rfl)) ?_; (with_reducible refine (seal_Get.calls k t126 t127 t128 _ A5.out).mono ?_); rintro e w19 ⟨rfl, hb⟩; refine ⟨_, rfl, ?_⟩; have n0_ := Aside0.mk (below_step (by repeat (first | (with_reducible first | exact HB.out | apply below_alloc | apply pw_below_drewN | apply below_drew1) | exact HB.out)) hb); clear HB; have HB := n0_; clear n0_; (try clear hb); (try clear hb2); (try clear hk); (try clear hi)) | ((with_reducible refine gate_callee (f := 15) rfl ?_); refine goesL_ (some 16) rfl rfl Try.func15 (by kernel_rfl) rfl #[.int .i64 t128] rfl (by (try simp only [List.map_toArray, List.map_cons, List.map_nil]); first | done | rfl | (simp only [List.length_drop, List.length_take]; rfl)) ?_; (with_reducible refine (falseworklaw5_num.calls t128 t129 _ A6.out).mono ?_); rintro e w' ⟨rfl, ⟨nd, rfl⟩⟩; refine ⟨_, rfl, ?_⟩))
        go_ret
        exact ⟨by first | rfl | (simp [errW_none, errW_some] <;> rfl) | (simp [*, errW_none, errW_some] <;> rfl), by repeat (first | (with_reducible first | exact HB.out | apply below_alloc | apply pw_below_drewN | apply below_drew1) | exact HB.out)⟩
    · rw [if_neg c7] at H
      have c7b0 : (t129 == 0) = false := beq_eq_false_iff_ne.mpr c7
      have c7b1 : (t129 != 0) = true := bne_iff_ne.mpr c7
      obtain rfl := Option.some.inj H
      go_enter Try.func6, Try.ntmps6
      go_wp2_with (first | ((with_reducible refine gate_callee (f := 13) rfl ?_); refine goesL_ (some 11) rfl rfl Try.func13 (by kernel_rfl) rfl #[.string a0] rfl (by (try simp only [List.map_toArray, List.map_cons, List.map_nil]); first | done | rfl | (simp only [List.length_drop, List.length_take]; rfl)) ?_; (with_reducible refine (seal_Put.calls k a0 t126 _ A4.out).mono ?_); rintro e w20 ⟨rfl, hb⟩; refine ⟨_, rfl, ?_⟩; have n0_ := Aside0.mk (below_step (by repeat (first | (with_reducible first | exact HB.out | apply below_alloc | apply pw_below_drewN | apply below_drew1) | exact HB.out)) hb); clear HB; have HB := n0_; clear n0_; (try clear hb); (try clear hb2); (try clear hk); (try clear hi)) | ((with_reducible refine gate_callee (f := 11) rfl ?_); refine goesL_ (some 12) rfl rfl Try.func11 (by kernel_rfl) rfl #[.string t126] rfl (by (try simp only [List.map_toArray, List.map_cons, List.map_nil]); first | done | rfl | (simp only [List.length_drop, List.length_take]; rfl)) ?_; (with_reducible refine (seal_Get.calls k t126 t127 t128 _ A5.out).mono ?_); rintro e w21 ⟨rfl, hb⟩; refine ⟨_, rfl, ?_⟩; have n0_ := Aside0.mk (below_step (by repeat (first | (with_reducible first | exact HB.out | apply below_alloc | apply pw_below_drewN | apply below_drew1) | exact HB.out)) hb); clear HB; have HB := n0_; clear n0_; (try clear hb); (try clear hb2); (try clear hk); (try clear hi)) | ((with_reducible refine gate_callee (f := 15) rfl ?_); refine goesL_ (some 16) rfl rfl Try.func15 (by kernel_rfl) rfl #[.int .i64 t128] rfl (by (try simp only [List.map_toArray, List.map_cons, List.map_nil]); first | done | rfl | (simp only [List.length_drop, List.length_take]; rfl)) ?_; (with_reducible refine (falseworklaw5_num.calls t128 t129 _ A6.out).mono ?_); rintro e w' ⟨rfl, ⟨nd, rfl⟩⟩; refine ⟨_, rfl, ?_⟩))
      go_ret
      exact ⟨by first | rfl | (simp [errW_none, errW_some] <;> rfl) | (simp [*, errW_none, errW_some] <;> rfl), by repeat (first | (with_reducible first | exact HB.out | apply below_alloc | apply pw_below_drewN | apply below_drew1) | exact HB.out)⟩

/-- THE ONE PURE STATEMENT of falseworklaw5_SealBack: yours. -/
def falseworklaw5_SealBack.Pure : Prop := ∀ (a0 : ByteArray), a0.size ≤ 140737488351232 → ∃ k, falseworklaw5_SealBack.f k a0 = some true
theorem falseworklaw5_SealBack.walk (P : falseworklaw5_SealBack.Pure) (a0 : ByteArray) (w : World) (w0 : a0.size ≤ 140737488351232) :
    Calls Try.prog 6 #[.string a0] w fun e w' => e = .returned (.bool true) ∧ Below w.heap.size w w' := by
  obtain ⟨k, h⟩ := P a0 w0
  refine (falseworklaw5_SealBack.calls k a0 true w h).mono ?_
  rintro e w' ⟨rfl, hd⟩
  exact ⟨rfl, hd⟩

/-! ### falseworklaw5_SealTurned: function 7 -/
/-- The byte that is put in. -/
def falseworklaw5_SealTurned.v (p : ByteArray) (m a2 : Int) : Int := Go.bits .xor .u8 (bt p m) (1 + a2 % 255)
def falseworklaw5_SealTurned.f (k : Nat) (a0 : ByteArray) (a1 : Int) (a2 : Int) : Option (Bool) :=
  if (a0.size : Int) > 20000 then falseworklaw5_awake.f k else
  if 0 ≤ a2 then (if a2 ≤ 255 then (seal_Put.f k a0).bind fun p => if 0 < p.size then (if p.size ≤ 1000000 then
  (seal_Get.f k (strOfNums ((bytesOf p).set ((a1 % 18446744073709551616) % (p.size : Int)).toNat (falseworklaw5_SealTurned.v p ((a1 % 18446744073709551616) % (p.size : Int)) a2)))).bind fun q =>
  if q.2 = 3 then (if q.1.toList = [] then falseworklaw5_awake.f k else some false) else some false else none) else none else none) else none
theorem falseworklaw5_SealTurned.mono : ∀ a0 a1 a2 k, LeO (falseworklaw5_SealTurned.f k a0 a1 a2) (falseworklaw5_SealTurned.f (k + 1) a0 a1 a2) := by
  intro a0 a1 a2 k
  unfold falseworklaw5_SealTurned.f
  repeat' first
      | (with_reducible exact falseworklaw5_awake.mono _)
      | (with_reducible exact seal_Put.mono _ _)
      | (with_reducible exact seal_Get.mono _ _)
      | (with_reducible exact LeO.refl _)
      | (with_reducible exact LeO.none _)
      | (with_reducible refine LeO.ite ?_ ?_)
      | (with_reducible refine LeO.bind ?_ (fun _ => ?_))
set_option maxHeartbeats 4000000 in
set_option maxRecDepth 100000 in
theorem falseworklaw5_SealTurned.walk0 (k : Nat) (a0 : ByteArray) (a1 a2 : Int) (r : Bool) (w : World) (c : (a0.size : Int) > 20000) (h : falseworklaw5_awake.f k = some r) :
    Calls Try.prog 7 #[.string a0, .int .i64 a1, .int .u8 a2] w fun e w' => e = .returned (.bool r) ∧ Below w.heap.size w w' := by
  have H := Aside0.mk h
  have cb0 : decide (20000 < (a0.size : Int)) = true := decide_eq_true c
  have cb1 : decide (20000 < a0.size) = true := decide_eq_true (by omega)
  clear h c
  go_enter Try.func7, Try.ntmps7
  go_wp2_with (go_at_call 10; refine (falseworklaw5_awake.calls _ _ _ H.out).mono ?_; rintro e w1 ⟨rfl, hd⟩)
  go_ret
  exact ⟨rfl, hd.below⟩
theorem falseworklaw5_SealTurned.lens (xs : List Int) (i v : Int) (p : ByteArray) (h : xs = bytesOf p) : (xs.set i.toNat v).length = p.size := by rw [h, List.length_set, bytesOf_length]
/-- The world behind the store. -/
def falseworklaw5_SealTurned.W2 (w1 : World) (p : ByteArray) (m v : Int) : World := (Lib.bytesWorld w1 5 p).setCell ⟨w1.heap.size, m.toNat, none⟩ (.int .u8 v)
set_option maxHeartbeats 4000000 in
set_option maxRecDepth 100000 in
theorem falseworklaw5_SealTurned.walk1 (k : Nat) (a0 p t S : ByteArray) (a1 a2 n m e5 v : Int) (r : Bool) (w : World) (c : ¬ (a0.size : Int) > 20000) (h1 : seal_Put.f k a0 = some p) (hn : (p.size : Int) = n) (hn0 : 0 < n) (hnm : n ≤ 1000000) (ha0 : 0 ≤ a2) (ha1 : a2 ≤ 255)
    (hm : wrap64 ((IntKind.u64.wrap a1).tmod n) = m) (hm0 : 0 ≤ m) (hm1 : m < n) (hv : Go.bits .xor .u8 (bt p m) (1 + a2 % 255) = v) (hS : strOfNums ((bytesOf p).set m.toNat v) = S)
    (h2 : seal_Get.f k S = some (t, e5)) (h3 : (if e5 = 3 then (if t.toList = [] then falseworklaw5_awake.f k else some false) else some false) = some r) :
    Calls Try.prog 7 #[.string a0, .int .i64 a1, .int .u8 a2] w fun e w' => e = .returned (.bool r) ∧ Below w.heap.size w w' := by
  have H1 := Aside0.mk h1
  have H2 := Aside0.mk h2
  have H3 := Aside0.mk h3
  have HS := Aside0.mk hS
  have hn2 : (n == 0) = false := beq_eq_false_iff_ne.mpr (by omega)
  have cb0 : decide (20000 < (a0.size : Int)) = false := decide_eq_false c
  have cb1 : decide (20000 < a0.size) = false := decide_eq_false (by omega)
  have kb := fun (s : ByteArray) (W : World) => print_bytes (P := Try.prog) 9 27 5 Try.underlying9 Try.underlying27 Try.underlying5 s W
  have p6 := eq_true hm0
  have q6 := eq_true hm1
  clear h1 h2 h3 hS c
  have facts : ∀ w1 : World, Below w.heap.size w w1 →
      (Lib.bytesWorld w1 5 p).cell? ⟨w1.heap.size, m.toNat, none⟩ = some (.int .u8 (bt p m)) ∧ (Lib.bytesWorld w1 5 p).frozen? ⟨w1.heap.size, m.toNat, none⟩ = false ∧
      (∀ cap, (convert 27 9 (.slice (some ⟨w1.heap.size, 0, none⟩) p.size cap)).run Try.prog ((Lib.bytesWorld w1 5 p).setCell ⟨w1.heap.size, m.toNat, none⟩ (.int .u8 v)) = .ok (.string S) ((Lib.bytesWorld w1 5 p).setCell ⟨w1.heap.size, m.toNat, none⟩ (.int .u8 v))) ∧
      Aside0 (Below w.heap.size w ((Lib.bytesWorld w1 5 p).setCell ⟨w1.heap.size, m.toNat, none⟩ (.int .u8 v))) := by
    intro w1 hb
    have hM := MRow.new w1 5 p
    have hbl := bytesOf_length p
    obtain ⟨hc, hf⟩ := hM.at_ m hm0 (by omega)
    rw [rd_bytesOf] at hc
    have hM2 := hM.set_ m v hm0 (by omega)
    refine ⟨hc, hf, fun cap => ?_, ⟨below_set (bytes_below hb hb.size _ _) hb.size⟩⟩
    rw [← HS.out]
    exact MRow.str Try.underlying27 Try.underlying5 Try.underlying9 hM2 _ cap (by rw [List.length_set]; exact hbl)
  have FACTS := Aside0.mk facts
  clear facts
  have h3 := H3.out
  by_cases e3 : e5 = 3
  · rw [if_pos e3] at h3
    by_cases tb : t.toList = []
    · rw [if_pos tb] at h3
      have H5 := Aside0.mk h3
      have tb2 : t.toList.isEmpty = true := by rw [tb]; rfl
      have tb3 : t.toList = [] := tb
      have eb : (e5 == 3) = true := beq_iff_eq.mpr e3
      clear h3 e3 H3
      go_enter Try.func7, Try.ntmps7
      go_wp2_with (first
        | (go_at_call 13; refine (seal_Put.calls _ _ _ _ H1.out).mono ?_; rintro e w1 ⟨rfl, hb⟩; obtain ⟨hc, hf, hstr, hB⟩ := FACTS.out w1 hb)
        | (go_at_call 11; refine (seal_Get.calls _ _ _ _ _ H2.out).mono ?_; rintro e w2 ⟨rfl, hb2⟩; replace hB := (Aside0.mk (below_then hB.out hB.out.size hb2)))
        | (go_at_call 15; refine (falseworklaw5_num.calls _ _ _ rfl).mono ?_; rintro e w3 ⟨rfl, hd3⟩; replace hB := (Aside0.mk (below_then hB.out hB.out.size hd3.below)))
        | (go_at_call 10; refine (falseworklaw5_awake.calls _ _ _ H5.out).mono ?_; rintro e w4 ⟨rfl, hd4⟩; replace hB := (Aside0.mk (below_then hB.out hB.out.size hd4.below))))
      go_ret
      exact ⟨rfl, hB.out⟩
    · rw [if_neg tb] at h3
      obtain rfl := Option.some.inj h3
      have tb2 : t.toList.isEmpty = false := by rw [← Bool.not_eq_true]; intro e; exact tb (by simpa using e)
      have eb : (e5 == 3) = true := beq_iff_eq.mpr e3
      clear h3 e3 H3
      go_enter Try.func7, Try.ntmps7
      go_wp2_with (first
        | (go_at_call 13; refine (seal_Put.calls _ _ _ _ H1.out).mono ?_; rintro e w1 ⟨rfl, hb⟩; obtain ⟨hc, hf, hstr, hB⟩ := FACTS.out w1 hb)
        | (go_at_call 11; refine (seal_Get.calls _ _ _ _ _ H2.out).mono ?_; rintro e w2 ⟨rfl, hb2⟩; replace hB := (Aside0.mk (below_then hB.out hB.out.size hb2)))
        | (go_at_call 15; refine (falseworklaw5_num.calls _ _ _ rfl).mono ?_; rintro e w3 ⟨rfl, hd3⟩; replace hB := (Aside0.mk (below_then hB.out hB.out.size hd3.below))))
      go_ret
      exact ⟨rfl, hB.out⟩
  · rw [if_neg e3] at h3
    obtain rfl := Option.some.inj h3
    have eb : (e5 == 3) = false := beq_eq_false_iff_ne.mpr e3
    clear h3 e3 H3
    · go_enter Try.func7, Try.ntmps7
      go_wp2_with (first
        | (go_at_call 13; refine (seal_Put.calls _ _ _ _ H1.out).mono ?_; rintro e w1 ⟨rfl, hb⟩; obtain ⟨hc, hf, hstr, hB⟩ := FACTS.out w1 hb)
        | (go_at_call 11; refine (seal_Get.calls _ _ _ _ _ H2.out).mono ?_; rintro e w2 ⟨rfl, hb2⟩; replace hB := (Aside0.mk (below_then hB.out hB.out.size hb2)))
        | (go_at_call 15; refine (falseworklaw5_num.calls _ _ _ rfl).mono ?_; rintro e w3 ⟨rfl, hd3⟩; replace hB := (Aside0.mk (below_then hB.out hB.out.size hd3.below))))
      go_ret
      exact ⟨rfl, hB.out⟩
theorem falseworklaw5_SealTurned.calls (k : Nat) (a0 : ByteArray) (a1 a2 : Int) (r : Bool) (w : World) (h : falseworklaw5_SealTurned.f k a0 a1 a2 = some r) :
    Calls Try.prog 7 #[.string a0, .int .i64 a1, .int .u8 a2] w fun e w' => e = .returned (.bool r) ∧ Below w.heap.size w w' := by
  unfold falseworklaw5_SealTurned.f at h
  by_cases c : (a0.size : Int) > 20000
  · rw [if_pos c] at h; exact falseworklaw5_SealTurned.walk0 k a0 a1 a2 r w c h
  rw [if_neg c] at h
  by_cases c0 : 0 ≤ a2
  · rw [if_pos c0] at h
    by_cases c1 : a2 ≤ 255
    · rw [if_pos c1] at h
      cases hp : seal_Put.f k a0 with
      | none => rw [hp] at h; cases h
      | some p =>
        rw [hp, Option.bind_some] at h
        by_cases c2 : 0 < p.size
        · rw [if_pos c2] at h
          by_cases c3 : p.size ≤ 1000000
          · rw [if_pos c3] at h
            have hx0 := Int.emod_nonneg (a1 % 18446744073709551616) (show (p.size : Int) ≠ 0 by omega)
            have hx1 := Int.emod_lt_of_pos (a1 % 18446744073709551616) (show 0 < (p.size : Int) by omega)
            cases hq : seal_Get.f k (strOfNums ((bytesOf p).set ((a1 % 18446744073709551616) % (p.size : Int)).toNat (falseworklaw5_SealTurned.v p ((a1 % 18446744073709551616) % (p.size : Int)) a2))) with
            | none => rw [hq] at h; cases h
            | some q =>
              rw [hq, Option.bind_some] at h
              refine falseworklaw5_SealTurned.walk1 k a0 p q.1 _ a1 a2 (p.size : Int) ((a1 % 18446744073709551616) % (p.size : Int)) q.2 _ r w c hp rfl (by omega) (by omega) c0 c1 ?_ hx0 hx1 rfl rfl hq h
              have hu : IntKind.u64.wrap a1 = a1 % 18446744073709551616 := by simp [IntKind.wrap, IntKind.bits, IntKind.signed]
              rw [hu, Int.tmod_eq_emod_of_nonneg (Int.emod_nonneg _ (by decide))]
              unfold wrap64; omega
          · rw [if_neg c3] at h; cases h
        · rw [if_neg c2] at h; cases h
    · rw [if_neg c1] at h; cases h
  · rw [if_neg c0] at h; cases h

end Go.Proofs.Ytjdgmbikaholoaa.PA
