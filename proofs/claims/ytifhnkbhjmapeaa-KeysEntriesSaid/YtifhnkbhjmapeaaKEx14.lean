/- Contracts of the Go functions of this seat: what each call returns is what a Lean function of its arguments says; each theorem bears its own conditions. Written by a program of this session (wip/tools/mkprint.py). -/
import Derived.Test.YtifhnkbhjmapeaaKEx0
import Derived.Test.YtifhnkbhjmapeaaKEx4
import Derived.Test.YtifhnkbhjmapeaaKEx11
import Derived.Test.YtifhnkbhjmapeaaKEx13
namespace Go.Proofs.Ytifhnkbhjmapeaa.PA
open Go.RowKit Go.Proofs.YtifhnkbhjmapeaaW.PrintWords Go.Proofs.YtifhnkbhjmapeaaW.PrintLast Go.Proofs.YtifhnkbhjmapeaaW.PrintMore
attribute [local go_sem] max2_int min2_int max_two min_two max_three min_three max_four min_four   -- for this text's walks alone
set_option linter.unusedVariables false
set_option linter.unusedSimpArgs false

attribute [local go_sem ↓ high] unary_xor_u64 ux_if_u64
attribute [local go_sem] str_gtr str_leq str_geq
/-! ### keys_bounds: function 29 -/
def keys_bounds.f (k : Nat) (a0 : ByteArray) : Option (ByteArray × ByteArray) := (tuple_After.f k a0).bind fun bt250 => (some (a0, bt250.1))
theorem keys_bounds.mono : ∀ a0 k, LeO (keys_bounds.f k a0) (keys_bounds.f (k + 1) a0) := by
  intro a0 k
  unfold keys_bounds.f
  repeat' first
      | (with_reducible exact tuple_After.mono _ _)
      | (with_reducible exact LeO.refl _)
      | (with_reducible exact LeO.none _)
      | (with_reducible refine LeO.ite ?_ ?_)
      | (with_reducible refine LeO.bind ?_ (fun _ => ?_))
      | exact tuple_After.mono _ _
      | exact LeO.none _
      | refine LeO.ite ?_ ?_
      | refine LeO.bind ?_ (fun _ => ?_)
set_option maxHeartbeats 8000000 in
set_option maxRecDepth 100000 in
theorem keys_bounds.calls (k : Nat) (a0 : ByteArray) (r1 : ByteArray) (r2 : ByteArray) (w : World) (h : keys_bounds.f k a0 = some (r1, r2)) :
    Calls Try.prog 29 #[.string a0] w fun e w' => e = .returned (.tuple #[.string r1, .string r2]) ∧ Below w.heap.size w w' := by
  have HB := Aside0.mk (Below.refl w.heap.size w)
  have H : ((tuple_After.f k a0).bind fun bt250 => (some (a0, bt250.1))) = some (r1, r2) := h
  clear h
  replace H := Option.bind_eq_some_iff.mp H
  obtain ⟨⟨t250, t251⟩, A20, H⟩ := H
  replace H : (some (a0, t250)) = some (r1, r2) := H
  have A2 := Aside0.mk A20
  clear A20
  simp only [Option.some.injEq, Prod.mk.injEq] at H
  obtain ⟨rfl, rfl⟩ := H
  go_enter Try.func29, Try.ntmps29
  go_wp2_with (first | ((with_reducible refine gate_callee (f := 38) rfl ?_); refine goesL_ (some 8) rfl rfl Try.func38 (by kernel_rfl) rfl #[.string a0] rfl (by (try simp only [List.map_toArray, List.map_cons, List.map_nil]); first | done | rfl | (simp only [List.length_drop, List.length_take]; rfl)) ?_; (with_reducible refine (tuple_After.calls k a0 t250 t251 _ A2.out).mono ?_); rintro e w3 ⟨rfl, hb⟩; refine ⟨_, rfl, ?_⟩; have n0_ := Aside0.mk (below_step (by repeat (first | (with_reducible first | exact HB.out | apply below_alloc | apply pw_below_drewN | apply below_drew1) | exact HB.out)) hb); clear HB; have HB := n0_; clear n0_; (try clear hb); (try clear hb2); (try clear hk); (try clear hi)))
  go_ret2
  exact ⟨by first | rfl | (simp [errW_none, errW_some] <;> rfl) | (simp [*, errW_none, errW_some] <;> rfl), by repeat (first | (with_reducible first | exact HB.out | apply below_alloc | apply pw_below_drewN | apply below_drew1) | exact HB.out)⟩

/-! ### keys_Entries: function 22 -/
def keys_Entries.f (k : Nat) (a0 : Int) (a1 : Int) (l2 : List (S24)) : Option (ByteArray × ByteArray × Int) := (keys_number.f a0).bind fun bt252 => ((keys_number.f a1).bind fun bt256 => ((keys_joined.f k (⟨#[105]⟩ : ByteArray) (([(⟨bt252.1, bt252.2.1, bt252.2.2.1, bt252.2.2.2⟩ : S24), (⟨bt256.1, bt256.2.1, bt256.2.2.1, bt256.2.2.2⟩ : S24)] : List (S24)))).bind fun bt263 => ((keys_joined.f k (⟨#[]⟩ : ByteArray) l2).bind fun bt265 => (if bt265.2 = 0 then (if bt263.1.size + bt265.1.size ≤ 9223372036854775807 then ((keys_bounds.f k (bt263.1 ++ bt265.1)).bind fun bt267 => (some (bt267.1, bt267.2, 0))) else (none)) else (some ((⟨#[]⟩ : ByteArray), (⟨#[]⟩ : ByteArray), 1))))))
theorem keys_Entries.mono : ∀ a0 a1 a2 k, LeO (keys_Entries.f k a0 a1 a2) (keys_Entries.f (k + 1) a0 a1 a2) := by
  intro a0 a1 a2 k
  unfold keys_Entries.f
  repeat' first
      | (with_reducible exact keys_bounds.mono _ _)
      | (with_reducible exact keys_joined.mono _ _ _)
      | (with_reducible exact LeO.refl _)
      | (with_reducible exact LeO.none _)
      | (with_reducible refine LeO.ite ?_ ?_)
      | (with_reducible refine LeO.bind ?_ (fun _ => ?_))
      | exact keys_bounds.mono _ _
      | exact keys_joined.mono _ _ _
      | exact LeO.none _
      | refine LeO.ite ?_ ?_
      | refine LeO.bind ?_ (fun _ => ?_)
set_option maxHeartbeats 8000000 in
set_option maxRecDepth 100000 in
theorem keys_Entries.calls (k : Nat) (a0 : Int) (a1 : Int) (A2 : Option Addr) (c2 : Nat) (l2 : List (S24)) (r1 : ByteArray) (r2 : ByteArray) (r3 : Int) (w : World) (hr2 : Kd.C k24 w A2 l2.length l2) (hc2 : l2.length ≤ c2) (h : keys_Entries.f k a0 a1 l2 = some (r1, r2, r3)) :
    Calls Try.prog 22 #[.int .i64 a0, .int .i64 a1, .slice A2 l2.length c2] w fun e w' => e = .returned (.tuple #[.string r1, .string r2, .int .i64 r3]) ∧ Below w.heap.size w w' := by
  have HR2 := Aside0.mk hr2
  have HC2 := Aside0.mk hc2
  clear hr2 hc2
  have HB := Aside0.mk (Below.refl w.heap.size w)
  have H : ((keys_number.f a0).bind fun bt252 => ((keys_number.f a1).bind fun bt256 => ((keys_joined.f k (⟨#[105]⟩ : ByteArray) (([(⟨bt252.1, bt252.2.1, bt252.2.2.1, bt252.2.2.2⟩ : S24), (⟨bt256.1, bt256.2.1, bt256.2.2.1, bt256.2.2.2⟩ : S24)] : List (S24)))).bind fun bt263 => ((keys_joined.f k (⟨#[]⟩ : ByteArray) l2).bind fun bt265 => (if bt265.2 = 0 then (if bt263.1.size + bt265.1.size ≤ 9223372036854775807 then ((keys_bounds.f k (bt263.1 ++ bt265.1)).bind fun bt267 => (some (bt267.1, bt267.2, 0))) else (none)) else (some ((⟨#[]⟩ : ByteArray), (⟨#[]⟩ : ByteArray), 1))))))) = some (r1, r2, r3) := h
  clear h
  replace H := Option.bind_eq_some_iff.mp H
  obtain ⟨⟨t252, t253, t254, t255⟩, A40, H⟩ := H
  replace H : ((keys_number.f a1).bind fun bt256 => ((keys_joined.f k (⟨#[105]⟩ : ByteArray) (([(⟨t252, t253, t254, t255⟩ : S24), (⟨bt256.1, bt256.2.1, bt256.2.2.1, bt256.2.2.2⟩ : S24)] : List (S24)))).bind fun bt263 => ((keys_joined.f k (⟨#[]⟩ : ByteArray) l2).bind fun bt265 => (if bt265.2 = 0 then (if bt263.1.size + bt265.1.size ≤ 9223372036854775807 then ((keys_bounds.f k (bt263.1 ++ bt265.1)).bind fun bt267 => (some (bt267.1, bt267.2, 0))) else (none)) else (some ((⟨#[]⟩ : ByteArray), (⟨#[]⟩ : ByteArray), 1)))))) = some (r1, r2, r3) := H
  have A4 := Aside0.mk A40
  clear A40
  replace H := Option.bind_eq_some_iff.mp H
  obtain ⟨⟨t256, t257, t258, t259⟩, A50, H⟩ := H
  replace H : ((keys_joined.f k (⟨#[105]⟩ : ByteArray) (([(⟨t252, t253, t254, t255⟩ : S24), (⟨t256, t257, t258, t259⟩ : S24)] : List (S24)))).bind fun bt263 => ((keys_joined.f k (⟨#[]⟩ : ByteArray) l2).bind fun bt265 => (if bt265.2 = 0 then (if bt263.1.size + bt265.1.size ≤ 9223372036854775807 then ((keys_bounds.f k (bt263.1 ++ bt265.1)).bind fun bt267 => (some (bt267.1, bt267.2, 0))) else (none)) else (some ((⟨#[]⟩ : ByteArray), (⟨#[]⟩ : ByteArray), 1))))) = some (r1, r2, r3) := H
  have A5 := Aside0.mk A50
  clear A50
  obtain ⟨y260, hy260⟩ : ∃ y_ : List (S24), y_ = (([(⟨t252, t253, t254, t255⟩ : S24), (⟨t256, t257, t258, t259⟩ : S24)] : List (S24))) := ⟨_, rfl⟩
  replace H : ((keys_joined.f k (⟨#[105]⟩ : ByteArray) y260).bind fun bt263 => ((keys_joined.f k (⟨#[]⟩ : ByteArray) l2).bind fun bt265 => (if bt265.2 = 0 then (if bt263.1.size + bt265.1.size ≤ 9223372036854775807 then ((keys_bounds.f k (bt263.1 ++ bt265.1)).bind fun bt267 => (some (bt267.1, bt267.2, 0))) else (none)) else (some ((⟨#[]⟩ : ByteArray), (⟨#[]⟩ : ByteArray), 1))))) = some (r1, r2, r3) := by first | (rw [hy260]; with_reducible exact H) | (have H2_ := (Option.bind_some _ _).symm.trans H; rw [hy260]; with_reducible exact H2_) | (have H2_ := (Option.bind_some _ _).symm.trans H; with_reducible exact H2_) | with_reducible exact H | (rw [hy260]; exact H) | exact H
  have Ny260 := Aside0.mk hy260
  clear hy260
  replace H := Option.bind_eq_some_iff.mp H
  obtain ⟨⟨t263, t264⟩, A60, H⟩ := H
  replace H : ((keys_joined.f k (⟨#[]⟩ : ByteArray) l2).bind fun bt265 => (if bt265.2 = 0 then (if t263.size + bt265.1.size ≤ 9223372036854775807 then ((keys_bounds.f k (t263 ++ bt265.1)).bind fun bt267 => (some (bt267.1, bt267.2, 0))) else (none)) else (some ((⟨#[]⟩ : ByteArray), (⟨#[]⟩ : ByteArray), 1)))) = some (r1, r2, r3) := H
  have A6 := Aside0.mk A60
  clear A60
  replace H := Option.bind_eq_some_iff.mp H
  obtain ⟨⟨t265, t266⟩, A70, H⟩ := H
  replace H : (if t266 = 0 then (if t263.size + t265.size ≤ 9223372036854775807 then ((keys_bounds.f k (t263 ++ t265)).bind fun bt267 => (some (bt267.1, bt267.2, 0))) else (none)) else (some ((⟨#[]⟩ : ByteArray), (⟨#[]⟩ : ByteArray), 1))) = some (r1, r2, r3) := H
  have A7 := Aside0.mk A70
  clear A70
  by_cases c8 : t266 = 0
  · rw [if_pos c8] at H
    have c8b0 : (t266 == 0) = true := beq_iff_eq.mpr c8
    have c8b1 : (t266 != 0) = false := bne_eq_false_iff_eq.mpr c8
    clear c8
    by_cases c9 : t263.size + t265.size ≤ 9223372036854775807
    · rw [if_pos c9] at H
      have c9b0 := eq_true c9
      have c9b1 : decide (t263.size + t265.size ≤ 9223372036854775807) = true := decide_eq_true c9
      try have c9b2 : (9223372036854775807 < t263.size + t265.size) = False := eq_false (Nat.not_lt.2 c9)
      replace H := Option.bind_eq_some_iff.mp H
      obtain ⟨⟨t267, t268⟩, A100, H⟩ := H
      replace H : (some (t267, t268, 0)) = some (r1, r2, r3) := H
      have A10 := Aside0.mk A100
      clear A100
      simp only [Option.some.injEq, Prod.mk.injEq] at H
      obtain ⟨rfl, rfl, rfl⟩ := H
      go_enter Try.func22, Try.ntmps22
      go_wp2_with (first | ((with_reducible refine gate_callee (f := 26) rfl ?_); refine goesL_ (some 17) rfl rfl Try.func26 (by kernel_rfl) rfl #[.int .i64 a0] rfl (by (try simp only [List.map_toArray, List.map_cons, List.map_nil]); first | done | rfl | (simp only [List.length_drop, List.length_take]; rfl)) ?_; (with_reducible refine (keys_number.calls a0 t252 t253 t254 t255 _ A4.out).mono ?_); rintro e w11 ⟨rfl, hb⟩; refine ⟨_, rfl, ?_⟩; have n0_ := Aside0.mk (below_step (by repeat (first | (with_reducible first | exact HB.out | apply below_alloc | apply pw_below_drewN | apply below_drew1) | exact HB.out)) hb); clear HB; have HB := n0_; clear n0_; (try clear hb); (try clear hb2); (try clear hk); (try clear hi)) | ((with_reducible refine gate_callee (f := 26) rfl ?_); refine goesL_ (some 19) rfl rfl Try.func26 (by kernel_rfl) rfl #[.int .i64 a1] rfl (by (try simp only [List.map_toArray, List.map_cons, List.map_nil]); first | done | rfl | (simp only [List.length_drop, List.length_take]; rfl)) ?_; (with_reducible refine (keys_number.calls a1 t256 t257 t258 t259 _ A5.out).mono ?_); rintro e w12 ⟨rfl, hb⟩; refine ⟨_, rfl, ?_⟩; have n0_ := Aside0.mk (below_step (by repeat (first | (with_reducible first | exact HB.out | apply below_alloc | apply pw_below_drewN | apply below_drew1) | exact HB.out)) hb); clear HB; have HB := n0_; clear n0_; (try clear hb); (try clear hb2); (try clear hk); (try clear hi)) | ((with_reducible refine gate_dst (N := 20) rfl ?_); refine Kd.R_lit k24 _ 24 ?hg (N := 20) ?hd (xs := ([(⟨t252, t253, t254, t255⟩ : S24), (⟨t256, t257, t258, t259⟩ : S24)] : List (S24))) (inner := [.int .i64 t252, .int .i64 t253, .int .u64 t254, .string t255, .int .i64 t256, .int .i64 t257, .int .u64 t258, .string t259]) (ok := fun _ => True) (okp := fun _ => True) ?hr ?hp (fun _ hk => hk) trivial (Below.refl _ _) (Nat.le_refl _) (by simp) ?_; (case hd => rfl); (case hg => rfl); (case hr => first | (go_simp; done) | (go_simp; rfl)); (case hp => exact (Reps.c4 (show Kd.M k24 _ _ _ (⟨t252, t253, t254, t255⟩ : S24) [.int .i64 t252, .int .i64 t253, .int .u64 t254, .string t255] from (k24_mkM _ _ _ (⟨t252, t253, t254, t255⟩ : S24) )) (Reps.c4 (show Kd.M k24 _ _ _ (⟨t256, t257, t258, t259⟩ : S24) [.int .i64 t256, .int .i64 t257, .int .u64 t258, .string t259] from (k24_mkM _ _ _ (⟨t256, t257, t258, t259⟩ : S24) )) (Reps.none _ _)))); intro v261 w13 ho14 hb hg_ hnew_; clear hg_ hnew_; (first | rw [← Ny260.out] at ho14 | (simp only [Int.reduceToNat] at ho14; rw [← Ny260.out] at ho14)); have n0_ := Aside0.mk (Kd.R_lower ho14 (below_size (by repeat (first | (with_reducible first | exact HB.out | apply below_alloc | apply pw_below_drewN | apply below_drew1) | exact HB.out)))); have n1_ := Aside0.mk (below_step (by repeat (first | (with_reducible first | exact HB.out | apply below_alloc | apply pw_below_drewN | apply below_drew1) | exact HB.out)) hb); clear HB; have HO262 := n0_; have HB := n1_; clear n0_ n1_; clear hb ho14; obtain ⟨Ao15, co15, eo15⟩ := Kd.R_slice HO262.out; subst eo15) | ((with_reducible refine gate_callee (f := 25) rfl ?_); refine goesL_ (some 21) rfl rfl Try.func25 (by kernel_rfl) rfl #[.string (⟨#[105]⟩ : ByteArray), .slice Ao15 y260.length co15] rfl (by (try simp only [List.map_toArray, List.map_cons, List.map_nil]); first | done | rfl | (simp only [List.length_drop, List.length_take]; rfl)) ?_; (with_reducible refine (keys_joined.calls k (⟨#[105]⟩ : ByteArray) _ _ y260 t263 t264 _ ?side1 ?side2 A6.out).mono ?_); (case side1 => repeat (first | exact (Kd.R_reads' HO262.out).2.2 | (with_reducible refine Kd.C_alloc ?_ _) | (with_reducible refine Kd.C_drewN ?_ _) | (with_reducible refine Kd.C_drew ?_))); (case side2 => exact (Kd.R_reads' HO262.out).2.1); rintro e w16 ⟨rfl, hb⟩; refine ⟨_, rfl, ?_⟩; have n0_ := Aside0.mk (Kd.R_below (by (with_reducible repeat (first | apply Kd.R_alloc | apply Kd.R_drewN | apply Kd.R_drew)); exact HO262.out) hb); have n1_ := Aside0.mk (below_step (by repeat (first | (with_reducible first | exact HB.out | apply below_alloc | apply pw_below_drewN | apply below_drew1) | exact HB.out)) hb); clear HO262; clear HB; have HO262 := n0_; have HB := n1_; clear n0_ n1_; (try clear hb); (try clear hb2); (try clear hk); (try clear hi)) | ((with_reducible refine gate_callee (f := 25) rfl ?_); refine goesL_ (some 26) rfl rfl Try.func25 (by kernel_rfl) rfl #[.string (⟨#[]⟩ : ByteArray), .slice A2 l2.length c2] rfl (by (try simp only [List.map_toArray, List.map_cons, List.map_nil]); first | done | rfl | (simp only [List.length_drop, List.length_take]; rfl)) ?_; (with_reducible refine (keys_joined.calls k (⟨#[]⟩ : ByteArray) _ _ l2 t265 t266 _ ?side1 ?side2 A7.out).mono ?_); (case side1 => repeat (first | exact (Kd.C_below HR2.out HB.out) | (with_reducible refine Kd.C_alloc ?_ _) | (with_reducible refine Kd.C_drewN ?_ _) | (with_reducible refine Kd.C_drew ?_))); (case side2 => exact HC2.out); rintro e w17 ⟨rfl, hb⟩; refine ⟨_, rfl, ?_⟩; have n0_ := Aside0.mk (Kd.R_below (by (with_reducible repeat (first | apply Kd.R_alloc | apply Kd.R_drewN | apply Kd.R_drew)); exact HO262.out) hb); have n1_ := Aside0.mk (below_step (by repeat (first | (with_reducible first | exact HB.out | apply below_alloc | apply pw_below_drewN | apply below_drew1) | exact HB.out)) hb); clear HO262; clear HB; have HO262 := n0_; have HB := n1_; clear n0_ n1_; (try clear hb); (try clear hb2); (try clear hk); (try clear hi)) | ((with_reducible refine gate_callee (f := 29) rfl ?_); refine goesL_ (some 35) rfl rfl Try.func29 (by kernel_rfl) rfl #[.string (t263 ++ t265)] rfl (by (try simp only [List.map_toArray, List.map_cons, List.map_nil]); first | done | rfl | (simp only [List.length_drop, List.length_take]; rfl)) ?_; (with_reducible refine (keys_bounds.calls k (t263 ++ t265) t267 t268 _ A10.out).mono ?_); rintro e w18 ⟨rfl, hb⟩; refine ⟨_, rfl, ?_⟩; have n0_ := Aside0.mk (Kd.R_below (by (with_reducible repeat (first | apply Kd.R_alloc | apply Kd.R_drewN | apply Kd.R_drew)); exact HO262.out) hb); have n1_ := Aside0.mk (below_step (by repeat (first | (with_reducible first | exact HB.out | apply below_alloc | apply pw_below_drewN | apply below_drew1) | exact HB.out)) hb); clear HO262; clear HB; have HO262 := n0_; have HB := n1_; clear n0_ n1_; (try clear hb); (try clear hb2); (try clear hk); (try clear hi)))
      go_ret3
      exact ⟨by first | rfl | (simp [errW_none, errW_some] <;> rfl) | (simp [*, errW_none, errW_some] <;> rfl), by repeat (first | (with_reducible first | exact HB.out | apply below_alloc | apply pw_below_drewN | apply below_drew1) | exact HB.out)⟩
    · rw [if_neg c9] at H
      exact absurd H (by simp)
  · rw [if_neg c8] at H
    have c8b0 : (t266 == 0) = false := beq_eq_false_iff_ne.mpr c8
    have c8b1 : (t266 != 0) = true := bne_iff_ne.mpr c8
    simp only [Option.some.injEq, Prod.mk.injEq] at H
    obtain ⟨rfl, rfl, rfl⟩ := H
    go_enter Try.func22, Try.ntmps22
    go_wp2_with (first | ((with_reducible refine gate_callee (f := 26) rfl ?_); refine goesL_ (some 17) rfl rfl Try.func26 (by kernel_rfl) rfl #[.int .i64 a0] rfl (by (try simp only [List.map_toArray, List.map_cons, List.map_nil]); first | done | rfl | (simp only [List.length_drop, List.length_take]; rfl)) ?_; (with_reducible refine (keys_number.calls a0 t252 t253 t254 t255 _ A4.out).mono ?_); rintro e w19 ⟨rfl, hb⟩; refine ⟨_, rfl, ?_⟩; have n0_ := Aside0.mk (below_step (by repeat (first | (with_reducible first | exact HB.out | apply below_alloc | apply pw_below_drewN | apply below_drew1) | exact HB.out)) hb); clear HB; have HB := n0_; clear n0_; (try clear hb); (try clear hb2); (try clear hk); (try clear hi)) | ((with_reducible refine gate_callee (f := 26) rfl ?_); refine goesL_ (some 19) rfl rfl Try.func26 (by kernel_rfl) rfl #[.int .i64 a1] rfl (by (try simp only [List.map_toArray, List.map_cons, List.map_nil]); first | done | rfl | (simp only [List.length_drop, List.length_take]; rfl)) ?_; (with_reducible refine (keys_number.calls a1 t256 t257 t258 t259 _ A5.out).mono ?_); rintro e w20 ⟨rfl, hb⟩; refine ⟨_, rfl, ?_⟩; have n0_ := Aside0.mk (below_step (by repeat (first | (with_reducible first | exact HB.out | apply below_alloc | apply pw_below_drewN | apply below_drew1) | exact HB.out)) hb); clear HB; have HB := n0_; clear n0_; (try clear hb); (try clear hb2); (try clear hk); (try clear hi)) | ((with_reducible refine gate_dst (N := 20) rfl ?_); refine Kd.R_lit k24 _ 24 ?hg (N := 20) ?hd (xs := ([(⟨t252, t253, t254, t255⟩ : S24), (⟨t256, t257, t258, t259⟩ : S24)] : List (S24))) (inner := [.int .i64 t252, .int .i64 t253, .int .u64 t254, .string t255, .int .i64 t256, .int .i64 t257, .int .u64 t258, .string t259]) (ok := fun _ => True) (okp := fun _ => True) ?hr ?hp (fun _ hk => hk) trivial (Below.refl _ _) (Nat.le_refl _) (by simp) ?_; (case hd => rfl); (case hg => rfl); (case hr => first | (go_simp; done) | (go_simp; rfl)); (case hp => exact (Reps.c4 (show Kd.M k24 _ _ _ (⟨t252, t253, t254, t255⟩ : S24) [.int .i64 t252, .int .i64 t253, .int .u64 t254, .string t255] from (k24_mkM _ _ _ (⟨t252, t253, t254, t255⟩ : S24) )) (Reps.c4 (show Kd.M k24 _ _ _ (⟨t256, t257, t258, t259⟩ : S24) [.int .i64 t256, .int .i64 t257, .int .u64 t258, .string t259] from (k24_mkM _ _ _ (⟨t256, t257, t258, t259⟩ : S24) )) (Reps.none _ _)))); intro v261 w21 ho22 hb hg_ hnew_; clear hg_ hnew_; (first | rw [← Ny260.out] at ho22 | (simp only [Int.reduceToNat] at ho22; rw [← Ny260.out] at ho22)); have n0_ := Aside0.mk (Kd.R_lower ho22 (below_size (by repeat (first | (with_reducible first | exact HB.out | apply below_alloc | apply pw_below_drewN | apply below_drew1) | exact HB.out)))); have n1_ := Aside0.mk (below_step (by repeat (first | (with_reducible first | exact HB.out | apply below_alloc | apply pw_below_drewN | apply below_drew1) | exact HB.out)) hb); clear HB; have HO262 := n0_; have HB := n1_; clear n0_ n1_; clear hb ho22; obtain ⟨Ao23, co23, eo23⟩ := Kd.R_slice HO262.out; subst eo23) | ((with_reducible refine gate_callee (f := 25) rfl ?_); refine goesL_ (some 21) rfl rfl Try.func25 (by kernel_rfl) rfl #[.string (⟨#[105]⟩ : ByteArray), .slice Ao23 y260.length co23] rfl (by (try simp only [List.map_toArray, List.map_cons, List.map_nil]); first | done | rfl | (simp only [List.length_drop, List.length_take]; rfl)) ?_; (with_reducible refine (keys_joined.calls k (⟨#[105]⟩ : ByteArray) _ _ y260 t263 t264 _ ?side1 ?side2 A6.out).mono ?_); (case side1 => repeat (first | exact (Kd.R_reads' HO262.out).2.2 | (with_reducible refine Kd.C_alloc ?_ _) | (with_reducible refine Kd.C_drewN ?_ _) | (with_reducible refine Kd.C_drew ?_))); (case side2 => exact (Kd.R_reads' HO262.out).2.1); rintro e w24 ⟨rfl, hb⟩; refine ⟨_, rfl, ?_⟩; have n0_ := Aside0.mk (Kd.R_below (by (with_reducible repeat (first | apply Kd.R_alloc | apply Kd.R_drewN | apply Kd.R_drew)); exact HO262.out) hb); have n1_ := Aside0.mk (below_step (by repeat (first | (with_reducible first | exact HB.out | apply below_alloc | apply pw_below_drewN | apply below_drew1) | exact HB.out)) hb); clear HO262; clear HB; have HO262 := n0_; have HB := n1_; clear n0_ n1_; (try clear hb); (try clear hb2); (try clear hk); (try clear hi)) | ((with_reducible refine gate_callee (f := 25) rfl ?_); refine goesL_ (some 26) rfl rfl Try.func25 (by kernel_rfl) rfl #[.string (⟨#[]⟩ : ByteArray), .slice A2 l2.length c2] rfl (by (try simp only [List.map_toArray, List.map_cons, List.map_nil]); first | done | rfl | (simp only [List.length_drop, List.length_take]; rfl)) ?_; (with_reducible refine (keys_joined.calls k (⟨#[]⟩ : ByteArray) _ _ l2 t265 t266 _ ?side1 ?side2 A7.out).mono ?_); (case side1 => repeat (first | exact (Kd.C_below HR2.out HB.out) | (with_reducible refine Kd.C_alloc ?_ _) | (with_reducible refine Kd.C_drewN ?_ _) | (with_reducible refine Kd.C_drew ?_))); (case side2 => exact HC2.out); rintro e w25 ⟨rfl, hb⟩; refine ⟨_, rfl, ?_⟩; have n0_ := Aside0.mk (Kd.R_below (by (with_reducible repeat (first | apply Kd.R_alloc | apply Kd.R_drewN | apply Kd.R_drew)); exact HO262.out) hb); have n1_ := Aside0.mk (below_step (by repeat (first | (with_reducible first | exact HB.out | apply below_alloc | apply pw_below_drewN | apply below_drew1) | exact HB.out)) hb); clear HO262; clear HB; have HO262 := n0_; have HB := n1_; clear n0_ n1_; (try clear hb); (try clear hb2); (try clear hk); (try clear hi)))
    go_ret3
    exact ⟨by first | rfl | (simp [errW_none, errW_some] <;> rfl) | (simp [*, errW_none, errW_some] <;> rfl), by repeat (first | (with_reducible first | exact HB.out | apply below_alloc | apply pw_below_drewN | apply below_drew1) | exact HB.out)⟩

/-! ### falseworkref2_After: function 30 -/
/-- Up to where the bytes ahead of place n are not all ff. -/
def falseworkref2_After.cut (s : ByteArray) : Nat → Nat
  | 0 => 0
  | n + 1 => if bt s (n : Int) = 255 then falseworkref2_After.cut s n else n + 1
theorem falseworkref2_After.cut_le (s : ByteArray) : ∀ n, falseworkref2_After.cut s n ≤ n
  | 0 => Nat.le_refl _
  | n + 1 => by unfold falseworkref2_After.cut; split; exact Nat.le_succ_of_le (falseworkref2_After.cut_le s n); exact Nat.le_refl _
theorem falseworkref2_After.cut_ff (s : ByteArray) : ∀ n j, falseworkref2_After.cut s n ≤ j → j < n → bt s (j : Int) = 255
  | 0, j, _, h => absurd h (Nat.not_lt_zero _)
  | n + 1, j, h, hj => by
    unfold falseworkref2_After.cut at h
    split at h
    · rename_i h'
      by_cases e : j = n
      · rw [e]; exact h'
      · exact falseworkref2_After.cut_ff s n j h (by omega)
    · omega
theorem falseworkref2_After.cut_end (s : ByteArray) : ∀ n m, falseworkref2_After.cut s n = m + 1 → ¬ bt s (m : Int) = 255
  | 0, m, h => by cases h
  | n + 1, m, h => by
    unfold falseworkref2_After.cut at h
    split at h
    · exact falseworkref2_After.cut_end s n m h
    · rename_i h'
      have : n = m := by omega
      rw [← this]; exact h'
theorem bt_extract0 (s : ByteArray) (n : Nat) (i : Int) (h0 : 0 ≤ i) (h : i < (n : Int)) : bt (s.extract 0 n) i = bt s i := by
  unfold bt
  have hz : (s.extract 0 n).size = min n s.size := by rw [ByteArray.size_extract]; omega
  by_cases hs : i.toNat < s.size
  · rw [dif_pos hs, dif_pos (by omega)]
    rw [ByteArray.getElem_extract]; simp
  · rw [dif_neg hs, dif_neg (by omega)]
theorem str_last (s : ByteArray) (n : Nat) (i v : Int) (h0 : 0 ≤ i) (h : i + 1 = (n : Int)) (hn : n ≤ s.size) : strOfNums ((bytesOf (s.extract 0 n)).set i.toNat v) = s.extract 0 i.toNat ++ strOfNums [v] := by
  obtain ⟨j, rfl⟩ : ∃ j : Nat, i = (j : Int) := ⟨i.toNat, by omega⟩
  obtain rfl : n = j + 1 := by omega
  rw [Int.toNat_natCast]
  have hl : j < s.data.toList.length := by rw [data_length]; omega
  have h1 : bytesOf (s.extract 0 (j + 1)) = (s.data.toList.take j).map (fun b => (b.toNat : Int)) ++ [((s.data.toList[j]'hl).toNat : Int)] := by
    unfold bytesOf
    rw [ByteArray.data_extract, Array.toList_extract]
    simp only [List.extract_eq_take_drop, List.drop_zero, Nat.sub_zero]
    rw [List.take_succ_eq_append_getElem hl, List.map_append]; rfl
  have h2 : ((s.data.toList.take j).map (fun b => (b.toNat : Int))).length = j := by rw [List.length_map, List.length_take]; omega
  rw [h1, List.set_append_right _ _ (by omega), h2, Nat.sub_self, List.set_cons_zero]
  apply ByteArray.ext
  rw [← Array.toList_inj, ByteArray.data_append, Array.toList_append, ByteArray.data_extract, Array.toList_extract]
  simp only [strOfNums, List.map_append, List.map_map, List.extract_eq_take_drop, List.drop_zero, Nat.sub_zero]
  congr 1
  conv => rhs; rw [← List.map_id (List.take j s.data.toList)]
  apply List.map_congr_left
  intro b _
  simp
def falseworkref2_After.f (a0 : ByteArray) : Option (ByteArray × Bool) :=
  if a0.size ≤ 1000000 then
    (match falseworkref2_After.cut a0 a0.size with
    | 0 => some (⟨#[]⟩, false)
    | m + 1 => some (a0.extract 0 m ++ strOfNums [(bt a0 (m : Int) + 1) % 256], true))
  else none
set_option maxHeartbeats 4000000 in
set_option maxRecDepth 100000 in
theorem falseworkref2_After.walk0 (a0 : ByteArray) (w : World) (hs : a0.size ≤ 1000000) (hm : falseworkref2_After.cut a0 a0.size = 0) :
    Calls Try.prog 30 #[.string a0] w fun e w' => e = .returned (.tuple #[.string ⟨#[]⟩, .bool false]) ∧ Below w.heap.size w w' := by
  have hff := falseworkref2_After.cut_ff a0 a0.size
  rw [hm] at hff
  clear hm
  have HF := Aside0.mk hff
  clear hff
  go_enter Try.func30, Try.ntmps30
  go_wp2
  go_loop [4] (fun v => ∃ x : Int, 0 ≤ x ∧ x ≤ a0.size ∧ v = .int .i64 x) (fun v => (intOf v).toNat)
  case atStart => exact ⟨_, by omega, Int.le_refl _, rfl⟩
  case round =>
    obtain ⟨x, h0, h1, rfl⟩ := hrel
    by_cases c : 0 < x
    · have cb0 : decide (0 < x) = true := decide_eq_true c
      obtain ⟨ji, hji⟩ : ∃ j_ : Int, wrap64 (x - 1) = j_ := ⟨_, rfl⟩
      have hx : ji = x - 1 := by rw [← hji]; unfold wrap64; omega
      have hjiw : (IntKind.i64.wrap (x - 1)) = ji := (i64_w _).trans hji
      have c7 : bt a0 ji = 255 := by
        have := HF.out ji.toNat (Nat.zero_le _) (by omega)
        rwa [show ((ji.toNat : Nat) : Int) = ji by omega] at this
      have c7b0 : (bt a0 ji == 255) = true := beq_iff_eq.mpr c7
      have c7b1 : (bt a0 ji != 255) = false := bne_eq_false_iff_eq.mpr c7
      clear c7
      have c4b0 : decide (0 ≤ ji) = true := decide_eq_true (by omega)
      have c5b0 : decide (ji < (a0.size : Int)) = true := decide_eq_true (by omega)
      have p6 := eq_true (show 0 ≤ ji by omega)
      have q6 := eq_true (show ji < (a0.size : Int) by omega)
      have hx6 := bt_at a0 ji
      have HX := Aside0.mk hx
      clear hx c
      go_wp2
      go_round
      case rel => exact ⟨ji, by have := HX.out; have := of_decide_eq_true cb0; omega, by have := HX.out; omega, by first | rfl | (simp; done) | (simp [*]; done)⟩
      case measure => have := HX.out; have := of_decide_eq_true cb0; simp [intOf]; omega
    · obtain rfl : x = 0 := by omega
      go_wp2
      go_ret2
      exact ⟨rfl, Below.refl _ _⟩
set_option maxHeartbeats 4000000 in
set_option maxRecDepth 100000 in
theorem falseworkref2_After.walk1 (a0 : ByteArray) (y : Nat) (ji : Int) (w : World) (hs : a0.size ≤ 1000000) (hy0 : 0 < y) (hy1 : y ≤ a0.size) (hj : wrap64 ((y : Int) - 1) = ji) (HJ : Aside0 (ji = (y : Int) - 1))
    (HF : Aside0 (∀ j : Nat, y ≤ j → j < a0.size → bt a0 (j : Int) = 255)) (HE : Aside0 (¬ bt a0 ji = 255)) :
    Calls Try.prog 30 #[.string a0] w fun e w' => e = .returned (.tuple #[.string (a0.extract 0 ji.toNat ++ strOfNums [(bt a0 ji + 1) % 256]), .bool true]) ∧ Below w.heap.size w w' := by
  have kb := fun (s : ByteArray) (W : World) => print_bytes (P := Try.prog) 9 67 5 Try.underlying9 Try.underlying67 Try.underlying5 s W
  have HJ2 := Aside0.mk hj
  clear hj
  go_enter Try.func30, Try.ntmps30
  go_wp2
  go_loop [4] (fun v => ∃ x : Int, (y : Int) ≤ x ∧ x ≤ a0.size ∧ v = .int .i64 x) (fun v => (intOf v).toNat)
  case atStart => exact ⟨_, by omega, Int.le_refl _, rfl⟩
  case round =>
    obtain ⟨x, h0, h1, rfl⟩ := hrel
    by_cases c : (y : Int) < x
    · have cb0 : decide (0 < x) = true := decide_eq_true (by omega)
      obtain ⟨ji, hji⟩ : ∃ j_ : Int, wrap64 (x - 1) = j_ := ⟨_, rfl⟩
      have hx : ji = x - 1 := by rw [← hji]; unfold wrap64; omega
      have hjiw : (IntKind.i64.wrap (x - 1)) = ji := (i64_w _).trans hji
      have c7 : bt a0 ji = 255 := by
        have := HF.out ji.toNat (by omega) (by omega)
        rwa [show ((ji.toNat : Nat) : Int) = ji by omega] at this
      have c7b0 : (bt a0 ji == 255) = true := beq_iff_eq.mpr c7
      have c7b1 : (bt a0 ji != 255) = false := bne_eq_false_iff_eq.mpr c7
      clear c7
      have c4b0 : decide (0 ≤ ji) = true := decide_eq_true (by omega)
      have c5b0 : decide (ji < (a0.size : Int)) = true := decide_eq_true (by omega)
      have p6 := eq_true (show 0 ≤ ji by omega)
      have q6 := eq_true (show ji < (a0.size : Int) by omega)
      have hx6 := bt_at a0 ji
      have HX := Aside0.mk hx
      have HC := Aside0.mk c
      clear hx c
      go_wp2
      go_round
      case rel => exact ⟨ji, by have := HX.out; have := HC.out; omega, by have := HX.out; omega, by first | rfl | (simp; done) | (simp [*]; done)⟩
      case measure => have := HX.out; have := HC.out; simp [intOf]; omega
    · obtain rfl : x = (y : Int) := by omega
      have hjj := HJ.out
      have cb0 : decide (0 < (y : Int)) = true := decide_eq_true (by omega)
      have cb1 : ((y : Int) == 0) = false := beq_eq_false_iff_ne.mpr (by omega)
      have hjix := HJ2.out
      have hjiw : (IntKind.i64.wrap ((y : Int) - 1)) = ji := (i64_w _).trans hjix
      have c7b0 : (bt a0 ji == 255) = false := beq_eq_false_iff_ne.mpr HE.out
      have c7b1 : (bt a0 ji != 255) = true := bne_iff_ne.mpr HE.out
      have c4b0 : decide (0 ≤ ji) = true := decide_eq_true (by omega)
      have c5b0 : decide (ji < (a0.size : Int)) = true := decide_eq_true (by omega)
      have p6 := eq_true (show 0 ≤ ji by omega)
      have q6 := eq_true (show ji < (a0.size : Int) by omega)
      have hx6 := bt_at a0 ji
      have q8 := eq_true (show ji < (y : Int) by omega)
      have p7 := eq_true (show 0 ≤ (y : Int) by omega)
      have q7 := eq_true (show (y : Int) ≤ (a0.size : Int) by omega)
      have hM := MRow.new w 5 (a0.extract 0 y)
      have hes : (a0.extract 0 y).size = y := ext0_size (by omega)
      have hbl : (bytesOf (a0.extract 0 y)).length = y := by rw [bytesOf_length, hes]
      have hrd : rd (bytesOf (a0.extract 0 y)) ji = bt a0 ji := by rw [rd_bytesOf, bt_extract0 _ _ _ (by omega) (by omega)]
      obtain ⟨hc, hf⟩ := hM.at_ ji (by omega) (by omega)
      rw [hrd] at hc
      have hM2 := hM.set_ ji ((bt a0 ji + 1) % 256) (by omega) (by omega)
      have hstr := fun cap => MRow.str (P := Try.prog) (src := 67) (dst := 9) (e := 5) Try.underlying67 Try.underlying5 Try.underlying9 hM2 y cap (by rw [List.length_set]; exact hbl)
      have hend : strOfNums ((bytesOf (a0.extract 0 y)).set ji.toNat ((bt a0 ji + 1) % 256)) = a0.extract 0 ji.toNat ++ strOfNums [(bt a0 ji + 1) % 256] := str_last _ _ _ _ (by omega) (by omega) (by omega)
      rw [hend] at hstr
      have hB := bytes_below (Below.refl w.heap.size w) (Nat.le_refl _) 5 (a0.extract 0 y)
      have HB := Aside0.mk hB
      clear hjj c hM hM2 hes hbl hrd hend hB
      go_wp2
      go_ret2
      exact ⟨rfl, below_set HB.out (Nat.le_refl _)⟩
theorem falseworkref2_After.calls (a0 : ByteArray) (r1 : ByteArray) (r2 : Bool) (w : World) (h : falseworkref2_After.f a0 = some (r1, r2)) :
    Calls Try.prog 30 #[.string a0] w fun e w' => e = .returned (.tuple #[.string r1, .bool r2]) ∧ Below w.heap.size w w' := by
  unfold falseworkref2_After.f at h
  by_cases hs : a0.size ≤ 1000000
  · rw [if_pos hs] at h
    cases hm : falseworkref2_After.cut a0 a0.size with
    | zero => rw [hm] at h; obtain ⟨rfl, rfl⟩ := Prod.mk.inj (Option.some.inj h); exact falseworkref2_After.walk0 a0 w hs hm
    | succ m =>
      rw [hm] at h
      obtain ⟨rfl, rfl⟩ := Prod.mk.inj (Option.some.inj h)
      have hle := falseworkref2_After.cut_le a0 a0.size
      have hff := falseworkref2_After.cut_ff a0 a0.size
      rw [hm] at hle hff
      have key := falseworkref2_After.walk1 a0 (m + 1) (m : Int) w hs (by omega) (by omega) (by unfold wrap64; omega) ⟨by omega⟩ ⟨fun j h1 h2 => hff j (by omega) h2⟩ ⟨falseworkref2_After.cut_end a0 a0.size m hm⟩
      rw [Int.toNat_natCast] at key
      exact key
  · rw [if_neg hs] at h; cases h

/-! ### falseworkref18_Entries: function 23 -/
def falseworkref18_Entries.f (k : Nat) (a0 : Int) (a1 : Int) (l2 : List (S24)) : Option (ByteArray × ByteArray × Int) := (falseworkref18_vals.f k l2).bind fun bt269 => (if bt269.2 = true then ((falseworkref18_num.f k a0).bind fun t271 => (if 1 + t271.size ≤ 9223372036854775807 then ((falseworkref18_num.f k a1).bind fun t272 => (if ((⟨#[105]⟩ : ByteArray) ++ t271).size + t272.size ≤ 9223372036854775807 then (if (((⟨#[105]⟩ : ByteArray) ++ t271) ++ t272).size + bt269.1.size ≤ 9223372036854775807 then ((falseworkref2_After.f ((((⟨#[105]⟩ : ByteArray) ++ t271) ++ t272) ++ bt269.1)).bind fun bt273 => (some ((((⟨#[105]⟩ : ByteArray) ++ t271) ++ t272) ++ bt269.1, bt273.1, 0))) else (none)) else (none))) else (none))) else (some ((⟨#[]⟩ : ByteArray), (⟨#[]⟩ : ByteArray), 1)))
theorem falseworkref18_Entries.mono : ∀ a0 a1 a2 k, LeO (falseworkref18_Entries.f k a0 a1 a2) (falseworkref18_Entries.f (k + 1) a0 a1 a2) := by
  intro a0 a1 a2 k
  unfold falseworkref18_Entries.f
  repeat' first
      | (with_reducible exact falseworkref18_num.mono _ _)
      | (with_reducible exact falseworkref18_vals.mono _ _)
      | (with_reducible exact LeO.refl _)
      | (with_reducible exact LeO.none _)
      | (with_reducible refine LeO.ite ?_ ?_)
      | (with_reducible refine LeO.bind ?_ (fun _ => ?_))
      | exact falseworkref18_num.mono _ _
      | exact falseworkref18_vals.mono _ _
      | exact LeO.none _
      | refine LeO.ite ?_ ?_
      | refine LeO.bind ?_ (fun _ => ?_)
set_option maxHeartbeats 8000000 in
set_option maxRecDepth 100000 in
theorem falseworkref18_Entries.calls (k : Nat) (a0 : Int) (a1 : Int) (A2 : Option Addr) (c2 : Nat) (l2 : List (S24)) (r1 : ByteArray) (r2 : ByteArray) (r3 : Int) (w : World) (hr2 : Kd.C k24 w A2 l2.length l2) (hc2 : l2.length ≤ c2) (h : falseworkref18_Entries.f k a0 a1 l2 = some (r1, r2, r3)) :
    Calls Try.prog 23 #[.int .i64 a0, .int .i64 a1, .slice A2 l2.length c2] w fun e w' => e = .returned (.tuple #[.string r1, .string r2, .int .i64 r3]) ∧ Below w.heap.size w w' := by
  have HR2 := Aside0.mk hr2
  have HC2 := Aside0.mk hc2
  clear hr2 hc2
  have HB := Aside0.mk (Below.refl w.heap.size w)
  have H : ((falseworkref18_vals.f k l2).bind fun bt269 => (if bt269.2 = true then ((falseworkref18_num.f k a0).bind fun t271 => (if 1 + t271.size ≤ 9223372036854775807 then ((falseworkref18_num.f k a1).bind fun t272 => (if ((⟨#[105]⟩ : ByteArray) ++ t271).size + t272.size ≤ 9223372036854775807 then (if (((⟨#[105]⟩ : ByteArray) ++ t271) ++ t272).size + bt269.1.size ≤ 9223372036854775807 then ((falseworkref2_After.f ((((⟨#[105]⟩ : ByteArray) ++ t271) ++ t272) ++ bt269.1)).bind fun bt273 => (some ((((⟨#[105]⟩ : ByteArray) ++ t271) ++ t272) ++ bt269.1, bt273.1, 0))) else (none)) else (none))) else (none))) else (some ((⟨#[]⟩ : ByteArray), (⟨#[]⟩ : ByteArray), 1)))) = some (r1, r2, r3) := h
  clear h
  replace H := Option.bind_eq_some_iff.mp H
  obtain ⟨⟨t269, t270⟩, A40, H⟩ := H
  replace H : (if t270 = true then ((falseworkref18_num.f k a0).bind fun t271 => (if 1 + t271.size ≤ 9223372036854775807 then ((falseworkref18_num.f k a1).bind fun t272 => (if ((⟨#[105]⟩ : ByteArray) ++ t271).size + t272.size ≤ 9223372036854775807 then (if (((⟨#[105]⟩ : ByteArray) ++ t271) ++ t272).size + t269.size ≤ 9223372036854775807 then ((falseworkref2_After.f ((((⟨#[105]⟩ : ByteArray) ++ t271) ++ t272) ++ t269)).bind fun bt273 => (some ((((⟨#[105]⟩ : ByteArray) ++ t271) ++ t272) ++ t269, bt273.1, 0))) else (none)) else (none))) else (none))) else (some ((⟨#[]⟩ : ByteArray), (⟨#[]⟩ : ByteArray), 1))) = some (r1, r2, r3) := H
  have A4 := Aside0.mk A40
  clear A40
  by_cases c5 : t270 = true
  · subst c5
    have H1 : ((falseworkref18_num.f k a0).bind fun t271 => (if 1 + t271.size ≤ 9223372036854775807 then ((falseworkref18_num.f k a1).bind fun t272 => (if ((⟨#[105]⟩ : ByteArray) ++ t271).size + t272.size ≤ 9223372036854775807 then (if (((⟨#[105]⟩ : ByteArray) ++ t271) ++ t272).size + t269.size ≤ 9223372036854775807 then ((falseworkref2_After.f ((((⟨#[105]⟩ : ByteArray) ++ t271) ++ t272) ++ t269)).bind fun bt273 => (some ((((⟨#[105]⟩ : ByteArray) ++ t271) ++ t272) ++ t269, bt273.1, 0))) else (none)) else (none))) else (none))) = some (r1, r2, r3) := by rw [if_pos rfl] at H; exact H
    clear H
    have H := H1
    clear H1
    replace H := Option.bind_eq_some_iff.mp H
    obtain ⟨t271, A60, H⟩ := H
    replace H : (if 1 + t271.size ≤ 9223372036854775807 then ((falseworkref18_num.f k a1).bind fun t272 => (if ((⟨#[105]⟩ : ByteArray) ++ t271).size + t272.size ≤ 9223372036854775807 then (if (((⟨#[105]⟩ : ByteArray) ++ t271) ++ t272).size + t269.size ≤ 9223372036854775807 then ((falseworkref2_After.f ((((⟨#[105]⟩ : ByteArray) ++ t271) ++ t272) ++ t269)).bind fun bt273 => (some ((((⟨#[105]⟩ : ByteArray) ++ t271) ++ t272) ++ t269, bt273.1, 0))) else (none)) else (none))) else (none)) = some (r1, r2, r3) := H
    have A6 := Aside0.mk A60
    clear A60
    by_cases c7 : 1 + t271.size ≤ 9223372036854775807
    · rw [if_pos c7] at H
      have c7b0 := eq_true c7
      have c7b1 : decide (1 + t271.size ≤ 9223372036854775807) = true := decide_eq_true c7
      try have c7b2 : (9223372036854775807 < 1 + t271.size) = False := eq_false (Nat.not_lt.2 c7)
      replace H := Option.bind_eq_some_iff.mp H
      obtain ⟨t272, A80, H⟩ := H
      replace H : (if ((⟨#[105]⟩ : ByteArray) ++ t271).size + t272.size ≤ 9223372036854775807 then (if (((⟨#[105]⟩ : ByteArray) ++ t271) ++ t272).size + t269.size ≤ 9223372036854775807 then ((falseworkref2_After.f ((((⟨#[105]⟩ : ByteArray) ++ t271) ++ t272) ++ t269)).bind fun bt273 => (some ((((⟨#[105]⟩ : ByteArray) ++ t271) ++ t272) ++ t269, bt273.1, 0))) else (none)) else (none)) = some (r1, r2, r3) := H
      have A8 := Aside0.mk A80
      clear A80
      by_cases c9 : ((⟨#[105]⟩ : ByteArray) ++ t271).size + t272.size ≤ 9223372036854775807
      · rw [if_pos c9] at H
        have c9b0 := eq_true c9
        have c9b1 : decide (((⟨#[105]⟩ : ByteArray) ++ t271).size + t272.size ≤ 9223372036854775807) = true := decide_eq_true c9
        try have c9b2 : (9223372036854775807 < ((⟨#[105]⟩ : ByteArray) ++ t271).size + t272.size) = False := eq_false (Nat.not_lt.2 c9)
        (try (have c9b0y := c9b0; simp only [ByteArray.size_append, lit_size, List.size_toArray, List.length_cons, List.length_nil, Nat.zero_add, Nat.reduceAdd] at c9b0y))
        (try (have c9b1y := c9b1; simp only [ByteArray.size_append, lit_size, List.size_toArray, List.length_cons, List.length_nil, Nat.zero_add, Nat.reduceAdd] at c9b1y))
        (try (have c9b2y := c9b2; simp only [ByteArray.size_append, lit_size, List.size_toArray, List.length_cons, List.length_nil, Nat.zero_add, Nat.reduceAdd] at c9b2y))
        by_cases c10 : (((⟨#[105]⟩ : ByteArray) ++ t271) ++ t272).size + t269.size ≤ 9223372036854775807
        · rw [if_pos c10] at H
          have c10b0 := eq_true c10
          have c10b1 : decide ((((⟨#[105]⟩ : ByteArray) ++ t271) ++ t272).size + t269.size ≤ 9223372036854775807) = true := decide_eq_true c10
          try have c10b2 : (9223372036854775807 < (((⟨#[105]⟩ : ByteArray) ++ t271) ++ t272).size + t269.size) = False := eq_false (Nat.not_lt.2 c10)
          (try (have c10b0y := c10b0; simp only [ByteArray.size_append, lit_size, List.size_toArray, List.length_cons, List.length_nil, Nat.zero_add, Nat.reduceAdd] at c10b0y))
          (try (have c10b1y := c10b1; simp only [ByteArray.size_append, lit_size, List.size_toArray, List.length_cons, List.length_nil, Nat.zero_add, Nat.reduceAdd] at c10b1y))
          (try (have c10b2y := c10b2; simp only [ByteArray.size_append, lit_size, List.size_toArray, List.length_cons, List.length_nil, Nat.zero_add, Nat.reduceAdd] at c10b2y))
          replace H := Option.bind_eq_some_iff.mp H
          obtain ⟨⟨t273, t274⟩, A110, H⟩ := H
          replace H : (some ((((⟨#[105]⟩ : ByteArray) ++ t271) ++ t272) ++ t269, t273, 0)) = some (r1, r2, r3) := H
          have A11 := Aside0.mk A110
          clear A110
          simp only [Option.some.injEq, Prod.mk.injEq] at H
          obtain ⟨rfl, rfl, rfl⟩ := H
          go_enter Try.func23, Try.ntmps23
          go_wp2_with (first | ((with_reducible refine gate_callee (f := 32) rfl ?_); refine goesL_ (some 16) rfl rfl Try.func32 (by kernel_rfl) rfl #[.slice A2 l2.length c2] rfl (by (try simp only [List.map_toArray, List.map_cons, List.map_nil]); first | done | rfl | (simp only [List.length_drop, List.length_take]; rfl)) ?_; (with_reducible refine (falseworkref18_vals.calls k _ _ l2 t269 true _ ?side1 ?side2 A4.out).mono ?_); (case side1 => repeat (first | exact HR2.out | (with_reducible refine Kd.C_alloc ?_ _) | (with_reducible refine Kd.C_drewN ?_ _) | (with_reducible refine Kd.C_drew ?_))); (case side2 => exact HC2.out); rintro e w12 ⟨rfl, hb⟩; refine ⟨_, rfl, ?_⟩; have n0_ := Aside0.mk (below_step (by repeat (first | (with_reducible first | exact HB.out | apply below_alloc | apply pw_below_drewN | apply below_drew1) | exact HB.out)) hb); clear HB; have HB := n0_; clear n0_; (try clear hb); (try clear hb2); (try clear hk); (try clear hi)) | ((with_reducible refine gate_callee (f := 28) rfl ?_); refine goesL_ (some 22) rfl rfl Try.func28 (by kernel_rfl) rfl #[.int .i64 a0] rfl (by (try simp only [List.map_toArray, List.map_cons, List.map_nil]); first | done | rfl | (simp only [List.length_drop, List.length_take]; rfl)) ?_; (with_reducible refine (falseworkref18_num.calls k a0 t271 _ A6.out).mono ?_); rintro e w13 ⟨rfl, hb⟩; refine ⟨_, rfl, ?_⟩; have n0_ := Aside0.mk (below_step (by repeat (first | (with_reducible first | exact HB.out | apply below_alloc | apply pw_below_drewN | apply below_drew1) | exact HB.out)) hb); clear HB; have HB := n0_; clear n0_; (try clear hb); (try clear hb2); (try clear hk); (try clear hi)) | ((with_reducible refine gate_callee (f := 28) rfl ?_); refine goesL_ (some 25) rfl rfl Try.func28 (by kernel_rfl) rfl #[.int .i64 a1] rfl (by (try simp only [List.map_toArray, List.map_cons, List.map_nil]); first | done | rfl | (simp only [List.length_drop, List.length_take]; rfl)) ?_; (with_reducible refine (falseworkref18_num.calls k a1 t272 _ A8.out).mono ?_); rintro e w14 ⟨rfl, hb⟩; refine ⟨_, rfl, ?_⟩; have n0_ := Aside0.mk (below_step (by repeat (first | (with_reducible first | exact HB.out | apply below_alloc | apply pw_below_drewN | apply below_drew1) | exact HB.out)) hb); clear HB; have HB := n0_; clear n0_; (try clear hb); (try clear hb2); (try clear hk); (try clear hi)) | ((with_reducible refine gate_callee (f := 30) rfl ?_); refine goesL_ (some 31) rfl rfl Try.func30 (by kernel_rfl) rfl #[.string ((((⟨#[105]⟩ : ByteArray) ++ t271) ++ t272) ++ t269)] rfl (by (try simp only [List.map_toArray, List.map_cons, List.map_nil]); first | done | rfl | (simp only [List.length_drop, List.length_take]; rfl)) ?_; (with_reducible refine (falseworkref2_After.calls ((((⟨#[105]⟩ : ByteArray) ++ t271) ++ t272) ++ t269) t273 t274 _ A11.out).mono ?_); rintro e w15 ⟨rfl, hb⟩; refine ⟨_, rfl, ?_⟩; have n0_ := Aside0.mk (below_step (by repeat (first | (with_reducible first | exact HB.out | apply below_alloc | apply pw_below_drewN | apply below_drew1) | exact HB.out)) hb); clear HB; have HB := n0_; clear n0_; (try clear hb); (try clear hb2); (try clear hk); (try clear hi)))
          go_ret3
          exact ⟨by first | rfl | (simp [errW_none, errW_some] <;> rfl) | (simp [*, errW_none, errW_some] <;> rfl), by repeat (first | (with_reducible first | exact HB.out | apply below_alloc | apply pw_below_drewN | apply below_drew1) | exact HB.out)⟩
        · rw [if_neg c10] at H
          exact absurd H (by simp)
      · rw [if_neg c9] at H
        exact absurd H (by simp)
    · rw [if_neg c7] at H
      exact absurd H (by simp)
  · replace c5 := Bool.eq_false_iff.mpr c5
    subst c5
    have H1 : (some ((⟨#[]⟩ : ByteArray), (⟨#[]⟩ : ByteArray), 1)) = some (r1, r2, r3) := by rw [if_neg (show ¬ (false = true) by decide)] at H; exact H
    clear H
    have H := H1
    clear H1
    simp only [Option.some.injEq, Prod.mk.injEq] at H
    obtain ⟨rfl, rfl, rfl⟩ := H
    go_enter Try.func23, Try.ntmps23
    go_wp2_with (first | ((with_reducible refine gate_callee (f := 32) rfl ?_); refine goesL_ (some 16) rfl rfl Try.func32 (by kernel_rfl) rfl #[.slice A2 l2.length c2] rfl (by (try simp only [List.map_toArray, List.map_cons, List.map_nil]); first | done | rfl | (simp only [List.length_drop, List.length_take]; rfl)) ?_; (with_reducible refine (falseworkref18_vals.calls k _ _ l2 t269 false _ ?side1 ?side2 A4.out).mono ?_); (case side1 => repeat (first | exact HR2.out | (with_reducible refine Kd.C_alloc ?_ _) | (with_reducible refine Kd.C_drewN ?_ _) | (with_reducible refine Kd.C_drew ?_))); (case side2 => exact HC2.out); rintro e w16 ⟨rfl, hb⟩; refine ⟨_, rfl, ?_⟩; have n0_ := Aside0.mk (below_step (by repeat (first | (with_reducible first | exact HB.out | apply below_alloc | apply pw_below_drewN | apply below_drew1) | exact HB.out)) hb); clear HB; have HB := n0_; clear n0_; (try clear hb); (try clear hb2); (try clear hk); (try clear hi)))
    go_ret3
    exact ⟨by first | rfl | (simp [errW_none, errW_some] <;> rfl) | (simp [*, errW_none, errW_some] <;> rfl), by repeat (first | (with_reducible first | exact HB.out | apply below_alloc | apply pw_below_drewN | apply below_drew1) | exact HB.out)⟩

end Go.Proofs.Ytifhnkbhjmapeaa.PA
