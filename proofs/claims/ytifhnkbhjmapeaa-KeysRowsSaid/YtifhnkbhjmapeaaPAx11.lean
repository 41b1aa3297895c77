/- Contracts of the Go functions of this seat: what each call returns is what a Lean function of its arguments says; each theorem bears its own conditions. Written by a program of this session (wip/tools/mkprint.py). -/
import Derived.Test.YtifhnkbhjmapeaaPAx0
import Derived.Test.YtifhnkbhjmapeaaPAx4
import Derived.Test.YtifhnkbhjmapeaaPAx9
import Derived.Test.YtifhnkbhjmapeaaPAx10
namespace Go.Proofs.Ytifhnkbhjmapeaa.PA
open Go.RowKit Go.Proofs.YtifhnkbhjmapeaaW.PrintWords Go.Proofs.YtifhnkbhjmapeaaW.PrintLast Go.Proofs.YtifhnkbhjmapeaaW.PrintMore
attribute [local go_sem] max2_int min2_int max_two min_two max_three min_three max_four min_four   -- for this text's walks alone
set_option linter.unusedVariables false
set_option linter.unusedSimpArgs false

attribute [local go_sem ↓ high] unary_xor_u64 ux_if_u64
attribute [local go_sem] str_gtr str_leq str_geq
/-! ### keys_bounds: function 29 -/
def keys_bounds.f (k : Nat) (a0 : ByteArray) : Option (ByteArray × ByteArray) := (tuple_After.f k a0).bind fun bt213 => (some (a0, bt213.1))
theorem keys_bounds.mono : ∀ a0 k, LeO (keys_bounds.f k a0) (keys_bounds.f (k + 1) a0) := by
  intro a0 k
  unfold keys_bounds.f
  repeat' first
      | (with_reducible exact tuple_After.mono _ _)
      | (with_reducible exact LeO.refl _)
      | (with_reducible exact LeO.none _)
      | (with_reducible refine LeO.ite ?_ ?_)
      | (with_reducible refine LeO.bind ?_ (fun _ => ?_))
      | exact tuple_After.mono _ _
      | exact LeO.none _
      | refine LeO.ite ?_ ?_
      | refine LeO.bind ?_ (fun _ => ?_)
set_option maxHeartbeats 8000000 in
set_option maxRecDepth 100000 in
theorem keys_bounds.calls (k : Nat) (a0 : ByteArray) (r1 : ByteArray) (r2 : ByteArray) (w : World) (h : keys_bounds.f k a0 = some (r1, r2)) :
    Calls Try.prog 29 #[.string a0] w fun e w' => e = .returned (.tuple #[.string r1, .string r2]) ∧ Below w.heap.size w w' := by
  have HB := Aside0.mk (Below.refl w.heap.size w)
  have H : ((tuple_After.f k a0).bind fun bt213 => (some (a0, bt213.1))) = some (r1, r2) := h
  clear h
  replace H := Option.bind_eq_some_iff.mp H
  obtain ⟨⟨t213, t214⟩, A20, H⟩ := H
  replace H : (some (a0, t213)) = some (r1, r2) := H
  have A2 := Aside0.mk A20
  clear A20
  simp only [Option.some.injEq, Prod.mk.injEq] at H
  obtain ⟨rfl, rfl⟩ := H
  go_enter Try.func29, Try.ntmps29
  go_wp2_with (first | ((with_reducible refine gate_callee (f := 38) rfl ?_); refine goesL_ (some 8) rfl rfl Try.func38 (by kernel_rfl) rfl #[.string a0] rfl (by (try simp only [List.map_toArray, List.map_cons, List.map_nil]); first | done | rfl | (simp only [List.length_drop, List.length_take]; rfl)) ?_; (with_reducible refine (tuple_After.calls k a0 t213 t214 _ A2.out).mono ?_); rintro e w3 ⟨rfl, hb⟩; refine ⟨_, rfl, ?_⟩; have n0_ := Aside0.mk (below_step (by repeat (first | (with_reducible first | exact HB.out | apply below_alloc | apply pw_below_drewN | apply below_drew1) | exact HB.out)) hb); clear HB; have HB := n0_; clear n0_; (try clear hb); (try clear hb2); (try clear hk); (try clear hi)))
  go_ret2
  exact ⟨by first | rfl | (simp [errW_none, errW_some] <;> rfl) | (simp [*, errW_none, errW_some] <;> rfl), by repeat (first | (with_reducible first | exact HB.out | apply below_alloc | apply pw_below_drewN | apply below_drew1) | exact HB.out)⟩

/-! ### keys_Rows: function 11 -/
def keys_Rows.f (k : Nat) (a0 : Int) : Option (ByteArray × ByteArray) := (keys_number.f a0).bind fun bt215 => ((keys_joined.f k (⟨#[114]⟩ : ByteArray) (([(⟨bt215.1, bt215.2.1, bt215.2.2.1, bt215.2.2.2⟩ : S24)] : List (S24)))).bind fun bt222 => ((keys_bounds.f k bt222.1).bind fun bt224 => (some (bt224.1, bt224.2))))
theorem keys_Rows.mono : ∀ a0 k, LeO (keys_Rows.f k a0) (keys_Rows.f (k + 1) a0) := by
  intro a0 k
  unfold keys_Rows.f
  repeat' first
      | (with_reducible exact keys_bounds.mono _ _)
      | (with_reducible exact keys_joined.mono _ _ _)
      | (with_reducible exact LeO.refl _)
      | (with_reducible exact LeO.none _)
      | (with_reducible refine LeO.ite ?_ ?_)
      | (with_reducible refine LeO.bind ?_ (fun _ => ?_))
      | exact keys_bounds.mono _ _
      | exact keys_joined.mono _ _ _
      | exact LeO.none _
      | refine LeO.ite ?_ ?_
      | refine LeO.bind ?_ (fun _ => ?_)
set_option maxHeartbeats 8000000 in
set_option maxRecDepth 100000 in
theorem keys_Rows.calls (k : Nat) (a0 : Int) (r1 : ByteArray) (r2 : ByteArray) (w : World) (h : keys_Rows.f k a0 = some (r1, r2)) :
    Calls Try.prog 11 #[.int .i64 a0] w fun e w' => e = .returned (.tuple #[.string r1, .string r2]) ∧ Below w.heap.size w w' := by
  have HB := Aside0.mk (Below.refl w.heap.size w)
  have H : ((keys_number.f a0).bind fun bt215 => ((keys_joined.f k (⟨#[114]⟩ : ByteArray) (([(⟨bt215.1, bt215.2.1, bt215.2.2.1, bt215.2.2.2⟩ : S24)] : List (S24)))).bind fun bt222 => ((keys_bounds.f k bt222.1).bind fun bt224 => (some (bt224.1, bt224.2))))) = some (r1, r2) := h
  clear h
  replace H := Option.bind_eq_some_iff.mp H
  obtain ⟨⟨t215, t216, t217, t218⟩, A20, H⟩ := H
  replace H : ((keys_joined.f k (⟨#[114]⟩ : ByteArray) (([(⟨t215, t216, t217, t218⟩ : S24)] : List (S24)))).bind fun bt222 => ((keys_bounds.f k bt222.1).bind fun bt224 => (some (bt224.1, bt224.2)))) = some (r1, r2) := H
  have A2 := Aside0.mk A20
  clear A20
  obtain ⟨y219, hy219⟩ : ∃ y_ : List (S24), y_ = (([(⟨t215, t216, t217, t218⟩ : S24)] : List (S24))) := ⟨_, rfl⟩
  replace H : ((keys_joined.f k (⟨#[114]⟩ : ByteArray) y219).bind fun bt222 => ((keys_bounds.f k bt222.1).bind fun bt224 => (some (bt224.1, bt224.2)))) = some (r1, r2) := by first | (rw [hy219]; with_reducible exact H) | (have H2_ := (Option.bind_some _ _).symm.trans H; rw [hy219]; with_reducible exact H2_) | (have H2_ := (Option.bind_some _ _).symm.trans H; with_reducible exact H2_) | with_reducible exact H | (rw [hy219]; exact H) | exact H
  have Ny219 := Aside0.mk hy219
  clear hy219
  replace H := Option.bind_eq_some_iff.mp H
  obtain ⟨⟨t222, t223⟩, A30, H⟩ := H
  replace H : ((keys_bounds.f k t222).bind fun bt224 => (some (bt224.1, bt224.2))) = some (r1, r2) := H
  have A3 := Aside0.mk A30
  clear A30
  replace H := Option.bind_eq_some_iff.mp H
  obtain ⟨⟨t224, t225⟩, A40, H⟩ := H
  replace H : (some (t224, t225)) = some (r1, r2) := H
  have A4 := Aside0.mk A40
  clear A40
  simp only [Option.some.injEq, Prod.mk.injEq] at H
  obtain ⟨rfl, rfl⟩ := H
  go_enter Try.func11, Try.ntmps11
  go_wp2_with (first | ((with_reducible refine gate_callee (f := 26) rfl ?_); refine goesL_ (some 8) rfl rfl Try.func26 (by kernel_rfl) rfl #[.int .i64 a0] rfl (by (try simp only [List.map_toArray, List.map_cons, List.map_nil]); first | done | rfl | (simp only [List.length_drop, List.length_take]; rfl)) ?_; (with_reducible refine (keys_number.calls a0 t215 t216 t217 t218 _ A2.out).mono ?_); rintro e w5 ⟨rfl, hb⟩; refine ⟨_, rfl, ?_⟩; have n0_ := Aside0.mk (below_step (by repeat (first | (with_reducible first | exact HB.out | apply below_alloc | apply pw_below_drewN | apply below_drew1) | exact HB.out)) hb); clear HB; have HB := n0_; clear n0_; (try clear hb); (try clear hb2); (try clear hk); (try clear hi)) | ((with_reducible refine gate_dst (N := 9) rfl ?_); refine Kd.R_lit k24 _ 24 ?hg (N := 9) ?hd (xs := ([(⟨t215, t216, t217, t218⟩ : S24)] : List (S24))) (inner := [.int .i64 t215, .int .i64 t216, .int .u64 t217, .string t218]) (ok := fun _ => True) (okp := fun _ => True) ?hr ?hp (fun _ hk => hk) trivial (Below.refl _ _) (Nat.le_refl _) (by simp) ?_; (case hd => rfl); (case hg => rfl); (case hr => first | (go_simp; done) | (go_simp; rfl)); (case hp => exact (Reps.c4 (show Kd.M k24 _ _ _ (⟨t215, t216, t217, t218⟩ : S24) [.int .i64 t215, .int .i64 t216, .int .u64 t217, .string t218] from (k24_mkM _ _ _ (⟨t215, t216, t217, t218⟩ : S24) )) (Reps.none _ _))); intro v220 w6 ho7 hb hg_ hnew_; clear hg_ hnew_; (first | rw [← Ny219.out] at ho7 | (simp only [Int.reduceToNat] at ho7; rw [← Ny219.out] at ho7)); have n0_ := Aside0.mk (Kd.R_lower ho7 (below_size (by repeat (first | (with_reducible first | exact HB.out | apply below_alloc | apply pw_below_drewN | apply below_drew1) | exact HB.out)))); have n1_ := Aside0.mk (below_step (by repeat (first | (with_reducible first | exact HB.out | apply below_alloc | apply pw_below_drewN | apply below_drew1) | exact HB.out)) hb); clear HB; have HO221 := n0_; have HB := n1_; clear n0_ n1_; clear hb ho7; obtain ⟨Ao8, co8, eo8⟩ := Kd.R_slice HO221.out; subst eo8) | ((with_reducible refine gate_callee (f := 25) rfl ?_); refine goesL_ (some 10) rfl rfl Try.func25 (by kernel_rfl) rfl #[.string (⟨#[114]⟩ : ByteArray), .slice Ao8 y219.length co8] rfl (by (try simp only [List.map_toArray, List.map_cons, List.map_nil]); first | done | rfl | (simp only [List.length_drop, List.length_take]; rfl)) ?_; (with_reducible refine (keys_joined.calls k (⟨#[114]⟩ : ByteArray) _ _ y219 t222 t223 _ ?side1 ?side2 A3.out).mono ?_); (case side1 => repeat (first | exact (Kd.R_reads' HO221.out).2.2 | (with_reducible refine Kd.C_alloc ?_ _) | (with_reducible refine Kd.C_drewN ?_ _) | (with_reducible refine Kd.C_drew ?_))); (case side2 => exact (Kd.R_reads' HO221.out).2.1); rintro e w9 ⟨rfl, hb⟩; refine ⟨_, rfl, ?_⟩; have n0_ := Aside0.mk (Kd.R_below (by (with_reducible repeat (first | apply Kd.R_alloc | apply Kd.R_drewN | apply Kd.R_drew)); exact HO221.out) hb); have n1_ := Aside0.mk (below_step (by repeat (first | (with_reducible first | exact HB.out | apply below_alloc | apply pw_below_drewN | apply below_drew1) | exact HB.out)) hb); clear HO221; clear HB; have HO221 := n0_; have HB := n1_; clear n0_ n1_; (try clear hb); (try clear hb2); (try clear hk); (try clear hi)) | ((with_reducible refine gate_callee (f := 29) rfl ?_); refine goesL_ (some 14) rfl rfl Try.func29 (by kernel_rfl) rfl #[.string t222] rfl (by (try simp only [List.map_toArray, List.map_cons, List.map_nil]); first | done | rfl | (simp only [List.length_drop, List.length_take]; rfl)) ?_; (with_reducible refine (keys_bounds.calls k t222 t224 t225 _ A4.out).mono ?_); rintro e w10 ⟨rfl, hb⟩; refine ⟨_, rfl, ?_⟩; have n0_ := Aside0.mk (Kd.R_below (by (with_reducible repeat (first | apply Kd.R_alloc | apply Kd.R_drewN | apply Kd.R_drew)); exact HO221.out) hb); have n1_ := Aside0.mk (below_step (by repeat (first | (with_reducible first | exact HB.out | apply below_alloc | apply pw_below_drewN | apply below_drew1) | exact HB.out)) hb); clear HO221; clear HB; have HO221 := n0_; have HB := n1_; clear n0_ n1_; (try clear hb); (try clear hb2); (try clear hk); (try clear hi)))
  go_ret2
  exact ⟨by first | rfl | (simp [errW_none, errW_some] <;> rfl) | (simp [*, errW_none, errW_some] <;> rfl), by repeat (first | (with_reducible first | exact HB.out | apply below_alloc | apply pw_below_drewN | apply below_drew1) | exact HB.out)⟩

/-! ### falseworkref2_After: function 30 -/
/-- Up to where the bytes ahead of place n are not all ff. -/
def falseworkref2_After.cut (s : ByteArray) : Nat → Nat
  | 0 => 0
  | n + 1 => if bt s (n : Int) = 255 then falseworkref2_After.cut s n else n + 1
theorem falseworkref2_After.cut_le (s : ByteArray) : ∀ n, falseworkref2_After.cut s n ≤ n
  | 0 => Nat.le_refl _
  | n + 1 => by unfold falseworkref2_After.cut; split; exact Nat.le_succ_of_le (falseworkref2_After.cut_le s n); exact Nat.le_refl _
theorem falseworkref2_After.cut_ff (s : ByteArray) : ∀ n j, falseworkref2_After.cut s n ≤ j → j < n → bt s (j : Int) = 255
  | 0, j, _, h => absurd h (Nat.not_lt_zero _)
  | n + 1, j, h, hj => by
    unfold falseworkref2_After.cut at h
    split at h
    · rename_i h'
      by_cases e : j = n
      · rw [e]; exact h'
      · exact falseworkref2_After.cut_ff s n j h (by omega)
    · omega
theorem falseworkref2_After.cut_end (s : ByteArray) : ∀ n m, falseworkref2_After.cut s n = m + 1 → ¬ bt s (m : Int) = 255
  | 0, m, h => by cases h
  | n + 1, m, h => by
    unfold falseworkref2_After.cut at h
    split at h
    · exact falseworkref2_After.cut_end s n m h
    · rename_i h'
      have : n = m := by omega
      rw [← this]; exact h'
theorem bt_extract0 (s : ByteArray) (n : Nat) (i : Int) (h0 : 0 ≤ i) (h : i < (n : Int)) : bt (s.extract 0 n) i = bt s i := by
  unfold bt
  have hz : (s.extract 0 n).size = min n s.size := by rw [ByteArray.size_extract]; omega
  by_cases hs : i.toNat < s.size
  · rw [dif_pos hs, dif_pos (by omega)]
    rw [ByteArray.getElem_extract]; simp
  · rw [dif_neg hs, dif_neg (by omega)]
theorem str_last (s : ByteArray) (n : Nat) (i v : Int) (h0 : 0 ≤ i) (h : i + 1 = (n : Int)) (hn : n ≤ s.size) : strOfNums ((bytesOf (s.extract 0 n)).set i.toNat v) = s.extract 0 i.toNat ++ strOfNums [v] := by
  obtain ⟨j, rfl⟩ : ∃ j : Nat, i = (j : Int) := ⟨i.toNat, by omega⟩
  obtain rfl : n = j + 1 := by omega
  rw [Int.toNat_natCast]
  have hl : j < s.data.toList.length := by rw [data_length]; omega
  have h1 : bytesOf (s.extract 0 (j + 1)) = (s.data.toList.take j).map (fun b => (b.toNat : Int)) ++ [((s.data.toList[j]'hl).toNat : Int)] := by
    unfold bytesOf
    rw [ByteArray.data_extract, Array.toList_extract]
    simp only [List.extract_eq_take_drop, List.drop_zero, Nat.sub_zero]
    rw [List.take_succ_eq_append_getElem hl, List.map_append]; rfl
  have h2 : ((s.data.toList.take j).map (fun b => (b.toNat : Int))).length = j := by rw [List.length_map, List.length_take]; omega
  rw [h1, List.set_append_right _ _ (by omega), h2, Nat.sub_self, List.set_cons_zero]
  apply ByteArray.ext
  rw [← Array.toList_inj, ByteArray.data_append, Array.toList_append, ByteArray.data_extract, Array.toList_extract]
  simp only [strOfNums, List.map_append, List.map_map, List.extract_eq_take_drop, List.drop_zero, Nat.sub_zero]
  congr 1
  conv => rhs; rw [← List.map_id (List.take j s.data.toList)]
  apply List.map_congr_left
  intro b _
  simp
def falseworkref2_After.f (a0 : ByteArray) : Option (ByteArray × Bool) :=
  if a0.size ≤ 1000000 then
    (match falseworkref2_After.cut a0 a0.size with
    | 0 => some (⟨#[]⟩, false)
    | m + 1 => some (a0.extract 0 m ++ strOfNums [(bt a0 (m : Int) + 1) % 256], true))
  else none
set_option maxHeartbeats 4000000 in
set_option maxRecDepth 100000 in
theorem falseworkref2_After.walk0 (a0 : ByteArray) (w : World) (hs : a0.size ≤ 1000000) (hm : falseworkref2_After.cut a0 a0.size = 0) :
    Calls Try.prog 30 #[.string a0] w fun e w' => e = .returned (.tuple #[.string ⟨#[]⟩, .bool false]) ∧ Below w.heap.size w w' := by
  have hff := falseworkref2_After.cut_ff a0 a0.size
  rw [hm] at hff
  clear hm
  have HF := Aside0.mk hff
  clear hff
  go_enter Try.func30, Try.ntmps30
  go_wp2
  go_loop [4] (fun v => ∃ x : Int, 0 ≤ x ∧ x ≤ a0.size ∧ v = .int .i64 x) (fun v => (intOf v).toNat)
  case atStart => exact ⟨_, by omega, Int.le_refl _, rfl⟩
  case round =>
    obtain ⟨x, h0, h1, rfl⟩ := hrel
    by_cases c : 0 < x
    · have cb0 : decide (0 < x) = true := decide_eq_true c
      obtain ⟨ji, hji⟩ : ∃ j_ : Int, wrap64 (x - 1) = j_ := ⟨_, rfl⟩
      have hx : ji = x - 1 := by rw [← hji]; unfold wrap64; omega
      have hjiw : (IntKind.i64.wrap (x - 1)) = ji := (i64_w _).trans hji
      have c7 : bt a0 ji = 255 := by
        have := HF.out ji.toNat (Nat.zero_le _) (by omega)
        rwa [show ((ji.toNat : Nat) : Int) = ji by omega] at this
      have c7b0 : (bt a0 ji == 255) = true := beq_iff_eq.mpr c7
      have c7b1 : (bt a0 ji != 255) = false := bne_eq_false_iff_eq.mpr c7
      clear c7
      have c4b0 : decide (0 ≤ ji) = true := decide_eq_true (by omega)
      have c5b0 : decide (ji < (a0.size : Int)) = true := decide_eq_true (by omega)
      have p6 := eq_true (show 0 ≤ ji by omega)
      have q6 := eq_true (show ji < (a0.size : Int) by omega)
      have hx6 := bt_at a0 ji
      have HX := Aside0.mk hx
      clear hx c
      go_wp2
      go_round
      case rel => exact ⟨ji, by have := HX.out; have := of_decide_eq_true cb0; omega, by have := HX.out; omega, by first | rfl | (simp; done) | (simp [*]; done)⟩
      case measure => have := HX.out; have := of_decide_eq_true cb0; simp [intOf]; omega
    · obtain rfl : x = 0 := by omega
      go_wp2
      go_ret2
      exact ⟨rfl, Below.refl _ _⟩
set_option maxHeartbeats 4000000 in
set_option maxRecDepth 100000 in
theorem falseworkref2_After.walk1 (a0 : ByteArray) (y : Nat) (ji : Int) (w : World) (hs : a0.size ≤ 1000000) (hy0 : 0 < y) (hy1 : y ≤ a0.size) (hj : wrap64 ((y : Int) - 1) = ji) (HJ : Aside0 (ji = (y : Int) - 1))
    (HF : Aside0 (∀ j : Nat, y ≤ j → j < a0.size → bt a0 (j : Int) = 255)) (HE : Aside0 (¬ bt a0 ji = 255)) :
    Calls Try.prog 30 #[.string a0] w fun e w' => e = .returned (.tuple #[.string (a0.extract 0 ji.toNat ++ strOfNums [(bt a0 ji + 1) % 256]), .bool true]) ∧ Below w.heap.size w w' := by
  have kb := fun (s : ByteArray) (W : World) => print_bytes (P := Try.prog) 9 67 5 Try.underlying9 Try.underlying67 Try.underlying5 s W
  have HJ2 := Aside0.mk hj
  clear hj
  go_enter Try.func30, Try.ntmps30
  go_wp2
  go_loop [4] (fun v => ∃ x : Int, (y : Int) ≤ x ∧ x ≤ a0.size ∧ v = .int .i64 x) (fun v => (intOf v).toNat)
  case atStart => exact ⟨_, by omega, Int.le_refl _, rfl⟩
  case round =>
    obtain ⟨x, h0, h1, rfl⟩ := hrel
    by_cases c : (y : Int) < x
    · have cb0 : decide (0 < x) = true := decide_eq_true (by omega)
      obtain ⟨ji, hji⟩ : ∃ j_ : Int, wrap64 (x - 1) = j_ := ⟨_, rfl⟩
      have hx : ji = x - 1 := by rw [← hji]; unfold wrap64; omega
      have hjiw : (IntKind.i64.wrap (x - 1)) = ji := (i64_w _).trans hji
      have c7 : bt a0 ji = 255 := by
        have := HF.out ji.toNat (by omega) (by omega)
        rwa [show ((ji.toNat : Nat) : Int) = ji by omega] at this
      have c7b0 : (bt a0 ji == 255) = true := beq_iff_eq.mpr c7
      have c7b1 : (bt a0 ji != 255) = false := bne_eq_false_iff_eq.mpr c7
      clear c7
      have c4b0 : decide (0 ≤ ji) = true := decide_eq_true (by omega)
      have c5b0 : decide (ji < (a0.size : Int)) = true := decide_eq_true (by omega)
      have p6 := eq_true (show 0 ≤ ji by omega)
      have q6 := eq_true (show ji < (a0.size : Int) by omega)
      have hx6 := bt_at a0 ji
      have HX := Aside0.mk hx
      have HC := Aside0.mk c
      clear hx c
      go_wp2
      go_round
      case rel => exact ⟨ji, by have := HX.out; have := HC.out; omega, by have := HX.out; omega, by first | rfl | (simp; done) | (simp [*]; done)⟩
      case measure => have := HX.out; have := HC.out; simp [intOf]; omega
    · obtain rfl : x = (y : Int) := by omega
      have hjj := HJ.out
      have cb0 : decide (0 < (y : Int)) = true := decide_eq_true (by omega)
      have cb1 : ((y : Int) == 0) = false := beq_eq_false_iff_ne.mpr (by omega)
      have hjix := HJ2.out
      have hjiw : (IntKind.i64.wrap ((y : Int) - 1)) = ji := (i64_w _).trans hjix
      have c7b0 : (bt a0 ji == 255) = false := beq_eq_false_iff_ne.mpr HE.out
      have c7b1 : (bt a0 ji != 255) = true := bne_iff_ne.mpr HE.out
      have c4b0 : decide (0 ≤ ji) = true := decide_eq_true (by omega)
      have c5b0 : decide (ji < (a0.size : Int)) = true := decide_eq_true (by omega)
      have p6 := eq_true (show 0 ≤ ji by omega)
      have q6 := eq_true (show ji < (a0.size : Int) by omega)
      have hx6 := bt_at a0 ji
      have q8 := eq_true (show ji < (y : Int) by omega)
      have p7 := eq_true (show 0 ≤ (y : Int) by omega)
      have q7 := eq_true (show (y : Int) ≤ (a0.size : Int) by omega)
      have hM := MRow.new w 5 (a0.extract 0 y)
      have hes : (a0.extract 0 y).size = y := ext0_size (by omega)
      have hbl : (bytesOf (a0.extract 0 y)).length = y := by rw [bytesOf_length, hes]
      have hrd : rd (bytesOf (a0.extract 0 y)) ji = bt a0 ji := by rw [rd_bytesOf, bt_extract0 _ _ _ (by omega) (by omega)]
      obtain ⟨hc, hf⟩ := hM.at_ ji (by omega) (by omega)
      rw [hrd] at hc
      have hM2 := hM.set_ ji ((bt a0 ji + 1) % 256) (by omega) (by omega)
      have hstr := fun cap => MRow.str (P := Try.prog) (src := 67) (dst := 9) (e := 5) Try.underlying67 Try.underlying5 Try.underlying9 hM2 y cap (by rw [List.length_set]; exact hbl)
      have hend : strOfNums ((bytesOf (a0.extract 0 y)).set ji.toNat ((bt a0 ji + 1) % 256)) = a0.extract 0 ji.toNat ++ strOfNums [(bt a0 ji + 1) % 256] := str_last _ _ _ _ (by omega) (by omega) (by omega)
      rw [hend] at hstr
      have hB := bytes_below (Below.refl w.heap.size w) (Nat.le_refl _) 5 (a0.extract 0 y)
      have HB := Aside0.mk hB
      clear hjj c hM hM2 hes hbl hrd hend hB
      go_wp2
      go_ret2
      exact ⟨rfl, below_set HB.out (Nat.le_refl _)⟩
theorem falseworkref2_After.calls (a0 : ByteArray) (r1 : ByteArray) (r2 : Bool) (w : World) (h : falseworkref2_After.f a0 = some (r1, r2)) :
    Calls Try.prog 30 #[.string a0] w fun e w' => e = .returned (.tuple #[.string r1, .bool r2]) ∧ Below w.heap.size w w' := by
  unfold falseworkref2_After.f at h
  by_cases hs : a0.size ≤ 1000000
  · rw [if_pos hs] at h
    cases hm : falseworkref2_After.cut a0 a0.size with
    | zero => rw [hm] at h; obtain ⟨rfl, rfl⟩ := Prod.mk.inj (Option.some.inj h); exact falseworkref2_After.walk0 a0 w hs hm
    | succ m =>
      rw [hm] at h
      obtain ⟨rfl, rfl⟩ := Prod.mk.inj (Option.some.inj h)
      have hle := falseworkref2_After.cut_le a0 a0.size
      have hff := falseworkref2_After.cut_ff a0 a0.size
      rw [hm] at hle hff
      have key := falseworkref2_After.walk1 a0 (m + 1) (m : Int) w hs (by omega) (by omega) (by unfold wrap64; omega) ⟨by omega⟩ ⟨fun j h1 h2 => hff j (by omega) h2⟩ ⟨falseworkref2_After.cut_end a0 a0.size m hm⟩
      rw [Int.toNat_natCast] at key
      exact key
  · rw [if_neg hs] at h; cases h

/-! ### falseworkref18_Rows: function 12 -/
def falseworkref18_Rows.f (k : Nat) (a0 : Int) : Option (ByteArray × ByteArray) := (falseworkref18_num.f k a0).bind fun t226 => (if 1 + t226.size ≤ 9223372036854775807 then ((falseworkref2_After.f ((⟨#[114]⟩ : ByteArray) ++ t226)).bind fun bt227 => (some ((⟨#[114]⟩ : ByteArray) ++ t226, bt227.1))) else (none))
theorem falseworkref18_Rows.mono : ∀ a0 k, LeO (falseworkref18_Rows.f k a0) (falseworkref18_Rows.f (k + 1) a0) := by
  intro a0 k
  unfold falseworkref18_Rows.f
  repeat' first
      | (with_reducible exact falseworkref18_num.mono _ _)
      | (with_reducible exact LeO.refl _)
      | (with_reducible exact LeO.none _)
      | (with_reducible refine LeO.ite ?_ ?_)
      | (with_reducible refine LeO.bind ?_ (fun _ => ?_))
      | exact falseworkref18_num.mono _ _
      | exact LeO.none _
      | refine LeO.ite ?_ ?_
      | refine LeO.bind ?_ (fun _ => ?_)
set_option maxHeartbeats 8000000 in
set_option maxRecDepth 100000 in
theorem falseworkref18_Rows.calls (k : Nat) (a0 : Int) (r1 : ByteArray) (r2 : ByteArray) (w : World) (h : falseworkref18_Rows.f k a0 = some (r1, r2)) :
    Calls Try.prog 12 #[.int .i64 a0] w fun e w' => e = .returned (.tuple #[.string r1, .string r2]) ∧ Below w.heap.size w w' := by
  have HB := Aside0.mk (Below.refl w.heap.size w)
  have H : ((falseworkref18_num.f k a0).bind fun t226 => (if 1 + t226.size ≤ 9223372036854775807 then ((falseworkref2_After.f ((⟨#[114]⟩ : ByteArray) ++ t226)).bind fun bt227 => (some ((⟨#[114]⟩ : ByteArray) ++ t226, bt227.1))) else (none))) = some (r1, r2) := h
  clear h
  replace H := Option.bind_eq_some_iff.mp H
  obtain ⟨t226, A20, H⟩ := H
  replace H : (if 1 + t226.size ≤ 9223372036854775807 then ((falseworkref2_After.f ((⟨#[114]⟩ : ByteArray) ++ t226)).bind fun bt227 => (some ((⟨#[114]⟩ : ByteArray) ++ t226, bt227.1))) else (none)) = some (r1, r2) := H
  have A2 := Aside0.mk A20
  clear A20
  by_cases c3 : 1 + t226.size ≤ 9223372036854775807
  · rw [if_pos c3] at H
    have c3b0 := eq_true c3
    have c3b1 : decide (1 + t226.size ≤ 9223372036854775807) = true := decide_eq_true c3
    try have c3b2 : (9223372036854775807 < 1 + t226.size) = False := eq_false (Nat.not_lt.2 c3)
    replace H := Option.bind_eq_some_iff.mp H
    obtain ⟨⟨t227, t228⟩, A40, H⟩ := H
    replace H : (some ((⟨#[114]⟩ : ByteArray) ++ t226, t227)) = some (r1, r2) := H
    have A4 := Aside0.mk A40
    clear A40
    simp only [Option.some.injEq, Prod.mk.injEq] at H
    obtain ⟨rfl, rfl⟩ := H
    go_enter Try.func12, Try.ntmps12
    go_wp2_with (first | ((with_reducible refine gate_callee (f := 28) rfl ?_); refine goesL_ (some 8) rfl rfl Try.func28 (by kernel_rfl) rfl #[.int .i64 a0] rfl (by (try simp only [List.map_toArray, List.map_cons, List.map_nil]); first | done | rfl | (simp only [List.length_drop, List.length_take]; rfl)) ?_; (with_reducible refine (falseworkref18_num.calls k a0 t226 _ A2.out).mono ?_); rintro e w5 ⟨rfl, hb⟩; refine ⟨_, rfl, ?_⟩; have n0_ := Aside0.mk (below_step (by repeat (first | (with_reducible first | exact HB.out | apply below_alloc | apply pw_below_drewN | apply below_drew1) | exact HB.out)) hb); clear HB; have HB := n0_; clear n0_; (try clear hb); (try clear hb2); (try clear hk); (try clear hi)) | ((with_reducible refine gate_callee (f := 30) rfl ?_); refine goesL_ (some 12) rfl rfl Try.func30 (by kernel_rfl) rfl #[.string ((⟨#[114]⟩ : ByteArray) ++ t226)] rfl (by (try simp only [List.map_toArray, List.map_cons, List.map_nil]); first | done | rfl | (simp only [List.length_drop, List.length_take]; rfl)) ?_; (with_reducible refine (falseworkref2_After.calls ((⟨#[114]⟩ : ByteArray) ++ t226) t227 t228 _ A4.out).mono ?_); rintro e w6 ⟨rfl, hb⟩; refine ⟨_, rfl, ?_⟩; have n0_ := Aside0.mk (below_step (by repeat (first | (with_reducible first | exact HB.out | apply below_alloc | apply pw_below_drewN | apply below_drew1) | exact HB.out)) hb); clear HB; have HB := n0_; clear n0_; (try clear hb); (try clear hb2); (try clear hk); (try clear hi)))
    go_ret2
    exact ⟨by first | rfl | (simp [errW_none, errW_some] <;> rfl) | (simp [*, errW_none, errW_some] <;> rfl), by repeat (first | (with_reducible first | exact HB.out | apply below_alloc | apply pw_below_drewN | apply below_drew1) | exact HB.out)⟩
  · rw [if_neg c3] at H
    exact absurd H (by simp)

/-! ### keys_Job: function 14 -/
def keys_Job.f (k : Nat) (a0 : Int) : Option (ByteArray) := (keys_number.f a0).bind fun bt229 => ((keys_joined.f k (⟨#[106]⟩ : ByteArray) (([(⟨bt229.1, bt229.2.1, bt229.2.2.1, bt229.2.2.2⟩ : S24)] : List (S24)))).bind fun bt236 => (some bt236.1))
theorem keys_Job.mono : ∀ a0 k, LeO (keys_Job.f k a0) (keys_Job.f (k + 1) a0) := by
  intro a0 k
  unfold keys_Job.f
  repeat' first
      | (with_reducible exact keys_joined.mono _ _ _)
      | (with_reducible exact LeO.refl _)
      | (with_reducible exact LeO.none _)
      | (with_reducible refine LeO.ite ?_ ?_)
      | (with_reducible refine LeO.bind ?_ (fun _ => ?_))
      | exact keys_joined.mono _ _ _
      | exact LeO.none _
      | refine LeO.ite ?_ ?_
      | refine LeO.bind ?_ (fun _ => ?_)
set_option maxHeartbeats 8000000 in
set_option maxRecDepth 100000 in
theorem keys_Job.calls (k : Nat) (a0 : Int) (r : ByteArray) (w : World) (h : keys_Job.f k a0 = some r) :
    Calls Try.prog 14 #[.int .i64 a0] w fun e w' => e = .returned (.string r) ∧ Below w.heap.size w w' := by
  have HB := Aside0.mk (Below.refl w.heap.size w)
  have H : ((keys_number.f a0).bind fun bt229 => ((keys_joined.f k (⟨#[106]⟩ : ByteArray) (([(⟨bt229.1, bt229.2.1, bt229.2.2.1, bt229.2.2.2⟩ : S24)] : List (S24)))).bind fun bt236 => (some bt236.1))) = some r := h
  clear h
  replace H := Option.bind_eq_some_iff.mp H
  obtain ⟨⟨t229, t230, t231, t232⟩, A20, H⟩ := H
  replace H : ((keys_joined.f k (⟨#[106]⟩ : ByteArray) (([(⟨t229, t230, t231, t232⟩ : S24)] : List (S24)))).bind fun bt236 => (some bt236.1)) = some r := H
  have A2 := Aside0.mk A20
  clear A20
  obtain ⟨y233, hy233⟩ : ∃ y_ : List (S24), y_ = (([(⟨t229, t230, t231, t232⟩ : S24)] : List (S24))) := ⟨_, rfl⟩
  replace H : ((keys_joined.f k (⟨#[106]⟩ : ByteArray) y233).bind fun bt236 => (some bt236.1)) = some r := by first | (rw [hy233]; with_reducible exact H) | (have H2_ := (Option.bind_some _ _).symm.trans H; rw [hy233]; with_reducible exact H2_) | (have H2_ := (Option.bind_some _ _).symm.trans H; with_reducible exact H2_) | with_reducible exact H | (rw [hy233]; exact H) | exact H
  have Ny233 := Aside0.mk hy233
  clear hy233
  replace H := Option.bind_eq_some_iff.mp H
  obtain ⟨⟨t236, t237⟩, A30, H⟩ := H
  replace H : (some t236) = some r := H
  have A3 := Aside0.mk A30
  clear A30
  obtain rfl := Option.some.inj H
  go_enter Try.func14, Try.ntmps14
  go_wp2_with (first | ((with_reducible refine gate_callee (f := 26) rfl ?_); refine goesL_ (some 7) rfl rfl Try.func26 (by kernel_rfl) rfl #[.int .i64 a0] rfl (by (try simp only [List.map_toArray, List.map_cons, List.map_nil]); first | done | rfl | (simp only [List.length_drop, List.length_take]; rfl)) ?_; (with_reducible refine (keys_number.calls a0 t229 t230 t231 t232 _ A2.out).mono ?_); rintro e w4 ⟨rfl, hb⟩; refine ⟨_, rfl, ?_⟩; have n0_ := Aside0.mk (below_step (by repeat (first | (with_reducible first | exact HB.out | apply below_alloc | apply pw_below_drewN | apply below_drew1) | exact HB.out)) hb); clear HB; have HB := n0_; clear n0_; (try clear hb); (try clear hb2); (try clear hk); (try clear hi)) | ((with_reducible refine gate_dst (N := 8) rfl ?_); refine Kd.R_lit k24 _ 24 ?hg (N := 8) ?hd (xs := ([(⟨t229, t230, t231, t232⟩ : S24)] : List (S24))) (inner := [.int .i64 t229, .int .i64 t230, .int .u64 t231, .string t232]) (ok := fun _ => True) (okp := fun _ => True) ?hr ?hp (fun _ hk => hk) trivial (Below.refl _ _) (Nat.le_refl _) (by simp) ?_; (case hd => rfl); (case hg => rfl); (case hr => first | (go_simp; done) | (go_simp; rfl)); (case hp => exact (Reps.c4 (show Kd.M k24 _ _ _ (⟨t229, t230, t231, t232⟩ : S24) [.int .i64 t229, .int .i64 t230, .int .u64 t231, .string t232] from (k24_mkM _ _ _ (⟨t229, t230, t231, t232⟩ : S24) )) (Reps.none _ _))); intro v234 w5 ho6 hb hg_ hnew_; clear hg_ hnew_; (first | rw [← Ny233.out] at ho6 | (simp only [Int.reduceToNat] at ho6; rw [← Ny233.out] at ho6)); have n0_ := Aside0.mk (Kd.R_lower ho6 (below_size (by repeat (first | (with_reducible first | exact HB.out | apply below_alloc | apply pw_below_drewN | apply below_drew1) | exact HB.out)))); have n1_ := Aside0.mk (below_step (by repeat (first | (with_reducible first | exact HB.out | apply below_alloc | apply pw_below_drewN | apply below_drew1) | exact HB.out)) hb); clear HB; have HO235 := n0_; have HB := n1_; clear n0_ n1_; clear hb ho6; obtain ⟨Ao7, co7, eo7⟩ := Kd.R_slice HO235.out; subst eo7) | ((with_reducible refine gate_callee (f := 25) rfl ?_); refine goesL_ (some 9) rfl rfl Try.func25 (by kernel_rfl) rfl #[.string (⟨#[106]⟩ : ByteArray), .slice Ao7 y233.length co7] rfl (by (try simp only [List.map_toArray, List.map_cons, List.map_nil]); first | done | rfl | (simp only [List.length_drop, List.length_take]; rfl)) ?_; (with_reducible refine (keys_joined.calls k (⟨#[106]⟩ : ByteArray) _ _ y233 t236 t237 _ ?side1 ?side2 A3.out).mono ?_); (case side1 => repeat (first | exact (Kd.R_reads' HO235.out).2.2 | (with_reducible refine Kd.C_alloc ?_ _) | (with_reducible refine Kd.C_drewN ?_ _) | (with_reducible refine Kd.C_drew ?_))); (case side2 => exact (Kd.R_reads' HO235.out).2.1); rintro e w8 ⟨rfl, hb⟩; refine ⟨_, rfl, ?_⟩; have n0_ := Aside0.mk (Kd.R_below (by (with_reducible repeat (first | apply Kd.R_alloc | apply Kd.R_drewN | apply Kd.R_drew)); exact HO235.out) hb); have n1_ := Aside0.mk (below_step (by repeat (first | (with_reducible first | exact HB.out | apply below_alloc | apply pw_below_drewN | apply below_drew1) | exact HB.out)) hb); clear HO235; clear HB; have HO235 := n0_; have HB := n1_; clear n0_ n1_; (try clear hb); (try clear hb2); (try clear hk); (try clear hi)))
  go_ret
  exact ⟨by first | rfl | (simp [errW_none, errW_some] <;> rfl) | (simp [*, errW_none, errW_some] <;> rfl), by repeat (first | (with_reducible first | exact HB.out | apply below_alloc | apply pw_below_drewN | apply below_drew1) | exact HB.out)⟩

/-! ### falseworkref18_Job: function 15 -/
def falseworkref18_Job.f (k : Nat) (a0 : Int) : Option (ByteArray) := (falseworkref18_num.f k a0).bind fun t238 => (if 1 + t238.size ≤ 9223372036854775807 then (some ((⟨#[106]⟩ : ByteArray) ++ t238)) else (none))
theorem falseworkref18_Job.mono : ∀ a0 k, LeO (falseworkref18_Job.f k a0) (falseworkref18_Job.f (k + 1) a0) := by
  intro a0 k
  unfold falseworkref18_Job.f
  repeat' first
      | (with_reducible exact falseworkref18_num.mono _ _)
      | (with_reducible exact LeO.refl _)
      | (with_reducible exact LeO.none _)
      | (with_reducible refine LeO.ite ?_ ?_)
      | (with_reducible refine LeO.bind ?_ (fun _ => ?_))
      | exact falseworkref18_num.mono _ _
      | exact LeO.none _
      | refine LeO.ite ?_ ?_
      | refine LeO.bind ?_ (fun _ => ?_)
set_option maxHeartbeats 8000000 in
set_option maxRecDepth 100000 in
theorem falseworkref18_Job.calls (k : Nat) (a0 : Int) (r : ByteArray) (w : World) (h : falseworkref18_Job.f k a0 = some r) :
    Calls Try.prog 15 #[.int .i64 a0] w fun e w' => e = .returned (.string r) ∧ Below w.heap.size w w' := by
  have HB := Aside0.mk (Below.refl w.heap.size w)
  have H : ((falseworkref18_num.f k a0).bind fun t238 => (if 1 + t238.size ≤ 9223372036854775807 then (some ((⟨#[106]⟩ : ByteArray) ++ t238)) else (none))) = some r := h
  clear h
  replace H := Option.bind_eq_some_iff.mp H
  obtain ⟨t238, A20, H⟩ := H
  replace H : (if 1 + t238.size ≤ 9223372036854775807 then (some ((⟨#[106]⟩ : ByteArray) ++ t238)) else (none)) = some r := H
  have A2 := Aside0.mk A20
  clear A20
  by_cases c3 : 1 + t238.size ≤ 9223372036854775807
  · rw [if_pos c3] at H
    have c3b0 := eq_true c3
    have c3b1 : decide (1 + t238.size ≤ 9223372036854775807) = true := decide_eq_true c3
    try have c3b2 : (9223372036854775807 < 1 + t238.size) = False := eq_false (Nat.not_lt.2 c3)
    obtain rfl := Option.some.inj H
    go_enter Try.func15, Try.ntmps15
    go_wp2_with (first | ((with_reducible refine gate_callee (f := 28) rfl ?_); refine goesL_ (some 4) rfl rfl Try.func28 (by kernel_rfl) rfl #[.int .i64 a0] rfl (by (try simp only [List.map_toArray, List.map_cons, List.map_nil]); first | done | rfl | (simp only [List.length_drop, List.length_take]; rfl)) ?_; (with_reducible refine (falseworkref18_num.calls k a0 t238 _ A2.out).mono ?_); rintro e w4 ⟨rfl, hb⟩; refine ⟨_, rfl, ?_⟩; have n0_ := Aside0.mk (below_step (by repeat (first | (with_reducible first | exact HB.out | apply below_alloc | apply pw_below_drewN | apply below_drew1) | exact HB.out)) hb); clear HB; have HB := n0_; clear n0_; (try clear hb); (try clear hb2); (try clear hk); (try clear hi)))
    go_ret
    exact ⟨by first | rfl | (simp [errW_none, errW_some] <;> rfl) | (simp [*, errW_none, errW_some] <;> rfl), by repeat (first | (with_reducible first | exact HB.out | apply below_alloc | apply pw_below_drewN | apply below_drew1) | exact HB.out)⟩
  · rw [if_neg c3] at H
    exact absurd H (by simp)

end Go.Proofs.Ytifhnkbhjmapeaa.PA
