/- Contracts of the Go functions of this seat: what each call returns is what a Lean function of its arguments says; each theorem bears its own conditions. Written by a program of this session (wip/tools/mkprint.py). -/
import Derived.Test.YtncdpdbafklodaaPAx0
import Derived.Test.YtncdpdbafklodaaPAx5
import Derived.Test.YtncdpdbafklodaaPAx6
namespace Go.Proofs.Ytncdpdbafklodaa.PA
open Go.RowKit Go.Proofs.YtncdpdbafklodaaW.PrintWords Go.Proofs.YtncdpdbafklodaaW.PrintLast Go.Proofs.YtncdpdbafklodaaW.PrintMore
attribute [local go_sem] max2_int min2_int max_two min_two max_three min_three max_four min_four   -- for this text's walks alone
set_option linter.unusedVariables false
set_option linter.unusedSimpArgs false

attribute [local go_sem ↓ high] unary_xor_u64 ux_if_u64
attribute [local go_sem] str_gtr str_leq str_geq
/-! ### falseworkref2_After: function 15 -/
/-- Up to where the bytes ahead of place n are not all ff. -/
def falseworkref2_After.cut (s : ByteArray) : Nat → Nat
  | 0 => 0
  | n + 1 => if bt s (n : Int) = 255 then falseworkref2_After.cut s n else n + 1
theorem falseworkref2_After.cut_le (s : ByteArray) : ∀ n, falseworkref2_After.cut s n ≤ n
  | 0 => Nat.le_refl _
  | n + 1 => by unfold falseworkref2_After.cut; split; exact Nat.le_succ_of_le (falseworkref2_After.cut_le s n); exact Nat.le_refl _
theorem falseworkref2_After.cut_ff (s : ByteArray) : ∀ n j, falseworkref2_After.cut s n ≤ j → j < n → bt s (j : Int) = 255
  | 0, j, _, h => absurd h (Nat.not_lt_zero _)
  | n + 1, j, h, hj => by
    unfold falseworkref2_After.cut at h
    split at h
    · rename_i h'
      by_cases e : j = n
      · rw [e]; exact h'
      · exact falseworkref2_After.cut_ff s n j h (by omega)
    · omega
theorem falseworkref2_After.cut_end (s : ByteArray) : ∀ n m, falseworkref2_After.cut s n = m + 1 → ¬ bt s (m : Int) = 255
  | 0, m, h => by cases h
  | n + 1, m, h => by
    unfold falseworkref2_After.cut at h
    split at h
    · exact falseworkref2_After.cut_end s n m h
    · rename_i h'
      have : n = m := by omega
      rw [← this]; exact h'
theorem bt_extract0 (s : ByteArray) (n : Nat) (i : Int) (h0 : 0 ≤ i) (h : i < (n : Int)) : bt (s.extract 0 n) i = bt s i := by
  unfold bt
  have hz : (s.extract 0 n).size = min n s.size := by rw [ByteArray.size_extract]; omega
  by_cases hs : i.toNat < s.size
  · rw [dif_pos hs, dif_pos (by omega)]
    rw [ByteArray.getElem_extract]; simp
  · rw [dif_neg hs, dif_neg (by omega)]
theorem str_last (s : ByteArray) (n : Nat) (i v : Int) (h0 : 0 ≤ i) (h : i + 1 = (n : Int)) (hn : n ≤ s.size) : strOfNums ((bytesOf (s.extract 0 n)).set i.toNat v) = s.extract 0 i.toNat ++ strOfNums [v] := by
  obtain ⟨j, rfl⟩ : ∃ j : Nat, i = (j : Int) := ⟨i.toNat, by omega⟩
  obtain rfl : n = j + 1 := by omega
  rw [Int.toNat_natCast]
  have hl : j < s.data.toList.length := by rw [data_length]; omega
  have h1 : bytesOf (s.extract 0 (j + 1)) = (s.data.toList.take j).map (fun b => (b.toNat : Int)) ++ [((s.data.toList[j]'hl).toNat : Int)] := by
    unfold bytesOf
    rw [ByteArray.data_extract, Array.toList_extract]
    simp only [List.extract_eq_take_drop, List.drop_zero, Nat.sub_zero]
    rw [List.take_succ_eq_append_getElem hl, List.map_append]; rfl
  have h2 : ((s.data.toList.take j).map (fun b => (b.toNat : Int))).length = j := by rw [List.length_map, List.length_take]; omega
  rw [h1, List.set_append_right _ _ (by omega), h2, Nat.sub_self, List.set_cons_zero]
  apply ByteArray.ext
  rw [← Array.toList_inj, ByteArray.data_append, Array.toList_append, ByteArray.data_extract, Array.toList_extract]
  simp only [strOfNums, List.map_append, List.map_map, List.extract_eq_take_drop, List.drop_zero, Nat.sub_zero]
  congr 1
  conv => rhs; rw [← List.map_id (List.take j s.data.toList)]
  apply List.map_congr_left
  intro b _
  simp
def falseworkref2_After.f (a0 : ByteArray) : Option (ByteArray × Bool) :=
  if a0.size ≤ 1000000 then
    (match falseworkref2_After.cut a0 a0.size with
    | 0 => some (⟨#[]⟩, false)
    | m + 1 => some (a0.extract 0 m ++ strOfNums [(bt a0 (m : Int) + 1) % 256], true))
  else none
set_option maxHeartbeats 4000000 in
set_option maxRecDepth 100000 in
theorem falseworkref2_After.walk0 (a0 : ByteArray) (w : World) (hs : a0.size ≤ 1000000) (hm : falseworkref2_After.cut a0 a0.size = 0) :
    Calls Try.prog 15 #[.string a0] w fun e w' => e = .returned (.tuple #[.string ⟨#[]⟩, .bool false]) ∧ Below w.heap.size w w' := by
  have hff := falseworkref2_After.cut_ff a0 a0.size
  rw [hm] at hff
  clear hm
  have HF := Aside0.mk hff
  clear hff
  go_enter Try.func15, Try.ntmps15
  go_wp2
  go_loop [4] (fun v => ∃ x : Int, 0 ≤ x ∧ x ≤ a0.size ∧ v = .int .i64 x) (fun v => (intOf v).toNat)
  case atStart => exact ⟨_, by omega, Int.le_refl _, rfl⟩
  case round =>
    obtain ⟨x, h0, h1, rfl⟩ := hrel
    by_cases c : 0 < x
    · have cb0 : decide (0 < x) = true := decide_eq_true c
      obtain ⟨ji, hji⟩ : ∃ j_ : Int, wrap64 (x - 1) = j_ := ⟨_, rfl⟩
      have hx : ji = x - 1 := by rw [← hji]; unfold wrap64; omega
      have hjiw : (IntKind.i64.wrap (x - 1)) = ji := (i64_w _).trans hji
      have c7 : bt a0 ji = 255 := by
        have := HF.out ji.toNat (Nat.zero_le _) (by omega)
        rwa [show ((ji.toNat : Nat) : Int) = ji by omega] at this
      have c7b0 : (bt a0 ji == 255) = true := beq_iff_eq.mpr c7
      have c7b1 : (bt a0 ji != 255) = false := bne_eq_false_iff_eq.mpr c7
      clear c7
      have c4b0 : decide (0 ≤ ji) = true := decide_eq_true (by omega)
      have c5b0 : decide (ji < (a0.size : Int)) = true := decide_eq_true (by omega)
      have p6 := eq_true (show 0 ≤ ji by omega)
      have q6 := eq_true (show ji < (a0.size : Int) by omega)
      have hx6 := bt_at a0 ji
      have HX := Aside0.mk hx
      clear hx c
      go_wp2
      go_round
      case rel => exact ⟨ji, by have := HX.out; have := of_decide_eq_true cb0; omega, by have := HX.out; omega, by first | rfl | (simp; done) | (simp [*]; done)⟩
      case measure => have := HX.out; have := of_decide_eq_true cb0; simp [intOf]; omega
    · obtain rfl : x = 0 := by omega
      go_wp2
      go_ret2
      exact ⟨rfl, Below.refl _ _⟩
set_option maxHeartbeats 4000000 in
set_option maxRecDepth 100000 in
theorem falseworkref2_After.walk1 (a0 : ByteArray) (y : Nat) (ji : Int) (w : World) (hs : a0.size ≤ 1000000) (hy0 : 0 < y) (hy1 : y ≤ a0.size) (hj : wrap64 ((y : Int) - 1) = ji) (HJ : Aside0 (ji = (y : Int) - 1))
    (HF : Aside0 (∀ j : Nat, y ≤ j → j < a0.size → bt a0 (j : Int) = 255)) (HE : Aside0 (¬ bt a0 ji = 255)) :
    Calls Try.prog 15 #[.string a0] w fun e w' => e = .returned (.tuple #[.string (a0.extract 0 ji.toNat ++ strOfNums [(bt a0 ji + 1) % 256]), .bool true]) ∧ Below w.heap.size w w' := by
  have kb := fun (s : ByteArray) (W : World) => print_bytes (P := Try.prog) 9 45 5 Try.underlying9 Try.underlying45 Try.underlying5 s W
  have HJ2 := Aside0.mk hj
  clear hj
  go_enter Try.func15, Try.ntmps15
  go_wp2
  go_loop [4] (fun v => ∃ x : Int, (y : Int) ≤ x ∧ x ≤ a0.size ∧ v = .int .i64 x) (fun v => (intOf v).toNat)
  case atStart => exact ⟨_, by omega, Int.le_refl _, rfl⟩
  case round =>
    obtain ⟨x, h0, h1, rfl⟩ := hrel
    by_cases c : (y : Int) < x
    · have cb0 : decide (0 < x) = true := decide_eq_true (by omega)
      obtain ⟨ji, hji⟩ : ∃ j_ : Int, wrap64 (x - 1) = j_ := ⟨_, rfl⟩
      have hx : ji = x - 1 := by rw [← hji]; unfold wrap64; omega
      have hjiw : (IntKind.i64.wrap (x - 1)) = ji := (i64_w _).trans hji
      have c7 : bt a0 ji = 255 := by
        have := HF.out ji.toNat (by omega) (by omega)
        rwa [show ((ji.toNat : Nat) : Int) = ji by omega] at this
      have c7b0 : (bt a0 ji == 255) = true := beq_iff_eq.mpr c7
      have c7b1 : (bt a0 ji != 255) = false := bne_eq_false_iff_eq.mpr c7
      clear c7
      have c4b0 : decide (0 ≤ ji) = true := decide_eq_true (by omega)
      have c5b0 : decide (ji < (a0.size : Int)) = true := decide_eq_true (by omega)
      have p6 := eq_true (show 0 ≤ ji by omega)
      have q6 := eq_true (show ji < (a0.size : Int) by omega)
      have hx6 := bt_at a0 ji
      have HX := Aside0.mk hx
      have HC := Aside0.mk c
      clear hx c
      go_wp2
      go_round
      case rel => exact ⟨ji, by have := HX.out; have := HC.out; omega, by have := HX.out; omega, by first | rfl | (simp; done) | (simp [*]; done)⟩
      case measure => have := HX.out; have := HC.out; simp [intOf]; omega
    · obtain rfl : x = (y : Int) := by omega
      have hjj := HJ.out
      have cb0 : decide (0 < (y : Int)) = true := decide_eq_true (by omega)
      have cb1 : ((y : Int) == 0) = false := beq_eq_false_iff_ne.mpr (by omega)
      have hjix := HJ2.out
      have hjiw : (IntKind.i64.wrap ((y : Int) - 1)) = ji := (i64_w _).trans hjix
      have c7b0 : (bt a0 ji == 255) = false := beq_eq_false_iff_ne.mpr HE.out
      have c7b1 : (bt a0 ji != 255) = true := bne_iff_ne.mpr HE.out
      have c4b0 : decide (0 ≤ ji) = true := decide_eq_true (by omega)
      have c5b0 : decide (ji < (a0.size : Int)) = true := decide_eq_true (by omega)
      have p6 := eq_true (show 0 ≤ ji by omega)
      have q6 := eq_true (show ji < (a0.size : Int) by omega)
      have hx6 := bt_at a0 ji
      have q8 := eq_true (show ji < (y : Int) by omega)
      have p7 := eq_true (show 0 ≤ (y : Int) by omega)
      have q7 := eq_true (show (y : Int) ≤ (a0.size : Int) by omega)
      have hM := MRow.new w 5 (a0.extract 0 y)
      have hes : (a0.extract 0 y).size = y := ext0_size (by omega)
      have hbl : (bytesOf (a0.extract 0 y)).length = y := by rw [bytesOf_length, hes]
      have hrd : rd (bytesOf (a0.extract 0 y)) ji = bt a0 ji := by rw [rd_bytesOf, bt_extract0 _ _ _ (by omega) (by omega)]
      obtain ⟨hc, hf⟩ := hM.at_ ji (by omega) (by omega)
      rw [hrd] at hc
      have hM2 := hM.set_ ji ((bt a0 ji + 1) % 256) (by omega) (by omega)
      have hstr := fun cap => MRow.str (P := Try.prog) (src := 45) (dst := 9) (e := 5) Try.underlying45 Try.underlying5 Try.underlying9 hM2 y cap (by rw [List.length_set]; exact hbl)
      have hend : strOfNums ((bytesOf (a0.extract 0 y)).set ji.toNat ((bt a0 ji + 1) % 256)) = a0.extract 0 ji.toNat ++ strOfNums [(bt a0 ji + 1) % 256] := str_last _ _ _ _ (by omega) (by omega) (by omega)
      rw [hend] at hstr
      have hB := bytes_below (Below.refl w.heap.size w) (Nat.le_refl _) 5 (a0.extract 0 y)
      have HB := Aside0.mk hB
      clear hjj c hM hM2 hes hbl hrd hend hB
      go_wp2
      go_ret2
      exact ⟨rfl, below_set HB.out (Nat.le_refl _)⟩
theorem falseworkref2_After.calls (a0 : ByteArray) (r1 : ByteArray) (r2 : Bool) (w : World) (h : falseworkref2_After.f a0 = some (r1, r2)) :
    Calls Try.prog 15 #[.string a0] w fun e w' => e = .returned (.tuple #[.string r1, .bool r2]) ∧ Below w.heap.size w w' := by
  unfold falseworkref2_After.f at h
  by_cases hs : a0.size ≤ 1000000
  · rw [if_pos hs] at h
    cases hm : falseworkref2_After.cut a0 a0.size with
    | zero => rw [hm] at h; obtain ⟨rfl, rfl⟩ := Prod.mk.inj (Option.some.inj h); exact falseworkref2_After.walk0 a0 w hs hm
    | succ m =>
      rw [hm] at h
      obtain ⟨rfl, rfl⟩ := Prod.mk.inj (Option.some.inj h)
      have hle := falseworkref2_After.cut_le a0 a0.size
      have hff := falseworkref2_After.cut_ff a0 a0.size
      rw [hm] at hle hff
      have key := falseworkref2_After.walk1 a0 (m + 1) (m : Int) w hs (by omega) (by omega) (by unfold wrap64; omega) ⟨by omega⟩ ⟨fun j h1 h2 => hff j (by omega) h2⟩ ⟨falseworkref2_After.cut_end a0 a0.size m hm⟩
      rw [Int.toNat_natCast] at key
      exact key
  · rw [if_neg hs] at h; cases h

/-! ### falseworklaw3_TupleAfters: function 4 -/
def falseworklaw3_TupleAfters.f (k : Nat) (a0 : ByteArray) : Option (Bool) := if (a0.size : Int) > 5000 then ((falseworklaw3_awake.f k).bind fun t216 => (some t216)) else ((tuple_After.f k a0).bind fun bt217 => ((falseworkref2_After.f a0).bind fun bt219 => (if bt217.1.toList = bt219.1.toList then (if (bt217.2 == bt219.2) = true then ((falseworklaw3_awake.f k).bind fun t221 => (some t221)) else (some false)) else (some false))))
theorem falseworklaw3_TupleAfters.mono : ∀ a0 k, LeO (falseworklaw3_TupleAfters.f k a0) (falseworklaw3_TupleAfters.f (k + 1) a0) := by
  intro a0 k
  unfold falseworklaw3_TupleAfters.f
  repeat' first
      | (with_reducible exact falseworklaw3_awake.mono _)
      | (with_reducible exact tuple_After.mono _ _)
      | (with_reducible exact LeO.refl _)
      | (with_reducible exact LeO.none _)
      | (with_reducible refine LeO.ite ?_ ?_)
      | (with_reducible refine LeO.bind ?_ (fun _ => ?_))
      | exact falseworklaw3_awake.mono _
      | exact tuple_After.mono _ _
      | exact LeO.none _
      | refine LeO.ite ?_ ?_
      | refine LeO.bind ?_ (fun _ => ?_)
set_option maxHeartbeats 8000000 in
set_option maxRecDepth 100000 in
theorem falseworklaw3_TupleAfters.calls (k : Nat) (a0 : ByteArray) (r : Bool) (w : World) (h : falseworklaw3_TupleAfters.f k a0 = some r) :
    Calls Try.prog 4 #[.string a0] w fun e w' => e = .returned (.bool r) ∧ Below w.heap.size w w' := by
  have HB := Aside0.mk (Below.refl w.heap.size w)
  have H : (if (a0.size : Int) > 5000 then ((falseworklaw3_awake.f k).bind fun t216 => (some t216)) else ((tuple_After.f k a0).bind fun bt217 => ((falseworkref2_After.f a0).bind fun bt219 => (if bt217.1.toList = bt219.1.toList then (if (bt217.2 == bt219.2) = true then ((falseworklaw3_awake.f k).bind fun t221 => (some t221)) else (some false)) else (some false))))) = some r := h
  clear h
  by_cases c2 : (a0.size : Int) > 5000
  · rw [if_pos c2] at H
    have c2b0 : decide (5000 < (a0.size : Int)) = true := decide_eq_true c2
    have c2b1 : decide (5000 < a0.size) = true := decide_eq_true (by omega)
    clear c2
    replace H := Option.bind_eq_some_iff.mp H
    obtain ⟨t216, A30, H⟩ := H
    replace H : (some t216) = some r := H
    have A3 := Aside0.mk A30
    clear A30
    obtain rfl := Option.some.inj H
    go_enter Try.func4, Try.ntmps4
    go_wp2_with (first | ((with_reducible refine gate_callee (f := 10) rfl ?_); refine goesL_ (some 10) rfl rfl Try.func10 (by kernel_rfl) rfl #[] rfl (by (try simp only [List.map_toArray, List.map_cons, List.map_nil]); first | done | rfl | (simp only [List.length_drop, List.length_take]; rfl)) ?_; (with_reducible refine (falseworklaw3_awake.calls k  t216 _ A3.out).mono ?_); rintro e w4 ⟨rfl, hb⟩; refine ⟨_, rfl, ?_⟩; have n0_ := Aside0.mk (below_step (by repeat (first | (with_reducible first | exact HB.out | apply below_alloc | apply pw_below_drewN | apply below_drew1) | exact HB.out)) hb); clear HB; have HB := n0_; clear n0_; (try clear hb); (try clear hb2); (try clear hk); (try clear hi)))
    go_ret
    exact ⟨by first | rfl | (simp [errW_none, errW_some] <;> rfl) | (simp [*, errW_none, errW_some] <;> rfl), by repeat (first | (with_reducible first | exact HB.out | apply below_alloc | apply pw_below_drewN | apply below_drew1) | exact HB.out)⟩
  · rw [if_neg c2] at H
    have c2b0 : decide (5000 < (a0.size : Int)) = false := decide_eq_false c2
    have c2b1 : decide (5000 < a0.size) = false := decide_eq_false (by omega)
    clear c2
    replace H := Option.bind_eq_some_iff.mp H
    obtain ⟨⟨t217, t218⟩, A50, H⟩ := H
    replace H : ((falseworkref2_After.f a0).bind fun bt219 => (if t217.toList = bt219.1.toList then (if (t218 == bt219.2) = true then ((falseworklaw3_awake.f k).bind fun t221 => (some t221)) else (some false)) else (some false))) = some r := H
    have A5 := Aside0.mk A50
    clear A50
    replace H := Option.bind_eq_some_iff.mp H
    obtain ⟨⟨t219, t220⟩, A60, H⟩ := H
    replace H : (if t217.toList = t219.toList then (if (t218 == t220) = true then ((falseworklaw3_awake.f k).bind fun t221 => (some t221)) else (some false)) else (some false)) = some r := H
    have A6 := Aside0.mk A60
    clear A60
    by_cases c7 : t217.toList = t219.toList
    · rw [if_pos c7] at H
      have c7b0 : (t217.toList == t219.toList) = true := beq_iff_eq.mpr c7
      have c7b1 : (t217.toList != t219.toList) = false := bne_eq_false_iff_eq.mpr c7
      clear c7
      by_cases c8 : (t218 == t220) = true
      · rw [if_pos c8] at H
        have c8b0 : (t218 == t220) = true := c8
        (try (have c8b1 : decide (t218 = t220) = true := by simpa using c8))
        (try (have c8b2 : (t218 == t220) = true := by simpa using c8))
        clear c8
        replace H := Option.bind_eq_some_iff.mp H
        obtain ⟨t221, A90, H⟩ := H
        replace H : (some t221) = some r := H
        have A9 := Aside0.mk A90
        clear A90
        obtain rfl := Option.some.inj H
        go_enter Try.func4, Try.ntmps4
        go_wp2_with (first | ((with_reducible refine gate_callee (f := 14) rfl ?_); refine goesL_ (some 13) rfl rfl Try.func14 (by kernel_rfl) rfl #[.string a0] rfl (by (try simp only [List.map_toArray, List.map_cons, List.map_nil]); first | done | rfl | (simp only [List.length_drop, List.length_take]; rfl)) ?_; (with_reducible refine (tuple_After.calls k a0 t217 t218 _ A5.out).mono ?_); rintro e w10 ⟨rfl, hb⟩; refine ⟨_, rfl, ?_⟩; have n0_ := Aside0.mk (below_step (by repeat (first | (with_reducible first | exact HB.out | apply below_alloc | apply pw_below_drewN | apply below_drew1) | exact HB.out)) hb); clear HB; have HB := n0_; clear n0_; (try clear hb); (try clear hb2); (try clear hk); (try clear hi)) | ((with_reducible refine gate_callee (f := 15) rfl ?_); refine goesL_ (some 18) rfl rfl Try.func15 (by kernel_rfl) rfl #[.string a0] rfl (by (try simp only [List.map_toArray, List.map_cons, List.map_nil]); first | done | rfl | (simp only [List.length_drop, List.length_take]; rfl)) ?_; (with_reducible refine (falseworkref2_After.calls a0 t219 t220 _ A6.out).mono ?_); rintro e w11 ⟨rfl, hb⟩; refine ⟨_, rfl, ?_⟩; have n0_ := Aside0.mk (below_step (by repeat (first | (with_reducible first | exact HB.out | apply below_alloc | apply pw_below_drewN | apply below_drew1) | exact HB.out)) hb); clear HB; have HB := n0_; clear n0_; (try clear hb); (try clear hb2); (try clear hk); (try clear hi)) | (go_at_call 10; (with_reducible refine (falseworklaw3_awake.calls k  t221 _ A9.out).mono ?_); rintro e w12 ⟨rfl, hb⟩; have n0_ := Aside0.mk (below_step (by repeat (first | (with_reducible first | exact HB.out | apply below_alloc | apply pw_below_drewN | apply below_drew1) | exact HB.out)) hb); clear HB; have HB := n0_; clear n0_; (try clear hb); (try clear hb2); (try clear hk); (try clear hi)))
        go_ret
        exact ⟨by first | rfl | (simp [errW_none, errW_some] <;> rfl) | (simp [*, errW_none, errW_some] <;> rfl), by repeat (first | (with_reducible first | exact HB.out | apply below_alloc | apply pw_below_drewN | apply below_drew1) | exact HB.out)⟩
      · rw [if_neg c8] at H
        have c8b0 : (t218 == t220) = false := by simpa using c8
        (try (have c8b1 : decide (t218 = t220) = false := by simpa using c8))
        (try (have c8b2 : (t218 == t220) = false := by simpa using c8))
        (try (have c8b3 : ¬ (t218 = t220) := by simpa using c8))
        clear c8
        obtain rfl := Option.some.inj H
        go_enter Try.func4, Try.ntmps4
        go_wp2_with (first | ((with_reducible refine gate_callee (f := 14) rfl ?_); refine goesL_ (some 13) rfl rfl Try.func14 (by kernel_rfl) rfl #[.string a0] rfl (by (try simp only [List.map_toArray, List.map_cons, List.map_nil]); first | done | rfl | (simp only [List.length_drop, List.length_take]; rfl)) ?_; (with_reducible refine (tuple_After.calls k a0 t217 t218 _ A5.out).mono ?_); rintro e w13 ⟨rfl, hb⟩; refine ⟨_, rfl, ?_⟩; have n0_ := Aside0.mk (below_step (by repeat (first | (with_reducible first | exact HB.out | apply below_alloc | apply pw_below_drewN | apply below_drew1) | exact HB.out)) hb); clear HB; have HB := n0_; clear n0_; (try clear hb); (try clear hb2); (try clear hk); (try clear hi)) | ((with_reducible refine gate_callee (f := 15) rfl ?_); refine goesL_ (some 18) rfl rfl Try.func15 (by kernel_rfl) rfl #[.string a0] rfl (by (try simp only [List.map_toArray, List.map_cons, List.map_nil]); first | done | rfl | (simp only [List.length_drop, List.length_take]; rfl)) ?_; (with_reducible refine (falseworkref2_After.calls a0 t219 t220 _ A6.out).mono ?_); rintro e w14 ⟨rfl, hb⟩; refine ⟨_, rfl, ?_⟩; have n0_ := Aside0.mk (below_step (by repeat (first | (with_reducible first | exact HB.out | apply below_alloc | apply pw_below_drewN | apply below_drew1) | exact HB.out)) hb); clear HB; have HB := n0_; clear n0_; (try clear hb); (try clear hb2); (try clear hk); (try clear hi)))
        go_ret
        exact ⟨by first | rfl | (simp [errW_none, errW_some] <;> rfl) | (simp [*, errW_none, errW_some] <;> rfl), by repeat (first | (with_reducible first | exact HB.out | apply below_alloc | apply pw_below_drewN | apply below_drew1) | exact HB.out)⟩
    · rw [if_neg c7] at H
      have c7b0 : (t217.toList == t219.toList) = false := beq_eq_false_iff_ne.mpr c7
      have c7b1 : (t217.toList != t219.toList) = true := bne_iff_ne.mpr c7
      obtain rfl := Option.some.inj H
      go_enter Try.func4, Try.ntmps4
      go_wp2_with (first | ((with_reducible refine gate_callee (f := 14) rfl ?_); refine goesL_ (some 13) rfl rfl Try.func14 (by kernel_rfl) rfl #[.string a0] rfl (by (try simp only [List.map_toArray, List.map_cons, List.map_nil]); first | done | rfl | (simp only [List.length_drop, List.length_take]; rfl)) ?_; (with_reducible refine (tuple_After.calls k a0 t217 t218 _ A5.out).mono ?_); rintro e w15 ⟨rfl, hb⟩; refine ⟨_, rfl, ?_⟩; have n0_ := Aside0.mk (below_step (by repeat (first | (with_reducible first | exact HB.out | apply below_alloc | apply pw_below_drewN | apply below_drew1) | exact HB.out)) hb); clear HB; have HB := n0_; clear n0_; (try clear hb); (try clear hb2); (try clear hk); (try clear hi)) | ((with_reducible refine gate_callee (f := 15) rfl ?_); refine goesL_ (some 18) rfl rfl Try.func15 (by kernel_rfl) rfl #[.string a0] rfl (by (try simp only [List.map_toArray, List.map_cons, List.map_nil]); first | done | rfl | (simp only [List.length_drop, List.length_take]; rfl)) ?_; (with_reducible refine (falseworkref2_After.calls a0 t219 t220 _ A6.out).mono ?_); rintro e w16 ⟨rfl, hb⟩; refine ⟨_, rfl, ?_⟩; have n0_ := Aside0.mk (below_step (by repeat (first | (with_reducible first | exact HB.out | apply below_alloc | apply pw_below_drewN | apply below_drew1) | exact HB.out)) hb); clear HB; have HB := n0_; clear n0_; (try clear hb); (try clear hb2); (try clear hk); (try clear hi)))
      go_ret
      exact ⟨by first | rfl | (simp [errW_none, errW_some] <;> rfl) | (simp [*, errW_none, errW_some] <;> rfl), by repeat (first | (with_reducible first | exact HB.out | apply below_alloc | apply pw_below_drewN | apply below_drew1) | exact HB.out)⟩

/-- THE ONE PURE STATEMENT of falseworklaw3_TupleAfters: yours. -/
def falseworklaw3_TupleAfters.Pure : Prop := ∀ (a0 : ByteArray), a0.size ≤ 140737488351232 → ∃ k, falseworklaw3_TupleAfters.f k a0 = some true
theorem falseworklaw3_TupleAfters.walk (P : falseworklaw3_TupleAfters.Pure) (a0 : ByteArray) (w : World) (w0 : a0.size ≤ 140737488351232) :
    Calls Try.prog 4 #[.string a0] w fun e w' => e = .returned (.bool true) ∧ Below w.heap.size w w' := by
  obtain ⟨k, h⟩ := P a0 w0
  refine (falseworklaw3_TupleAfters.calls k a0 true w h).mono ?_
  rintro e w' ⟨rfl, hd⟩
  exact ⟨rfl, hd⟩

end Go.Proofs.Ytncdpdbafklodaa.PA
