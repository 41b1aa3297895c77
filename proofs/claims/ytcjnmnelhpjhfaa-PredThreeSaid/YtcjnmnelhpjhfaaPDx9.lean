/- Contracts of the Go functions of this seat: what each call returns is what a Lean function of its arguments says; each theorem bears its own conditions. Written by a program of this session (wip/tools/mkprint.py). -/
import Derived.Test.YtcjnmnelhpjhfaaPDx0
import Derived.Test.YtcjnmnelhpjhfaaPDx2
import Derived.Test.YtcjnmnelhpjhfaaPDx7
import Derived.Test.YtcjnmnelhpjhfaaPDx8
import Derived.Test.YtcjnmnelhpjhfaaWInv
-- squeezed
namespace Go.Proofs.Ytcjnmnelhpjhfaa.PA
open Go.RowKit Go.Proofs.YtcjnmnelhpjhfaaW.PrintWords Go.Proofs.YtcjnmnelhpjhfaaW.PrintLast Go.Proofs.YtcjnmnelhpjhfaaW.PrintMore
attribute [local go_sem] max2_int min2_int max_two min_two max_three min_three max_four min_four   -- for this text's walks alone
set_option linter.unusedVariables false
set_option linter.unusedSimpArgs false

attribute [local go_sem ↓ high] unary_xor_u64 ux_if_u64
attribute [local go_sem] str_gtr str_leq str_geq
/-! ### falseworklaw18_PredThree: function 6 -/
mutual
def falseworklaw18_PredThree.j0 : Nat → Bool → List (S40) → Int → Int → Int → ByteArray → Option (Bool)
 | 0, _, _, _, _, _, _ => none
 | k + 1, x2, x7, x210000, x210001, x210002, x210003 => falseworklaw18_PredThree.l0 k x2 x7 0 1 x210000 x210001 x210002 x210003
def falseworklaw18_PredThree.l0 : Nat → Bool → List (S40) → Int → Int → Int → Int → Int → ByteArray → Option (Bool)
 | 0, _, _, _, _, _, _, _, _ => none
 | k + 1, x2, x7, x9, x10, x210000, x210001, x210002, x210003 => if x10 ≤ 3 then ((falseworklaw18_cols.f 2).bind fun t210 => ((pred_Test.f k t210 x7 (([(⟨(⟨#[97]⟩ : ByteArray), x10, (⟨x210000, x210001, x210002, x210003⟩ : S40)⟩ : S43)] : List (S43)))).bind fun bt216 => ((falseworklaw18_cols.f 2).bind fun t218 => ((pred_Test.f k t218 x7 (([(⟨(⟨#[98]⟩ : ByteArray), x10, (⟨x210000, x210001, x210002, x210003⟩ : S40)⟩ : S43)] : List (S43)))).bind fun bt224 => ((falseworklaw18_num.f bt216.2).bind fun t226 => (if t226 = 0 then ((falseworklaw18_num.f bt224.2).bind fun t227 => (if t227 = 0 then (if bt224.1 = (-1) then (if x2 = true then (if bt216.1 = (-1) then (falseworklaw18_PredThree.l0 k x2 x7 (wrap64 (x9 + bt216.1)) (wrap64 (x10 + 1)) x210000 x210001 x210002 x210003) else (none)) else (falseworklaw18_PredThree.l0 k x2 x7 (wrap64 (x9 + bt216.1)) (wrap64 (x10 + 1)) x210000 x210001 x210002 x210003)) else (none)) else (none))) else (none))))))) else ((falseworklaw18_cols.f 2).bind fun t228 => ((pred_Test.f k t228 x7 (([(⟨(⟨#[97]⟩ : ByteArray), 4, (⟨0, 0, 0, (⟨#[]⟩ : ByteArray)⟩ : S40)⟩ : S43)] : List (S43)))).bind fun bt234 => ((falseworklaw18_cols.f 2).bind fun t236 => ((pred_Test.f k t236 x7 (([(⟨(⟨#[98]⟩ : ByteArray), 4, (⟨0, 0, 0, (⟨#[]⟩ : ByteArray)⟩ : S40)⟩ : S43)] : List (S43)))).bind fun bt242 => ((falseworklaw18_cols.f 2).bind fun t244 => ((pred_Test.f k t244 x7 (([(⟨(⟨#[97]⟩ : ByteArray), 5, (⟨0, 0, 0, (⟨#[]⟩ : ByteArray)⟩ : S40)⟩ : S43), (⟨(⟨#[98]⟩ : ByteArray), 5, (⟨0, 0, 0, (⟨#[]⟩ : ByteArray)⟩ : S40)⟩ : S43)] : List (S43)))).bind fun bt250 => (if x2 = true then (if bt234.1 = 0 then (if bt242.1 = 1 then (if bt250.1 = 0 then ((falseworklaw18_awake.f k).bind fun t252 => (some t252)) else (none)) else (none)) else (none)) else (if x9 = 1 then (if bt234.1 = 0 then (if bt242.1 = 1 then (if bt250.1 = 0 then ((falseworklaw18_awake.f k).bind fun t253 => (some t253)) else (none)) else (none)) else (none)) else (none)))))))))
end
def falseworklaw18_PredThree.f (k : Nat) (a0 : Int) (a1 : Int) (a2 : Bool) : Option (Bool) := (some (([(⟨2, a0, 0, (⟨#[]⟩ : ByteArray)⟩ : S40), (⟨0, 0, 0, (⟨#[]⟩ : ByteArray)⟩ : S40)] : List (S40)) : List (S40))).bind fun y206 => (if a2 = true then (falseworklaw18_PredThree.j0 k a2 y206 0 0 0 (⟨#[]⟩ : ByteArray)) else (falseworklaw18_PredThree.j0 k a2 y206 2 a1 0 (⟨#[]⟩ : ByteArray)))
theorem falseworklaw18_PredThree.mono_l : ∀ k, (∀ y0 y1 y2 y3 y4 y5, LeO (falseworklaw18_PredThree.j0 k y0 y1 y2 y3 y4 y5) (falseworklaw18_PredThree.j0 (k + 1) y0 y1 y2 y3 y4 y5)) ∧ (∀ y0 y1 y2 y3 y4 y5 y6 y7, LeO (falseworklaw18_PredThree.l0 k y0 y1 y2 y3 y4 y5 y6 y7) (falseworklaw18_PredThree.l0 (k + 1) y0 y1 y2 y3 y4 y5 y6 y7))
 | 0 => ⟨fun _ _ _ _ _ _ r h => by simp [falseworklaw18_PredThree.j0] at h, fun _ _ _ _ _ _ _ _ r h => by simp [falseworklaw18_PredThree.l0] at h⟩
 | k + 1 => by
  obtain ⟨ih0, ih1⟩ := falseworklaw18_PredThree.mono_l k
  refine ⟨?_, ?_⟩
  ·intro y0 y1 y2 y3 y4 y5
   unfold falseworklaw18_PredThree.j0
   repeat' first
   | (with_reducible exact ih0 _ _ _ _ _ _)
   | (with_reducible exact ih1 _ _ _ _ _ _ _ _)
   | (with_reducible exact falseworklaw18_awake.mono _)
   | (with_reducible exact pred_Test.mono _ _ _ _)
   | (with_reducible exact LeO.refl _)
   | (with_reducible exact LeO.none _)
   | (with_reducible refine LeO.ite ?_ ?_)
   | (with_reducible refine LeO.bind ?_ (fun _ => ?_))
   | exact ih0 _ _ _ _ _ _
   | exact ih1 _ _ _ _ _ _ _ _
   | exact falseworklaw18_awake.mono _
   | exact pred_Test.mono _ _ _ _
   | exact LeO.none _
   | refine LeO.ite ?_ ?_
   | refine LeO.bind ?_ (fun _ => ?_)
  ·intro y0 y1 y2 y3 y4 y5 y6 y7
   unfold falseworklaw18_PredThree.l0
   repeat' first
   | (with_reducible exact ih0 _ _ _ _ _ _)
   | (with_reducible exact ih1 _ _ _ _ _ _ _ _)
   | (with_reducible exact falseworklaw18_awake.mono _)
   | (with_reducible exact pred_Test.mono _ _ _ _)
   | (with_reducible exact LeO.refl _)
   | (with_reducible exact LeO.none _)
   | (with_reducible refine LeO.ite ?_ ?_)
   | (with_reducible refine LeO.bind ?_ (fun _ => ?_))
   | exact ih0 _ _ _ _ _ _
   | exact ih1 _ _ _ _ _ _ _ _
   | exact falseworklaw18_awake.mono _
   | exact pred_Test.mono _ _ _ _
   | exact LeO.none _
   | refine LeO.ite ?_ ?_
   | refine LeO.bind ?_ (fun _ => ?_)
theorem falseworklaw18_PredThree.mono : ∀ a0 a1 a2 k, LeO (falseworklaw18_PredThree.f k a0 a1 a2) (falseworklaw18_PredThree.f (k + 1) a0 a1 a2) := by
 intro a0 a1 a2 k
 obtain ⟨ih0, ih1⟩ := falseworklaw18_PredThree.mono_l k
 unfold falseworklaw18_PredThree.f
 repeat' first
   | (with_reducible exact ih0 _ _ _ _ _ _)
   | (with_reducible exact ih1 _ _ _ _ _ _ _ _)
   | (with_reducible exact falseworklaw18_awake.mono _)
   | (with_reducible exact pred_Test.mono _ _ _ _)
   | (with_reducible exact LeO.refl _)
   | (with_reducible exact LeO.none _)
   | (with_reducible refine LeO.ite ?_ ?_)
   | (with_reducible refine LeO.bind ?_ (fun _ => ?_))
   | exact ih0 _ _ _ _ _ _
   | exact ih1 _ _ _ _ _ _ _ _
   | exact falseworklaw18_awake.mono _
   | exact pred_Test.mono _ _ _ _
   | exact LeO.none _
   | refine LeO.ite ?_ ?_
   | refine LeO.bind ?_ (fun _ => ?_)
def falseworklaw18_PredThree.T9 : Bool × List (List Nat × List Nat) := (true, [([], []), ([], []), ([], []), ([], []), ([2, 3], [2, 3]), ([4], [4]), ([0, 1, 5, 0], [0, 1, 5]), ([6], [6]), ([7], [7]), ([7], [7]), ([8, 6, 0, 1, 2, 3, 4, 5, 6, 7, 8], [8]), ([9, 10, 0, 1, 2, 3, 4, 5, 6, 7, 8, 9, 10], [9])])
def falseworklaw18_PredThree.B9 : List Nat := [0, 0, 0, 0, 12, 28, 63, 127, 255, 255, 511, 2047]
theorem falseworklaw18_PredThree.tab9 : rtab .any (opsOf Try.f6 9) = falseworklaw18_PredThree.T9 := by kernel_rfl
theorem falseworklaw18_PredThree.bits9 : waitsOk falseworklaw18_PredThree.T9.2 falseworklaw18_PredThree.B9 = true := by kernel_rfl
def falseworklaw18_PredThree.T10 : Bool × List (List Nat × List Nat) := (true, [([], []), ([], []), ([], []), ([], []), ([2, 3], [2, 3]), ([4], [4]), ([0, 1, 5, 0], [0, 1, 5]), ([6], [6]), ([7], [7]), ([7], [7]), ([8, 6, 0, 1, 2, 3, 4, 5, 6, 7, 8], [8]), ([9, 10, 0, 1, 2, 3, 4, 5, 6, 7, 8, 9, 10], [9])])
def falseworklaw18_PredThree.B10 : List Nat := [0, 0, 0, 0, 12, 28, 63, 127, 255, 255, 511, 2047]
theorem falseworklaw18_PredThree.tab10 : rtab .any (opsOf Try.f6 10) = falseworklaw18_PredThree.T10 := by kernel_rfl
theorem falseworklaw18_PredThree.bits10 : waitsOk falseworklaw18_PredThree.T10.2 falseworklaw18_PredThree.B10 = true := by kernel_rfl
set_option maxHeartbeats 8000000 in
set_option maxRecDepth 100000 in
theorem falseworklaw18_PredThree.calls (k : Nat) (a0 : Int) (a1 : Int) (a2 : Bool) (r : Bool) (w : World) (h : falseworklaw18_PredThree.f k a0 a1 a2 = some r) :
  Calls Try.prog 6 #[.int .i64 a0, .int .i64 a1, .bool a2] w fun e w' => e = .returned (.bool r) ∧ Below w.heap.size w w' := by
 have hu40 := Try.underlying40
 have hu43 := Try.underlying43
 have HB := Aside0.mk (Below.refl w.heap.size w)
 have H : ((some (([(⟨2, a0, 0, (⟨#[]⟩ : ByteArray)⟩ : S40), (⟨0, 0, 0, (⟨#[]⟩ : ByteArray)⟩ : S40)] : List (S40)) : List (S40))).bind fun y206 => (if a2 = true then (falseworklaw18_PredThree.j0 k a2 y206 0 0 0 (⟨#[]⟩ : ByteArray)) else (falseworklaw18_PredThree.j0 k a2 y206 2 a1 0 (⟨#[]⟩ : ByteArray)))) = some r := h
 clear h
 obtain ⟨y206, hy206⟩ : ∃ y_ : List (S40), y_ = (([(⟨2, a0, 0, (⟨#[]⟩ : ByteArray)⟩ : S40), (⟨0, 0, 0, (⟨#[]⟩ : ByteArray)⟩ : S40)] : List (S40))) := ⟨_, rfl⟩
 replace H : (if a2 = true then (falseworklaw18_PredThree.j0 k a2 y206 0 0 0 (⟨#[]⟩ : ByteArray)) else (falseworklaw18_PredThree.j0 k a2 y206 2 a1 0 (⟨#[]⟩ : ByteArray))) = some r := by first | (rw [hy206]; with_reducible exact H) | (have H2_ := (Option.bind_some _ _).symm.trans H; rw [hy206]; with_reducible exact H2_) | (have H2_ := (Option.bind_some _ _).symm.trans H; with_reducible exact H2_) | with_reducible exact H | (rw [hy206]; exact H) | exact H
 have Ny206 := Aside0.mk hy206
 clear hy206
 have HC4 := Aside0.mk H
 clear H
 go_enter Try.func6, Try.ntmps6
 go_upto_if 27 with (first | ((with_reducible refine gate_dst (N := 24) rfl ?_); refine Kd.R_lit k40 _ 40 ?hg (N := 24) ?hd (xs := ([(⟨2, a0, 0, (⟨#[]⟩ : ByteArray)⟩ : S40), (⟨0, 0, 0, (⟨#[]⟩ : ByteArray)⟩ : S40)] : List (S40))) (inner := [.int .i64 2, .int .i64 a0, .int .u64 0, .string (⟨#[]⟩ : ByteArray), .int .i64 0, .int .i64 0, .int .u64 0, .string (⟨#[]⟩ : ByteArray)]) (ok := fun _ => True) (okp := fun _ => True) ?hr ?hp (fun _ hk => hk) trivial (Below.refl _ _) (Nat.le_refl _) (by simp) ?_; (case hd => rfl); (case hg => rfl); (case hr => first | (go_simp; done) | (go_simp; rfl)); (case hp => exact (Reps.c4 (show Kd.M k40 _ _ _ (⟨2, a0, 0, (⟨#[]⟩ : ByteArray)⟩ : S40) [.int .i64 2, .int .i64 a0, .int .u64 0, .string (⟨#[]⟩ : ByteArray)] from (k40_mkM _ _ _ (⟨2, a0, 0, (⟨#[]⟩ : ByteArray)⟩ : S40) )) (Reps.c4 (show Kd.M k40 _ _ _ (⟨0, 0, 0, (⟨#[]⟩ : ByteArray)⟩ : S40) [.int .i64 0, .int .i64 0, .int .u64 0, .string (⟨#[]⟩ : ByteArray)] from (k40_mkM _ _ _ (⟨0, 0, 0, (⟨#[]⟩ : ByteArray)⟩ : S40) )) (Reps.none _ _)))); intro v207 w5 ho6 hb hg_ hnew_; clear hg_ hnew_; (first | rw [← Ny206.out] at ho6 | (simp only [Int.reduceToNat] at ho6; rw [← Ny206.out] at ho6)); have n0_ := Aside0.mk (Kd.R_lower ho6 (zZ (by repeat (first | (with_reducible first | exact HB.out | apply zA | apply zN | apply zD) | exact HB.out)))); have n1_ := Aside0.mk (zS (by repeat (first | (with_reducible first | exact HB.out | apply zA | apply zN | apply zD) | exact HB.out)) hb); clear HB; have HO208 := n0_; have HB := n1_; clear n0_ n1_; clear hb ho6) | ((with_reducible refine gate_dst (N := 8) rfl ?_); refine box_event ?hg (N := 8) ?hd (cs := #[.int .i64 0, .int .i64 0, .int .u64 0, .string (⟨#[]⟩ : ByteArray)]) (t := 40) ?hr ?_; (case hd => rfl); (case hg => rfl); (case hr => first | (go_simp; done) | (go_simp; rfl)); intro gb209 hg w7 hbox hb; have n0_ := Aside0.mk (Kd.R_below (Kd.R_elderB (by (with_reducible repeat (first | apply Kd.R_alloc | apply Kd.R_drewN | apply Kd.R_drew)); exact HO208.out) gb209 (Nat.le_of_eq hg.symm)) hb); have n1_ := Aside0.mk (zS (by repeat (first | (with_reducible first | exact HB.out | apply zA | apply zN | apply zD) | exact HB.out)) hb); have n2_ := Aside0.mk (hbox); have n3_ := Aside0.mk ((by rw [hg]; exact (zZ (by repeat (first | (with_reducible first | exact HB.out | apply zA | apply zN | apply zD) | exact HB.out))) : w.heap.size ≤ gb209)); have n4_ := Aside0.mk ((by rw [hg]; exact (zZ (by repeat (first | (with_reducible first | exact HB.out | apply zA | apply zN | apply zD) | exact HB.out))) : w.heap.size ≤ gb209)); clear HO208; clear HB; have HO208 := n0_; have HB := n1_; have BK209 := n2_; have GW209 := n3_; have GE209 := n4_; clear n0_ n1_ n2_ n3_ n4_; clear hb hbox hg; obtain ⟨hcz8_0, hcz8_1, hcz8_2, hcz8_3⟩ := blkc4 BK209.out; obtain ⟨hfz8_0, hfz8_1, hfz8_2, hfz8_3⟩ := blkf4 BK209.out))
 (try simp only [Act.put, List.setIfInBounds_toArray, List.set_cons_zero, List.set_cons_succ])
 go_cut [] (fun wc => ∃ (kq : Nat) (x210000_3 : Int) (x210001_3 : Int) (x210002_3 : Int) (x210003_3 : ByteArray), Aside0 (falseworklaw18_PredThree.j0 kq a2 y206 x210000_3 x210001_3 x210002_3 x210003_3 = some r) ∧ Aside0 (kq ≤ k) ∧ Aside0 (Kd.R k40 40 wc w.heap.size (fun k_ => k_ ≠ gb209) v207 y206) ∧ Aside0 (wc.heap[gb209]? = some (.cells #[.int .i64 x210000_3, .int .i64 x210001_3, .int .u64 x210002_3, .string x210003_3] 40 (0, 0))) ∧ Aside0 (Below w.heap.size w wc))
 case first =>
  have H := HC4.out
  clear HC4
  by_cases c9 : a2 = true
  ·subst c9
   have H1 : (falseworklaw18_PredThree.j0 k true y206 0 0 0 (⟨#[]⟩ : ByteArray)) = some r := by rw [if_pos rfl] at H; exact H
   clear H
   have H := H1
   clear H1
   have H' := Aside0.mk H
   clear H
   obtain ⟨hcz10_0, hcz10_1, hcz10_2, hcz10_3⟩ := blkc4 BK209.out
   obtain ⟨hfz10_0, hfz10_1, hfz10_2, hfz10_3⟩ := blkf4 BK209.out
   go_wp2
   go_meet
   case rel => exact ⟨_, (0), (0), (0), ((⟨#[]⟩ : ByteArray)), H', ⟨by first | omega | exact Nat.le_refl _⟩, ⟨by (with_reducible repeat (first | apply Kd.R_alloc | apply Kd.R_drewN | apply Kd.R_drew)); exact Kd.R_mono (Kd.R_far (p := ⟨gb209, 3, none⟩) (Kd.R_far (p := ⟨gb209, 2, none⟩) (Kd.R_far (p := ⟨gb209, 1, none⟩) (Kd.R_far (p := ⟨gb209, 0, none⟩) (Kd.R_far (p := ⟨gb209, 3, none⟩) (Kd.R_far (p := ⟨gb209, 2, none⟩) (Kd.R_far (p := ⟨gb209, 1, none⟩) (Kd.R_far (p := ⟨gb209, 0, none⟩) (Kd.R_mono HO208.out (fun k_ hk => (⟨hk, hk.2⟩ : _ ∧ k_ ≠ gb209))) (fun _ hk => by first | exact hk.2 | exact trivial) (.int .i64 2)) (fun _ hk => by first | exact hk.2 | exact trivial) (.int .i64 a1)) (fun _ hk => by first | exact hk.2 | exact trivial) (.int .u64 0)) (fun _ hk => by first | exact hk.2 | exact trivial) (.string (⟨#[]⟩ : ByteArray))) (fun _ hk => by first | exact hk.2 | exact trivial) (.int .i64 0)) (fun _ hk => by first | exact hk.2 | exact trivial) (.int .i64 0)) (fun _ hk => by first | exact hk.2 | exact trivial) (.int .u64 0)) (fun _ hk => by first | exact hk.2 | exact trivial) (.string (⟨#[]⟩ : ByteArray))) (fun _ hk => hk.1.2)⟩, ⟨by (with_reducible repeat (first | refine yN ?_ _ | refine yD ?_ | refine yA ?_ _)); refine blk_put (cs := #[.int .i64 0, .int .i64 0, .int .u64 0, .string (⟨#[]⟩ : ByteArray)]) ?_ 3 _ rfl; (with_reducible repeat (first | refine yN ?_ _ | refine yD ?_ | refine yA ?_ _)); refine blk_put (cs := #[.int .i64 0, .int .i64 0, .int .u64 0, .string (⟨#[]⟩ : ByteArray)]) ?_ 2 _ rfl; (with_reducible repeat (first | refine yN ?_ _ | refine yD ?_ | refine yA ?_ _)); refine blk_put (cs := #[.int .i64 0, .int .i64 a1, .int .u64 0, .string (⟨#[]⟩ : ByteArray)]) ?_ 1 _ rfl; (with_reducible repeat (first | refine yN ?_ _ | refine yD ?_ | refine yA ?_ _)); refine blk_put (cs := #[.int .i64 2, .int .i64 a1, .int .u64 0, .string (⟨#[]⟩ : ByteArray)]) ?_ 0 _ rfl; (with_reducible repeat (first | refine yN ?_ _ | refine yD ?_ | refine yA ?_ _)); refine blk_put (cs := #[.int .i64 2, .int .i64 a1, .int .u64 0, .string (⟨#[]⟩ : ByteArray)]) ?_ 3 _ rfl; (with_reducible repeat (first | refine yN ?_ _ | refine yD ?_ | refine yA ?_ _)); refine blk_put (cs := #[.int .i64 2, .int .i64 a1, .int .u64 0, .string (⟨#[]⟩ : ByteArray)]) ?_ 2 _ rfl; (with_reducible repeat (first | refine yN ?_ _ | refine yD ?_ | refine yA ?_ _)); refine blk_put (cs := #[.int .i64 2, .int .i64 0, .int .u64 0, .string (⟨#[]⟩ : ByteArray)]) ?_ 1 _ rfl; (with_reducible repeat (first | refine yN ?_ _ | refine yD ?_ | refine yA ?_ _)); refine blk_put (cs := #[.int .i64 0, .int .i64 0, .int .u64 0, .string (⟨#[]⟩ : ByteArray)]) ?_ 0 _ rfl; (with_reducible repeat (first | refine yN ?_ _ | refine yD ?_ | refine yA ?_ _)); exact BK209.out⟩, ⟨by repeat (first | (with_reducible first | exact HB.out | apply zA | apply zN | apply zD | refine below_set ?_ GE209.out) | exact HB.out)⟩⟩
  ·replace c9 := Bool.eq_false_iff.mpr c9
   subst c9
   have H1 : (falseworklaw18_PredThree.j0 k false y206 2 a1 0 (⟨#[]⟩ : ByteArray)) = some r := by rw [if_neg (show ¬ (false = true) by decide)] at H; exact H
   clear H
   have H := H1
   clear H1
   have H' := Aside0.mk H
   clear H
   go_wp2
   go_meet
   case rel => exact ⟨_, (2), (a1), (0), ((⟨#[]⟩ : ByteArray)), H', ⟨by first | omega | exact Nat.le_refl _⟩, ⟨by (with_reducible repeat (first | apply Kd.R_alloc | apply Kd.R_drewN | apply Kd.R_drew)); exact Kd.R_mono (Kd.R_far (p := ⟨gb209, 3, none⟩) (Kd.R_far (p := ⟨gb209, 2, none⟩) (Kd.R_far (p := ⟨gb209, 1, none⟩) (Kd.R_far (p := ⟨gb209, 0, none⟩) (Kd.R_mono HO208.out (fun k_ hk => (⟨hk, hk.2⟩ : _ ∧ k_ ≠ gb209))) (fun _ hk => by first | exact hk.2 | exact trivial) (.int .i64 2)) (fun _ hk => by first | exact hk.2 | exact trivial) (.int .i64 a1)) (fun _ hk => by first | exact hk.2 | exact trivial) (.int .u64 0)) (fun _ hk => by first | exact hk.2 | exact trivial) (.string (⟨#[]⟩ : ByteArray))) (fun _ hk => hk.1.2)⟩, ⟨by (with_reducible repeat (first | refine yN ?_ _ | refine yD ?_ | refine yA ?_ _)); refine blk_put (cs := #[.int .i64 2, .int .i64 a1, .int .u64 0, .string (⟨#[]⟩ : ByteArray)]) ?_ 3 _ rfl; (with_reducible repeat (first | refine yN ?_ _ | refine yD ?_ | refine yA ?_ _)); refine blk_put (cs := #[.int .i64 2, .int .i64 a1, .int .u64 0, .string (⟨#[]⟩ : ByteArray)]) ?_ 2 _ rfl; (with_reducible repeat (first | refine yN ?_ _ | refine yD ?_ | refine yA ?_ _)); refine blk_put (cs := #[.int .i64 2, .int .i64 0, .int .u64 0, .string (⟨#[]⟩ : ByteArray)]) ?_ 1 _ rfl; (with_reducible repeat (first | refine yN ?_ _ | refine yD ?_ | refine yA ?_ _)); refine blk_put (cs := #[.int .i64 0, .int .i64 0, .int .u64 0, .string (⟨#[]⟩ : ByteArray)]) ?_ 0 _ rfl; (with_reducible repeat (first | refine yN ?_ _ | refine yD ?_ | refine yA ?_ _)); exact BK209.out⟩, ⟨by repeat (first | (with_reducible first | exact HB.out | apply zA | apply zN | apply zD | refine below_set ?_ GE209.out) | exact HB.out)⟩⟩
 case rest =>
  clear HC4
  try clear p2
  try clear c4
  try clear c6
  try clear c9
  try clear hcz10_0
  try clear hcz10_1
  try clear hcz10_2
  try clear hcz10_3
  try clear hcz8_0
  try clear hcz8_1
  try clear hcz8_2
  try clear hcz8_3
  try clear hfz10_0
  try clear hfz10_1
  try clear hfz10_2
  try clear hfz10_3
  try clear hfz8_0
  try clear hfz8_1
  try clear hfz8_2
  try clear hfz8_3
  obtain ⟨kq, x210000_3, x210001_3, x210002_3, x210003_3, HA, HJ3, HO_7, BK209, HB⟩ := hcut
  cases kq with
  | zero => exact absurd HA.out (by simp [falseworklaw18_PredThree.j0])
  | succ kj3 =>
   have H := HA.out
   clear HA
   simp only [falseworklaw18_PredThree.j0] at H
   have H' := Aside0.mk H
   clear H
   go_wp2
   go_loopg [9, 10] kj3 (fun kq v9 v10 w' => ∃ (x9_2 : Int) (x10_2 : Int), v9 = .int .i64 x9_2 ∧ v10 = .int .i64 x10_2 ∧ Aside0 (falseworklaw18_PredThree.l0 kq a2 y206 x9_2 x10_2 x210000_3 x210001_3 x210002_3 x210003_3 = some r) ∧ Aside0 (kq ≤ kj3) ∧ Aside0 (Kd.R k40 40 w' w.heap.size (fun k_ => k_ ≠ gb209) v207 y206) ∧ Aside0 (w'.heap[gb209]? = some (.cells #[.int .i64 x210000_3, .int .i64 x210001_3, .int .u64 x210002_3, .string x210003_3] 40 (0, 0))) ∧ Aside0 (Below w.heap.size w w'))
   case atStart => exact ⟨(0), (1), (by first | rfl | (simp; done) | (simp [*]; done)), (by first | rfl | (simp; done) | (simp [*]; done)), H', ⟨Nat.le_refl _⟩, ⟨by (with_reducible repeat (first | apply Kd.R_alloc | apply Kd.R_drewN | apply Kd.R_drew)); exact HO_7.out⟩, ⟨by (with_reducible repeat (first | refine yN ?_ _ | refine yD ?_ | refine yA ?_ _)); exact BK209.out⟩, ⟨by repeat (first | (with_reducible first | exact HB.out | apply zA | apply zN | apply zD | refine below_set ?_ GE209.out) | exact HB.out)⟩⟩
   case round =>
    clear H'
    try clear p2
    try clear c4
    try clear c6
    try clear c9
    try clear hcz10_0
    try clear hcz10_1
    try clear hcz10_2
    try clear hcz10_3
    try clear hcz8_0
    try clear hcz8_1
    try clear hcz8_2
    try clear hcz8_3
    try clear hfz10_0
    try clear hfz10_1
    try clear hfz10_2
    try clear hfz10_3
    try clear hfz8_0
    try clear hfz8_1
    try clear hfz8_2
    try clear hfz8_3
    try clear p2
    obtain ⟨x9_2, x10_2, rfl, rfl, HA, HK2, HO_7, BK209, HB⟩ := hrel
    cases gk with
    | zero => exact absurd HA.out (by simp [falseworklaw18_PredThree.l0])
    | succ k2 =>
     have H := HA.out
     clear HA
     simp only [falseworklaw18_PredThree.l0] at H
     by_cases c11 : x10_2 ≤ 3
     ·rw [if_pos c11] at H
      have c11b0 : decide (x10_2 ≤ 3) = true := decide_eq_true c11
      clear c11
      replace H := Option.bind_eq_some_iff.mp H
      obtain ⟨t210, A120, H⟩ := H
      replace H : ((pred_Test.f k2 t210 y206 (([(⟨(⟨#[97]⟩ : ByteArray), x10_2, (⟨x210000_3, x210001_3, x210002_3, x210003_3⟩ : S40)⟩ : S43)] : List (S43)))).bind fun bt216 => ((falseworklaw18_cols.f 2).bind fun t218 => ((pred_Test.f k2 t218 y206 (([(⟨(⟨#[98]⟩ : ByteArray), x10_2, (⟨x210000_3, x210001_3, x210002_3, x210003_3⟩ : S40)⟩ : S43)] : List (S43)))).bind fun bt224 => ((falseworklaw18_num.f bt216.2).bind fun t226 => (if t226 = 0 then ((falseworklaw18_num.f bt224.2).bind fun t227 => (if t227 = 0 then (if bt224.1 = (-1) then (if a2 = true then (if bt216.1 = (-1) then (falseworklaw18_PredThree.l0 k2 a2 y206 (wrap64 (x9_2 + bt216.1)) (wrap64 (x10_2 + 1)) x210000_3 x210001_3 x210002_3 x210003_3) else (none)) else (falseworklaw18_PredThree.l0 k2 a2 y206 (wrap64 (x9_2 + bt216.1)) (wrap64 (x10_2 + 1)) x210000_3 x210001_3 x210002_3 x210003_3)) else (none)) else (none))) else (none)))))) = some r := H
      have A12 := Aside0.mk A120
      clear A120
      obtain ⟨y213, hy213⟩ : ∃ y_ : List (S43), y_ = (([(⟨(⟨#[97]⟩ : ByteArray), x10_2, (⟨x210000_3, x210001_3, x210002_3, x210003_3⟩ : S40)⟩ : S43)] : List (S43))) := ⟨_, rfl⟩
      replace H : ((pred_Test.f k2 t210 y206 y213).bind fun bt216 => ((falseworklaw18_cols.f 2).bind fun t218 => ((pred_Test.f k2 t218 y206 (([(⟨(⟨#[98]⟩ : ByteArray), x10_2, (⟨x210000_3, x210001_3, x210002_3, x210003_3⟩ : S40)⟩ : S43)] : List (S43)))).bind fun bt224 => ((falseworklaw18_num.f bt216.2).bind fun t226 => (if t226 = 0 then ((falseworklaw18_num.f bt224.2).bind fun t227 => (if t227 = 0 then (if bt224.1 = (-1) then (if a2 = true then (if bt216.1 = (-1) then (falseworklaw18_PredThree.l0 k2 a2 y206 (wrap64 (x9_2 + bt216.1)) (wrap64 (x10_2 + 1)) x210000_3 x210001_3 x210002_3 x210003_3) else (none)) else (falseworklaw18_PredThree.l0 k2 a2 y206 (wrap64 (x9_2 + bt216.1)) (wrap64 (x10_2 + 1)) x210000_3 x210001_3 x210002_3 x210003_3)) else (none)) else (none))) else (none)))))) = some r := by first | (rw [hy213]; with_reducible exact H) | (have H2_ := (Option.bind_some _ _).symm.trans H; rw [hy213]; with_reducible exact H2_) | (have H2_ := (Option.bind_some _ _).symm.trans H; with_reducible exact H2_) | with_reducible exact H | (rw [hy213]; exact H) | exact H
      have Ny213 := Aside0.mk hy213
      clear hy213
      replace H := Option.bind_eq_some_iff.mp H
      obtain ⟨⟨t216, t217⟩, A130, H⟩ := H
      replace H : ((falseworklaw18_cols.f 2).bind fun t218 => ((pred_Test.f k2 t218 y206 (([(⟨(⟨#[98]⟩ : ByteArray), x10_2, (⟨x210000_3, x210001_3, x210002_3, x210003_3⟩ : S40)⟩ : S43)] : List (S43)))).bind fun bt224 => ((falseworklaw18_num.f t217).bind fun t226 => (if t226 = 0 then ((falseworklaw18_num.f bt224.2).bind fun t227 => (if t227 = 0 then (if bt224.1 = (-1) then (if a2 = true then (if t216 = (-1) then (falseworklaw18_PredThree.l0 k2 a2 y206 (wrap64 (x9_2 + t216)) (wrap64 (x10_2 + 1)) x210000_3 x210001_3 x210002_3 x210003_3) else (none)) else (falseworklaw18_PredThree.l0 k2 a2 y206 (wrap64 (x9_2 + t216)) (wrap64 (x10_2 + 1)) x210000_3 x210001_3 x210002_3 x210003_3)) else (none)) else (none))) else (none))))) = some r := H
      have A13 := Aside0.mk A130
      clear A130
      replace H := Option.bind_eq_some_iff.mp H
      obtain ⟨t218, A140, H⟩ := H
      replace H : ((pred_Test.f k2 t218 y206 (([(⟨(⟨#[98]⟩ : ByteArray), x10_2, (⟨x210000_3, x210001_3, x210002_3, x210003_3⟩ : S40)⟩ : S43)] : List (S43)))).bind fun bt224 => ((falseworklaw18_num.f t217).bind fun t226 => (if t226 = 0 then ((falseworklaw18_num.f bt224.2).bind fun t227 => (if t227 = 0 then (if bt224.1 = (-1) then (if a2 = true then (if t216 = (-1) then (falseworklaw18_PredThree.l0 k2 a2 y206 (wrap64 (x9_2 + t216)) (wrap64 (x10_2 + 1)) x210000_3 x210001_3 x210002_3 x210003_3) else (none)) else (falseworklaw18_PredThree.l0 k2 a2 y206 (wrap64 (x9_2 + t216)) (wrap64 (x10_2 + 1)) x210000_3 x210001_3 x210002_3 x210003_3)) else (none)) else (none))) else (none)))) = some r := H
      have A14 := Aside0.mk A140
      clear A140
      obtain ⟨y221, hy221⟩ : ∃ y_ : List (S43), y_ = (([(⟨(⟨#[98]⟩ : ByteArray), x10_2, (⟨x210000_3, x210001_3, x210002_3, x210003_3⟩ : S40)⟩ : S43)] : List (S43))) := ⟨_, rfl⟩
      replace H : ((pred_Test.f k2 t218 y206 y221).bind fun bt224 => ((falseworklaw18_num.f t217).bind fun t226 => (if t226 = 0 then ((falseworklaw18_num.f bt224.2).bind fun t227 => (if t227 = 0 then (if bt224.1 = (-1) then (if a2 = true then (if t216 = (-1) then (falseworklaw18_PredThree.l0 k2 a2 y206 (wrap64 (x9_2 + t216)) (wrap64 (x10_2 + 1)) x210000_3 x210001_3 x210002_3 x210003_3) else (none)) else (falseworklaw18_PredThree.l0 k2 a2 y206 (wrap64 (x9_2 + t216)) (wrap64 (x10_2 + 1)) x210000_3 x210001_3 x210002_3 x210003_3)) else (none)) else (none))) else (none)))) = some r := by first | (rw [hy221]; with_reducible exact H) | (have H2_ := (Option.bind_some _ _).symm.trans H; rw [hy221]; with_reducible exact H2_) | (have H2_ := (Option.bind_some _ _).symm.trans H; with_reducible exact H2_) | with_reducible exact H | (rw [hy221]; exact H) | exact H
      have Ny221 := Aside0.mk hy221
      clear hy221
      replace H := Option.bind_eq_some_iff.mp H
      obtain ⟨⟨t224, t225⟩, A150, H⟩ := H
      replace H : ((falseworklaw18_num.f t217).bind fun t226 => (if t226 = 0 then ((falseworklaw18_num.f t225).bind fun t227 => (if t227 = 0 then (if t224 = (-1) then (if a2 = true then (if t216 = (-1) then (falseworklaw18_PredThree.l0 k2 a2 y206 (wrap64 (x9_2 + t216)) (wrap64 (x10_2 + 1)) x210000_3 x210001_3 x210002_3 x210003_3) else (none)) else (falseworklaw18_PredThree.l0 k2 a2 y206 (wrap64 (x9_2 + t216)) (wrap64 (x10_2 + 1)) x210000_3 x210001_3 x210002_3 x210003_3)) else (none)) else (none))) else (none))) = some r := H
      have A15 := Aside0.mk A150
      clear A150
      replace H := Option.bind_eq_some_iff.mp H
      obtain ⟨t226, A160, H⟩ := H
      replace H : (if t226 = 0 then ((falseworklaw18_num.f t225).bind fun t227 => (if t227 = 0 then (if t224 = (-1) then (if a2 = true then (if t216 = (-1) then (falseworklaw18_PredThree.l0 k2 a2 y206 (wrap64 (x9_2 + t216)) (wrap64 (x10_2 + 1)) x210000_3 x210001_3 x210002_3 x210003_3) else (none)) else (falseworklaw18_PredThree.l0 k2 a2 y206 (wrap64 (x9_2 + t216)) (wrap64 (x10_2 + 1)) x210000_3 x210001_3 x210002_3 x210003_3)) else (none)) else (none))) else (none)) = some r := H
      have A16 := Aside0.mk A160
      clear A160
      by_cases c17 : t226 = 0
      ·rw [if_pos c17] at H
       have c17b0 : (t226 == 0) = true := beq_iff_eq.mpr c17
       have c17b1 : (t226 != 0) = false := bne_eq_false_iff_eq.mpr c17
       clear c17
       replace H := Option.bind_eq_some_iff.mp H
       obtain ⟨t227, A180, H⟩ := H
       replace H : (if t227 = 0 then (if t224 = (-1) then (if a2 = true then (if t216 = (-1) then (falseworklaw18_PredThree.l0 k2 a2 y206 (wrap64 (x9_2 + t216)) (wrap64 (x10_2 + 1)) x210000_3 x210001_3 x210002_3 x210003_3) else (none)) else (falseworklaw18_PredThree.l0 k2 a2 y206 (wrap64 (x9_2 + t216)) (wrap64 (x10_2 + 1)) x210000_3 x210001_3 x210002_3 x210003_3)) else (none)) else (none)) = some r := H
       have A18 := Aside0.mk A180
       clear A180
       by_cases c19 : t227 = 0
       ·rw [if_pos c19] at H
        have c19b0 : (t227 == 0) = true := beq_iff_eq.mpr c19
        have c19b1 : (t227 != 0) = false := bne_eq_false_iff_eq.mpr c19
        clear c19
        by_cases c20 : t224 = (-1)
        ·rw [if_pos c20] at H
         have c20b0 : (t224 == (-1)) = true := beq_iff_eq.mpr c20
         have c20b1 : (t224 != (-1)) = false := bne_eq_false_iff_eq.mpr c20
         clear c20
         by_cases c21 : a2 = true
         ·subst c21
          have H1 : (if t216 = (-1) then (falseworklaw18_PredThree.l0 k2 true y206 (wrap64 (x9_2 + t216)) (wrap64 (x10_2 + 1)) x210000_3 x210001_3 x210002_3 x210003_3) else (none)) = some r := by rw [if_pos rfl] at H; exact H
          clear H
          have H := H1
          clear H1
          by_cases c22 : t216 = (-1)
          ·rw [if_pos c22] at H
           have c22b0 : (t216 == (-1)) = true := beq_iff_eq.mpr c22
           have c22b1 : (t216 != (-1)) = false := bne_eq_false_iff_eq.mpr c22
           clear c22
           have H' := Aside0.mk H
           clear H
           obtain ⟨Ao23, co23, eo23⟩ := Kd.R_slice HO_7.out
           subst eo23
           try go_wp2
           have n0_ := Aside0.mk (Kd.R_drew HO_7.out)
           have n1_ := Aside0.mk (yD BK209.out)
           have n2_ := Aside0.mk (zD HB.out)
           clear HO_7
           clear BK209
           clear HB
           have HO_7 := n0_
           have BK209 := n1_
           have HB := n2_
           clear n0_ n1_ n2_
           refine start_ (n := 12) (S := fun w' => w'.cell? ⟨gb209, 0, none⟩ = some (.int .i64 x210000_3) ∧ w'.cell? ⟨gb209, 1, none⟩ = some (.int .i64 x210001_3) ∧ w'.cell? ⟨gb209, 2, none⟩ = some (.int .u64 x210002_3) ∧ w'.cell? ⟨gb209, 3, none⟩ = some (.string x210003_3)) (ds := []) #[false, false, false, false, false, false, false, false, false, false, false, false] (by kernel_rfl) rfl rfl ⟨(blk_cell BK209.out 0).trans rfl, (blk_cell BK209.out 1).trans rfl, (blk_cell BK209.out 2).trans rfl, (blk_cell BK209.out 3).trans rfl⟩ (fun hHeld => ?_); refine with_tabW falseworklaw18_PredThree.tab9 falseworklaw18_PredThree.bits9 (fun HT_ HW_ => ?_)
           generalize wr.drew = w24 at HO_7 BK209 HB hHeld ⊢
           refine pure_ (i := 1) (N := some 35) (v := ?_) (a' := ?_) #[false, true, false, false, false, false, false, false, false, false, false, false] rfl rfl (any_of HT_.out (by kernel_rfl)) (fun _ _ _ h => h) (Or.inl ⟨by rfl, ?_⟩) ?_ ?_
           rotate_left
           ·intro w'
            go_simp
            with_reducible rfl
           rotate_left
           ·simp only [Act.put, List.setIfInBounds_toArray, List.set_cons_zero, List.set_cons_succ, i64_w, i32_w]
            rfl
           refine pure_ (i := 2) (N := some 36) (v := ?_) (a' := ?_) #[false, true, true, false, false, false, false, false, false, false, false, false] rfl rfl (any_of HT_.out (by kernel_rfl)) (fun _ _ _ h => h) (Or.inl ⟨by rfl, ?_⟩) ?_ ?_
           rotate_left
           ·intro w'
            go_simp
            with_reducible rfl
           rotate_left
           ·simp only [Act.put, List.setIfInBounds_toArray, List.set_cons_zero, List.set_cons_succ, i64_w, i32_w]
            rfl
           refine take_ (i := 3) (N := some 37) (v := ?_) (a' := ?_) #[false, true, true, true, false, false, false, false, false, false, false, false] rfl rfl (take_ofW HT_.out HW_.out (by kernel_rfl)) (fun _ _ _ h => h) (Or.inl ⟨by rfl, ?_⟩) hHeld ?_ ?_
           rotate_left
           ·rintro w' ⟨s0, s1, s2, s3⟩
            go_simp
            with_reducible rfl
           rotate_left
           ·simp only [Act.put, List.setIfInBounds_toArray, List.set_cons_zero, List.set_cons_succ, i64_w, i32_w]
            rfl
           refine pure_ (i := 4) (N := some 38) (v := ?_) (a' := ?_) #[false, true, true, true, true, false, false, false, false, false, false, false] rfl rfl (any_of HT_.out (by kernel_rfl)) (fun _ _ _ h => h) (Or.inl ⟨by rfl, ?_⟩) ?_ ?_
           rotate_left
           ·intro w'
            go_simp
            with_reducible rfl
           rotate_left
           ·simp only [Act.put, List.setIfInBounds_toArray, List.set_cons_zero, List.set_cons_succ, i64_w, i32_w]
            rfl
           refine join_ (σ := Value × Value) 6 #[true, true, true, true, true, true, false, false, false, false, false, false] (fun s_ => [(34, s_.1), (39, s_.2)]) (fun s_ w' => (w'.cell? ⟨gb209, 0, none⟩ = some (.int .i64 x210000_3) ∧ w'.cell? ⟨gb209, 1, none⟩ = some (.int .i64 x210001_3) ∧ w'.cell? ⟨gb209, 2, none⟩ = some (.int .u64 x210002_3) ∧ w'.cell? ⟨gb209, 3, none⟩ = some (.string x210003_3)) ∧ (Kd.R k51 51 w' w.heap.size (fun _ => True) s_.1 t210) ∧ (Kd.R k43 43 w' w.heap.size (fun _ => True) s_.2 y213) ∧ (Kd.R k40 40 w' w.heap.size (fun k_ => k_ ≠ gb209) (.slice Ao23 y206.length co23) y206) ∧ (w'.heap[gb209]? = some (.cells #[.int .i64 x210000_3, .int .i64 x210001_3, .int .u64 x210002_3, .string x210003_3] 40 (0, 0))) ∧ (Below w.heap.size w w')) ?_ ?_
           rotate_left
           ·intro hCont
            refine two_ (i := 0) (j := 5) (Ni := some 34) (Nj := some 39) #[true, true, true, true, true, false, false, false, false, false, false, false] #[false, true, true, true, true, true, false, false, false, false, false, false] rfl rfl rfl rfl (two_of HT_.out (by kernel_rfl)) (by decide) (by decide) (fun K hK => ?_) (fun K hK => ?_)
            ·skip
             refine goes_ Try.func15 (by kernel_rfl) rfl #[.int .i64 2] (by rfl) rfl rfl (by (try simp only [List.map_toArray, List.map_cons, List.map_nil]); first | done | rfl | (simp only [List.length_drop, List.length_take]; rfl)) ?_
             with_reducible refine (falseworklaw18_cols.calls 2 t210 _ A12.out).mono ?_
             rintro e w25 ⟨v211, rfl, ho0, hb⟩
             refine ⟨_, rfl, ?_⟩
             have n0_ := Aside0.mk (Kd.R_below (by (with_reducible repeat (first | apply Kd.R_alloc | apply Kd.R_drewN | apply Kd.R_drew)); exact HO_7.out) hb)
             have n1_ := Aside0.mk (Kd.R_lower ho0 (zZ (by repeat (first | (with_reducible first | exact HB.out | apply zA | apply zN | apply zD | refine below_set ?_ GE209.out) | exact HB.out))))
             have n2_ := Aside0.mk (yB (g := gb209) (o := .cells #[.int .i64 x210000_3, .int .i64 x210001_3, .int .u64 x210002_3, .string x210003_3] 40 (0, 0)) (by (with_reducible repeat (first | refine yN ?_ _ | refine yD ?_ | refine yA ?_ _)); exact BK209.out) hb)
             have n3_ := Aside0.mk (zS (by repeat (first | (with_reducible first | exact HB.out | apply zA | apply zN | apply zD | refine below_set ?_ GE209.out) | exact HB.out)) hb)
             clear HO_7
             clear BK209
             clear HB
             have HO_7 := n0_
             have HO212 := n1_
             have BK209 := n2_
             have HB := n3_
             clear n0_ n1_ n2_ n3_
             (try clear hb)
             (try clear hb2)
             (try clear hk)
             (try clear hi)
             (try clear ho0)
             refine hK.out _ _ ⟨(blk_cell BK209.out 0).trans rfl, (blk_cell BK209.out 1).trans rfl, (blk_cell BK209.out 2).trans rfl, (blk_cell BK209.out 3).trans rfl⟩ (fun hHeld => ?_)
             clear hK K
             refine norm_ (a' := ?_) ?_ ?_
             rotate_left
             ·show Act.put _ (some 34) _ = _
              simp only [Act.put, List.setIfInBounds_toArray, List.set_cons_zero, List.set_cons_succ, i64_w, i32_w]
              rfl
             refine one_ (i := 5) (N := some 39) #[true, true, true, true, true, true, false, false, false, false, false, false] rfl rfl (one_of HT_.out (by kernel_rfl)) (by decide) (fun K hK => ?_)
             refine Kd.R_lit_step k43 _ 43 ?hg (N := 39) ?hd (xs := ([(⟨(⟨#[97]⟩ : ByteArray), x10_2, (⟨x210000_3, x210001_3, x210002_3, x210003_3⟩ : S40)⟩ : S43)] : List (S43))) (inner := [.string (⟨#[97]⟩ : ByteArray), .int .i64 x10_2, .int .i64 x210000_3, .int .i64 x210001_3, .int .u64 x210002_3, .string x210003_3]) (ok := fun _ => True) (okp := fun _ => True) ?hr ?hp (fun _ hk => hk) trivial (Below.refl _ _) (Nat.le_refl _) (by simp) ?_; (case hd => rfl); (case hg => rfl); (case hr => first | (go_simp; done) | (go_simp; rfl)); (case hp => exact (Reps.c6 (show Kd.M k43 _ _ _ (⟨(⟨#[97]⟩ : ByteArray), x10_2, (⟨x210000_3, x210001_3, x210002_3, x210003_3⟩ : S40)⟩ : S43) [.string (⟨#[97]⟩ : ByteArray), .int .i64 x10_2, .int .i64 x210000_3, .int .i64 x210001_3, .int .u64 x210002_3, .string x210003_3] from (k43_mkM _ _ _ (⟨(⟨#[97]⟩ : ByteArray), x10_2, (⟨x210000_3, x210001_3, x210002_3, x210003_3⟩ : S40)⟩ : S43) )) (Reps.none _ _)))
             intro v214 w26 ho27 hb hg_ hnew_
             clear hg_ hnew_
             (first | rw [← Ny213.out] at ho27 | (simp only [Int.reduceToNat] at ho27; rw [← Ny213.out] at ho27))
             have n0_ := Aside0.mk (Kd.R_below (by (with_reducible repeat (first | apply Kd.R_alloc | apply Kd.R_drewN | apply Kd.R_drew)); exact HO_7.out) hb)
             have n1_ := Aside0.mk (Kd.R_below (by (with_reducible repeat (first | apply Kd.R_alloc | apply Kd.R_drewN | apply Kd.R_drew)); exact HO212.out) hb)
             have n2_ := Aside0.mk (Kd.R_lower ho27 (zZ (by repeat (first | (with_reducible first | exact HB.out | apply zA | apply zN | apply zD | refine below_set ?_ GE209.out) | exact HB.out))))
             have n3_ := Aside0.mk (yB (g := gb209) (o := .cells #[.int .i64 x210000_3, .int .i64 x210001_3, .int .u64 x210002_3, .string x210003_3] 40 (0, 0)) (by (with_reducible repeat (first | refine yN ?_ _ | refine yD ?_ | refine yA ?_ _)); exact BK209.out) hb)
             have n4_ := Aside0.mk (zS (by repeat (first | (with_reducible first | exact HB.out | apply zA | apply zN | apply zD | refine below_set ?_ GE209.out) | exact HB.out)) hb)
             clear HO_7
             clear HO212
             clear BK209
             clear HB
             have HO_7 := n0_
             have HO212 := n1_
             have HO215 := n2_
             have BK209 := n3_
             have HB := n4_
             clear n0_ n1_ n2_ n3_ n4_
             clear hb ho27
             refine hK.out _ _ ⟨(blk_cell BK209.out 0).trans rfl, (blk_cell BK209.out 1).trans rfl, (blk_cell BK209.out 2).trans rfl, (blk_cell BK209.out 3).trans rfl⟩ (fun hHeld => ?_)
             clear hK K
             refine norm_ (a' := ?_) ?_ ?_
             rotate_left
             ·show Act.put _ (some 39) _ = _
              simp only [Act.put, List.setIfInBounds_toArray, List.set_cons_zero, List.set_cons_succ, i64_w, i32_w]
              rfl
             exact norm_ (by simp only [putAll, Act.put, List.setIfInBounds_toArray, List.set_cons_zero, List.set_cons_succ]) (hCont (v211, v214) _ ⟨hHeld, (by (with_reducible repeat (first | apply Kd.R_alloc | apply Kd.R_drewN | apply Kd.R_drew)); exact HO212.out), (by (with_reducible repeat (first | apply Kd.R_alloc | apply Kd.R_drewN | apply Kd.R_drew)); exact HO215.out), (by (with_reducible repeat (first | apply Kd.R_alloc | apply Kd.R_drewN | apply Kd.R_drew)); exact HO_7.out), (by (with_reducible repeat (first | refine yN ?_ _ | refine yD ?_ | refine yA ?_ _)); exact BK209.out), (by repeat (first | (with_reducible first | exact HB.out | apply zA | apply zN | apply zD | refine below_set ?_ GE209.out) | exact HB.out))⟩)
            ·skip
             refine Kd.R_lit_step k43 _ 43 ?hg (N := 39) ?hd (xs := ([(⟨(⟨#[97]⟩ : ByteArray), x10_2, (⟨x210000_3, x210001_3, x210002_3, x210003_3⟩ : S40)⟩ : S43)] : List (S43))) (inner := [.string (⟨#[97]⟩ : ByteArray), .int .i64 x10_2, .int .i64 x210000_3, .int .i64 x210001_3, .int .u64 x210002_3, .string x210003_3]) (ok := fun _ => True) (okp := fun _ => True) ?hr ?hp (fun _ hk => hk) trivial (Below.refl _ _) (Nat.le_refl _) (by simp) ?_; (case hd => rfl); (case hg => rfl); (case hr => first | (go_simp; done) | (go_simp; rfl)); (case hp => exact (Reps.c6 (show Kd.M k43 _ _ _ (⟨(⟨#[97]⟩ : ByteArray), x10_2, (⟨x210000_3, x210001_3, x210002_3, x210003_3⟩ : S40)⟩ : S43) [.string (⟨#[97]⟩ : ByteArray), .int .i64 x10_2, .int .i64 x210000_3, .int .i64 x210001_3, .int .u64 x210002_3, .string x210003_3] from (k43_mkM _ _ _ (⟨(⟨#[97]⟩ : ByteArray), x10_2, (⟨x210000_3, x210001_3, x210002_3, x210003_3⟩ : S40)⟩ : S43) )) (Reps.none _ _)))
             intro v214 w25 ho26 hb hg_ hnew_
             clear hg_ hnew_
             (first | rw [← Ny213.out] at ho26 | (simp only [Int.reduceToNat] at ho26; rw [← Ny213.out] at ho26))
             have n0_ := Aside0.mk (Kd.R_below (by (with_reducible repeat (first | apply Kd.R_alloc | apply Kd.R_drewN | apply Kd.R_drew)); exact HO_7.out) hb)
             have n1_ := Aside0.mk (Kd.R_lower ho26 (zZ (by repeat (first | (with_reducible first | exact HB.out | apply zA | apply zN | apply zD | refine below_set ?_ GE209.out) | exact HB.out))))
             have n2_ := Aside0.mk (yB (g := gb209) (o := .cells #[.int .i64 x210000_3, .int .i64 x210001_3, .int .u64 x210002_3, .string x210003_3] 40 (0, 0)) (by (with_reducible repeat (first | refine yN ?_ _ | refine yD ?_ | refine yA ?_ _)); exact BK209.out) hb)
             have n3_ := Aside0.mk (zS (by repeat (first | (with_reducible first | exact HB.out | apply zA | apply zN | apply zD | refine below_set ?_ GE209.out) | exact HB.out)) hb)
             clear HO_7
             clear BK209
             clear HB
             have HO_7 := n0_
             have HO215 := n1_
             have BK209 := n2_
             have HB := n3_
             clear n0_ n1_ n2_ n3_
             clear hb ho26
             refine hK.out _ _ ⟨(blk_cell BK209.out 0).trans rfl, (blk_cell BK209.out 1).trans rfl, (blk_cell BK209.out 2).trans rfl, (blk_cell BK209.out 3).trans rfl⟩ (fun hHeld => ?_)
             clear hK K
             refine norm_ (a' := ?_) ?_ ?_
             rotate_left
             ·show Act.put _ (some 39) _ = _
              simp only [Act.put, List.setIfInBounds_toArray, List.set_cons_zero, List.set_cons_succ, i64_w, i32_w]
              rfl
             refine one_ (i := 0) (N := some 34) #[true, true, true, true, true, true, false, false, false, false, false, false] rfl rfl (one_of HT_.out (by kernel_rfl)) (by decide) (fun K hK => ?_)
             refine goes_ Try.func15 (by kernel_rfl) rfl #[.int .i64 2] (by rfl) rfl rfl (by (try simp only [List.map_toArray, List.map_cons, List.map_nil]); first | done | rfl | (simp only [List.length_drop, List.length_take]; rfl)) ?_
             with_reducible refine (falseworklaw18_cols.calls 2 t210 _ A12.out).mono ?_
             rintro e w27 ⟨v211, rfl, ho0, hb⟩
             refine ⟨_, rfl, ?_⟩
             have n0_ := Aside0.mk (Kd.R_below (by (with_reducible repeat (first | apply Kd.R_alloc | apply Kd.R_drewN | apply Kd.R_drew)); exact HO_7.out) hb)
             have n1_ := Aside0.mk (Kd.R_below (by (with_reducible repeat (first | apply Kd.R_alloc | apply Kd.R_drewN | apply Kd.R_drew)); exact HO215.out) hb)
             have n2_ := Aside0.mk (Kd.R_lower ho0 (zZ (by repeat (first | (with_reducible first | exact HB.out | apply zA | apply zN | apply zD | refine below_set ?_ GE209.out) | exact HB.out))))
             have n3_ := Aside0.mk (yB (g := gb209) (o := .cells #[.int .i64 x210000_3, .int .i64 x210001_3, .int .u64 x210002_3, .string x210003_3] 40 (0, 0)) (by (with_reducible repeat (first | refine yN ?_ _ | refine yD ?_ | refine yA ?_ _)); exact BK209.out) hb)
             have n4_ := Aside0.mk (zS (by repeat (first | (with_reducible first | exact HB.out | apply zA | apply zN | apply zD | refine below_set ?_ GE209.out) | exact HB.out)) hb)
             clear HO_7
             clear HO215
             clear BK209
             clear HB
             have HO_7 := n0_
             have HO215 := n1_
             have HO212 := n2_
             have BK209 := n3_
             have HB := n4_
             clear n0_ n1_ n2_ n3_ n4_
             (try clear hb)
             (try clear hb2)
             (try clear hk)
             (try clear hi)
             (try clear ho0)
             refine hK.out _ _ ⟨(blk_cell BK209.out 0).trans rfl, (blk_cell BK209.out 1).trans rfl, (blk_cell BK209.out 2).trans rfl, (blk_cell BK209.out 3).trans rfl⟩ (fun hHeld => ?_)
             clear hK K
             refine norm_ (a' := ?_) ?_ ?_
             rotate_left
             ·show Act.put _ (some 34) _ = _
              simp only [Act.put, List.setIfInBounds_toArray, List.set_cons_zero, List.set_cons_succ, i64_w, i32_w]
              rfl
             exact norm_ (by simp only [putAll, Act.put, List.setIfInBounds_toArray, List.set_cons_zero, List.set_cons_succ]) (hCont (v211, v214) _ ⟨hHeld, (by (with_reducible repeat (first | apply Kd.R_alloc | apply Kd.R_drewN | apply Kd.R_drew)); exact HO212.out), (by (with_reducible repeat (first | apply Kd.R_alloc | apply Kd.R_drewN | apply Kd.R_drew)); exact HO215.out), (by (with_reducible repeat (first | apply Kd.R_alloc | apply Kd.R_drewN | apply Kd.R_drew)); exact HO_7.out), (by (with_reducible repeat (first | refine yN ?_ _ | refine yD ?_ | refine yA ?_ _)); exact BK209.out), (by repeat (first | (with_reducible first | exact HB.out | apply zA | apply zN | apply zD | refine below_set ?_ GE209.out) | exact HB.out))⟩)
           rintro ⟨v211, v214⟩ w28 ⟨hS_, h0_, h1_, h2_, h3_, h4_⟩
           have n0_ : Aside0 (Kd.R k51 51 w28 w.heap.size (fun _ => True) v211 t210) := ⟨h0_⟩
           have n1_ : Aside0 (Kd.R k43 43 w28 w.heap.size (fun _ => True) v214 y213) := ⟨h1_⟩
           have n2_ : Aside0 (Kd.R k40 40 w28 w.heap.size (fun k_ => k_ ≠ gb209) (.slice Ao23 y206.length co23) y206) := ⟨h2_⟩
           have n3_ : Aside0 (w28.heap[gb209]? = some (.cells #[.int .i64 x210000_3, .int .i64 x210001_3, .int .u64 x210002_3, .string x210003_3] 40 (0, 0))) := ⟨h3_⟩
           have n4_ : Aside0 (Below w.heap.size w w28) := ⟨h4_⟩
           clear HO_7
           clear BK209
           clear HB
           clear h0_ h1_ h2_ h3_ h4_
           have HO212 := n0_
           have HO215 := n1_
           have HO_7 := n2_
           have BK209 := n3_
           have HB := n4_
           clear n0_ n1_ n2_ n3_ n4_
           have hHeld : w28.cell? ⟨gb209, 0, none⟩ = some (.int .i64 x210000_3) ∧ w28.cell? ⟨gb209, 1, none⟩ = some (.int .i64 x210001_3) ∧ w28.cell? ⟨gb209, 2, none⟩ = some (.int .u64 x210002_3) ∧ w28.cell? ⟨gb209, 3, none⟩ = some (.string x210003_3) := hS_
           obtain ⟨Ao29, co29, eo29⟩ := Kd.R_slice HO212.out
           (first | subst eo29 | (injection eo29 with f1_ f2_ f3_; have f4_ := f1_.symm; have f5_ := f3_.symm; clear f1_ f2_ f3_; subst f4_; subst f5_))
           obtain ⟨Ao30, co30, eo30⟩ := Kd.R_slice HO215.out
           (first | subst eo30 | (injection eo30 with f1_ f2_ f3_; have f4_ := f1_.symm; have f5_ := f3_.symm; clear f1_ f2_ f3_; subst f4_; subst f5_))
           refine norm_ (a' := ?_) ?_ ?_
           rotate_left
           ·simp only [putAll, Act.put, List.setIfInBounds_toArray, List.set_cons_zero, List.set_cons_succ]
            rfl
           refine one_ (i := 6) (N := some 40) #[true, true, true, true, true, true, true, false, false, false, false, false] rfl rfl (one_of HT_.out (by kernel_rfl)) (by decide) (fun K hK => ?_)
           refine goes_ Try.func13 (by kernel_rfl) rfl #[.slice Ao29 t210.length co29, .slice Ao23 y206.length co23, .slice Ao30 y213.length co30] (by rfl) rfl rfl (by (try simp only [List.map_toArray, List.map_cons, List.map_nil]); first | done | rfl | (simp only [List.length_drop, List.length_take]; rfl)) ?_
           with_reducible refine (pred_Test.calls k2 _ _ t210 _ _ y206 _ _ y213 t216 t217 _ ?side1 ?side2 ?side3 ?side4 ?side5 ?side6 A13.out).mono ?_
           (case side1 => repeat (first | exact (Kd.R_reads' HO212.out).2.2 | (with_reducible refine Kd.C_alloc ?_ _) | (with_reducible refine Kd.C_drewN ?_ _) | (with_reducible refine Kd.C_drew ?_)))
           (case side2 => exact (Kd.R_reads' HO212.out).2.1)
           (case side3 => repeat (first | exact (Kd.R_reads' HO_7.out).2.2 | (with_reducible refine Kd.C_alloc ?_ _) | (with_reducible refine Kd.C_drewN ?_ _) | (with_reducible refine Kd.C_drew ?_)))
           (case side4 => exact (Kd.R_reads' HO_7.out).2.1)
           (case side5 => repeat (first | exact (Kd.R_reads' HO215.out).2.2 | (with_reducible refine Kd.C_alloc ?_ _) | (with_reducible refine Kd.C_drewN ?_ _) | (with_reducible refine Kd.C_drew ?_)))
           (case side6 => exact (Kd.R_reads' HO215.out).2.1)
           rintro e w31 ⟨rfl, hb⟩
           refine ⟨_, rfl, ?_⟩
           have n0_ := Aside0.mk (Kd.R_below (by (with_reducible repeat (first | apply Kd.R_alloc | apply Kd.R_drewN | apply Kd.R_drew)); exact HO_7.out) hb)
           have n1_ := Aside0.mk (Kd.R_below (by (with_reducible repeat (first | apply Kd.R_alloc | apply Kd.R_drewN | apply Kd.R_drew)); exact HO212.out) hb)
           have n2_ := Aside0.mk (Kd.R_below (by (with_reducible repeat (first | apply Kd.R_alloc | apply Kd.R_drewN | apply Kd.R_drew)); exact HO215.out) hb)
           have n3_ := Aside0.mk (yB (g := gb209) (o := .cells #[.int .i64 x210000_3, .int .i64 x210001_3, .int .u64 x210002_3, .string x210003_3] 40 (0, 0)) (by (with_reducible repeat (first | refine yN ?_ _ | refine yD ?_ | refine yA ?_ _)); exact BK209.out) hb)
           have n4_ := Aside0.mk (zS (by repeat (first | (with_reducible first | exact HB.out | apply zA | apply zN | apply zD | refine below_set ?_ GE209.out) | exact HB.out)) hb)
           clear HO_7
           clear HO212
           clear HO215
           clear BK209
           clear HB
           have HO_7 := n0_
           have HO212 := n1_
           have HO215 := n2_
           have BK209 := n3_
           have HB := n4_
           clear n0_ n1_ n2_ n3_ n4_
           (try clear hb)
           (try clear hb2)
           (try clear hk)
           (try clear hi)
           refine hK.out _ _ ⟨(blk_cell BK209.out 0).trans rfl, (blk_cell BK209.out 1).trans rfl, (blk_cell BK209.out 2).trans rfl, (blk_cell BK209.out 3).trans rfl⟩ (fun hHeld => ?_)
           clear hK K
           refine norm_ (a' := ?_) ?_ ?_
           rotate_left
           ·show Act.put _ (some 40) _ = _
            simp only [Act.put, List.setIfInBounds_toArray, List.set_cons_zero, List.set_cons_succ, i64_w, i32_w]
            rfl
           refine pure_ (i := 7) (N := some 33) (v := ?_) (a' := ?_) #[true, true, true, true, true, true, true, true, false, false, false, false] rfl rfl (any_of HT_.out (by kernel_rfl)) (fun _ _ _ h => h) (Or.inl ⟨by rfl, ?_⟩) ?_ ?_
           rotate_left
           ·intro w'
            go_simp
            with_reducible rfl
           rotate_left
           ·simp only [Act.put, List.setIfInBounds_toArray, List.set_cons_zero, List.set_cons_succ, i64_w, i32_w]
            rfl
           refine pure_ (i := 8) (N := some 41) (v := ?_) (a' := ?_) #[true, true, true, true, true, true, true, true, true, false, false, false] rfl rfl (any_of HT_.out (by kernel_rfl)) (fun _ _ _ h => h) (Or.inl ⟨by rfl, ?_⟩) ?_ ?_
           rotate_left
           ·intro w'
            go_simp
            with_reducible rfl
           rotate_left
           ·simp only [Act.put, List.setIfInBounds_toArray, List.set_cons_zero, List.set_cons_succ, i64_w, i32_w]
            rfl
           refine pure_ (i := 9) (N := some 42) (v := ?_) (a' := ?_) #[true, true, true, true, true, true, true, true, true, true, false, false] rfl rfl (any_of HT_.out (by kernel_rfl)) (fun _ _ _ h => h) (Or.inl ⟨by rfl, ?_⟩) ?_ ?_
           rotate_left
           ·intro w'
            go_simp
            with_reducible rfl
           rotate_left
           ·simp only [Act.put, List.setIfInBounds_toArray, List.set_cons_zero, List.set_cons_succ, i64_w, i32_w]
            rfl
           refine pure_ (i := 10) (N := some 11) (v := ?_) (a' := ?_) #[true, true, true, true, true, true, true, true, true, true, true, false] rfl rfl (any_of HT_.out (by kernel_rfl)) (fun _ _ _ h => h) (Or.inl ⟨by rfl, ?_⟩) ?_ ?_
           rotate_left
           ·intro w'
            go_simp
            with_reducible rfl
           rotate_left
           ·simp only [Act.put, List.setIfInBounds_toArray, List.set_cons_zero, List.set_cons_succ, i64_w, i32_w]
            rfl
           refine pure_ (i := 11) (N := some 12) (v := ?_) (a' := ?_) #[true, true, true, true, true, true, true, true, true, true, true, true] rfl rfl (any_of HT_.out (by kernel_rfl)) (fun _ _ _ h => h) (Or.inl ⟨by rfl, ?_⟩) ?_ ?_
           rotate_left
           ·intro w'
            go_simp
            with_reducible rfl
           rotate_left
           ·simp only [Act.put, List.setIfInBounds_toArray, List.set_cons_zero, List.set_cons_succ, i64_w, i32_w]
            rfl
           refine done_ (done_of HT_.out (by kernel_rfl)) ?_
           try go_wp2
           have n0_ := Aside0.mk (Kd.R_drew HO_7.out)
           have n1_ := Aside0.mk (Kd.R_drew HO212.out)
           have n2_ := Aside0.mk (Kd.R_drew HO215.out)
           have n3_ := Aside0.mk (yD BK209.out)
           have n4_ := Aside0.mk (zD HB.out)
           clear HO_7
           clear HO212
           clear HO215
           clear BK209
           clear HB
           have HO_7 := n0_
           have HO212 := n1_
           have HO215 := n2_
           have BK209 := n3_
           have HB := n4_
           clear n0_ n1_ n2_ n3_ n4_
           refine start_ (n := 12) (S := fun w' => True) (ds := []) #[false, false, false, false, false, false, false, false, false, false, false, false] (by kernel_rfl) rfl rfl trivial (fun hHeld => ?_); refine with_tabW falseworklaw18_PredThree.tab10 falseworklaw18_PredThree.bits10 (fun HT_ HW_ => ?_)
           generalize w31.drew = w32 at HO_7 HO212 HO215 BK209 HB hHeld ⊢
           refine pure_ (i := 1) (N := some 45) (v := ?_) (a' := ?_) #[false, true, false, false, false, false, false, false, false, false, false, false] rfl rfl (any_of HT_.out (by kernel_rfl)) (fun _ _ _ h => h) (Or.inl ⟨by rfl, ?_⟩) ?_ ?_
           rotate_left
           ·intro w'
            go_simp
            with_reducible rfl
           rotate_left
           ·simp only [Act.put, List.setIfInBounds_toArray, List.set_cons_zero, List.set_cons_succ, i64_w, i32_w]
            rfl
           refine pure_ (i := 2) (N := some 46) (v := ?_) (a' := ?_) #[false, true, true, false, false, false, false, false, false, false, false, false] rfl rfl (any_of HT_.out (by kernel_rfl)) (fun _ _ _ h => h) (Or.inl ⟨by rfl, ?_⟩) ?_ ?_
           rotate_left
           ·intro w'
            go_simp
            with_reducible rfl
           rotate_left
           ·simp only [Act.put, List.setIfInBounds_toArray, List.set_cons_zero, List.set_cons_succ, i64_w, i32_w]
            rfl
           refine inv_at [0, 3, 4, 5, 6, 7, 8, 9, 10, 11] (fun a0_ b a w' => ∃ (v219 : Value) (v222 : Value), a = putSel a0_ b [(0, 44, v219), (3, 47, .agg #[.int .i64 x210000_3, .int .i64 x210001_3, .int .u64 x210002_3, .string x210003_3]), (4, 48, .agg #[.string (⟨#[98]⟩ : ByteArray), .int .i64 x10_2, .int .i64 x210000_3, .int .i64 x210001_3, .int .u64 x210002_3, .string x210003_3]), (5, 49, v222), (6, 50, .tuple #[.int .i64 t224, .int .i64 t225]), (7, 43, .tuple #[.int .i64 t224, .int .i64 t225]), (8, 51, .int .i64 t224), (9, 52, .int .i64 t225), (10, 13, .int .i64 t224), (11, 14, .int .i64 t225)] ∧ (Kd.R k51 51 w' w.heap.size (fun _ => True) (.slice Ao29 t210.length co29) t210) ∧ (Kd.R k43 43 w' w.heap.size (fun _ => True) (.slice Ao30 y213.length co30) y213) ∧ (Kd.R k40 40 w' w.heap.size (fun k_ => k_ ≠ gb209) (.slice Ao23 y206.length co23) y206) ∧ (w'.heap[gb209]? = some (.cells #[.int .i64 x210000_3, .int .i64 x210001_3, .int .u64 x210002_3, .string x210003_3] 40 (0, 0))) ∧ (Below w.heap.size w w') ∧ (b 0 = true → Kd.R k51 51 w' w.heap.size (fun k_ => some k_ ≠ (.slice Ao29 t210.length co29 : Value).ownBlock) v219 t218) ∧ (b 5 = true → Kd.R k43 43 w' w.heap.size (fun k_ => some k_ ≠ (.slice Ao30 y213.length co30 : Value).ownBlock) v222 y221)) HT_.out HW_.out (by kernel_rfl) (by kernel_rfl) ?_ ?_ ?_
           ·exact ⟨.bool false, .bool false, by simp only [putSel, Bool.false_eq_true, if_false], HO212.out, HO215.out, HO_7.out, BK209.out, HB.out, fun h_ => absurd h_ (by decide), fun h_ => absurd h_ (by decide)⟩
           ·skip
            clear BK209 HB HO212 HO215 HO_7
            refine steps_cons ?_ ?_
            ·rintro b a w' ⟨v219, v222, ha, Q_HO212, Q_HO215, Q_HO_7, Q_BK209, Q_HB, Q_HO220, Q_HO223⟩ hb_ hon hoff
             refine ⟨_, rfl, fun K hK => ?_⟩
             replace ha := Aside0.mk ha
             have HO212 := Aside0.mk Q_HO212
             have HO215 := Aside0.mk Q_HO215
             have HO_7 := Aside0.mk Q_HO_7
             have BK209 := Aside0.mk Q_BK209
             have HB := Aside0.mk Q_HB
             refine goes_ Try.func15 (by kernel_rfl) rfl #[.int .i64 2] (by rfl) rfl rfl (by first | (simp only [List.map_toArray, List.map_cons, List.map_nil, Act.eval, Array.getD_eq_getD_getElem?, Option.getD_some]; done) | (simp only [List.map_toArray, List.map_cons, List.map_nil, Act.eval, Array.getD_eq_getD_getElem?, Option.getD_some]; rfl)) ?_
             with_reducible refine (falseworklaw18_cols.calls 2 t218 _ A14.out).mono ?_
             rintro e w33 ⟨v219, rfl, ho0, hb⟩
             refine ⟨_, rfl, ?_⟩
             have n0_ := Aside0.mk (Kd.R_below (by (with_reducible repeat (first | apply Kd.R_alloc | apply Kd.R_drewN | apply Kd.R_drew)); exact HO_7.out) hb)
             have n1_ := Aside0.mk (Kd.R_elder' (by (with_reducible repeat (first | apply Kd.R_alloc | apply Kd.R_drewN | apply Kd.R_drew)); exact HO212.out) (Kd.R_base ho0) hb)
             have n2_ := Aside0.mk (Kd.R_below (by (with_reducible repeat (first | apply Kd.R_alloc | apply Kd.R_drewN | apply Kd.R_drew)); exact HO215.out) hb)
             have n3_ := Aside0.mk (Kd.R_lower (Kd.R_new' ho0 (Kd.R_lt (by (with_reducible repeat (first | apply Kd.R_alloc | apply Kd.R_drewN | apply Kd.R_drew)); exact HO212.out))) (zZ (by repeat (first | (with_reducible first | exact HB.out | apply zA | apply zN | apply zD | refine below_set ?_ GE209.out) | exact HB.out))))
             have n4_ := Aside0.mk (yB (g := gb209) (o := .cells #[.int .i64 x210000_3, .int .i64 x210001_3, .int .u64 x210002_3, .string x210003_3] 40 (0, 0)) (by (with_reducible repeat (first | refine yN ?_ _ | refine yD ?_ | refine yA ?_ _)); exact BK209.out) hb)
             have n5_ := Aside0.mk (zS (by repeat (first | (with_reducible first | exact HB.out | apply zA | apply zN | apply zD | refine below_set ?_ GE209.out) | exact HB.out)) hb)
             have z_HO223 := fun (h0_ : b 5 = true) => (show Kd.R k43 43 w33 w.heap.size (fun k_ => some k_ ≠ (.slice Ao30 y213.length co30 : Value).ownBlock) v222 y221 from by first | exact (Kd.R_below (by (with_reducible repeat (first | apply Kd.R_alloc | apply Kd.R_drewN | apply Kd.R_drew)); exact (Q_HO223 h0_)) hb) | exact Kd.R_mono (Kd.R_below (by (with_reducible repeat (first | apply Kd.R_alloc | apply Kd.R_drewN | apply Kd.R_drew)); exact (Q_HO223 h0_)) hb) (fun _ h_ => by first | trivial | exact h_ | exact h_.1))
             clear HO_7
             clear HO212
             clear HO215
             clear BK209
             clear HB
             have HO_7 := n0_
             have HO212 := n1_
             have HO215 := n2_
             have HO220 := n3_
             have BK209 := n4_
             have HB := n5_
             clear n0_ n1_ n2_ n3_ n4_ n5_
             (try clear hb)
             (try clear hb2)
             (try clear hk)
             (try clear hi)
             (try clear ho0)
             refine hK.out _ _ ⟨v219, v222, (by rw [ha.out]; exact putSel_upk 0 hb_ rfl rfl rfl), (by (with_reducible repeat (first | apply Kd.R_alloc | apply Kd.R_drewN | apply Kd.R_drew)); exact Kd.R_mono HO212.out (fun _ hk => by first | exact hk.2 | exact trivial)), (by (with_reducible repeat (first | apply Kd.R_alloc | apply Kd.R_drewN | apply Kd.R_drew)); exact HO215.out), (by (with_reducible repeat (first | apply Kd.R_alloc | apply Kd.R_drewN | apply Kd.R_drew)); exact HO_7.out), (by (with_reducible repeat (first | refine yN ?_ _ | refine yD ?_ | refine yA ?_ _)); exact BK209.out), (by repeat (first | (with_reducible first | exact HB.out | apply zA | apply zN | apply zD | refine below_set ?_ GE209.out) | exact HB.out)), fun _ => (by (with_reducible repeat (first | apply Kd.R_alloc | apply Kd.R_drewN | apply Kd.R_drew)); exact Kd.R_mono HO220.out (fun _ hk => by first | exact hk.2 | exact trivial)), z_HO223⟩
            refine steps_cons ?_ ?_
            ·rintro b a w' ⟨v219, v222, ha, Q_HO212, Q_HO215, Q_HO_7, Q_BK209, Q_HB, Q_HO220, Q_HO223⟩ hb_ hon hoff
             refine ⟨_, rfl, fun K hK => ?_⟩
             have e8 : a.tmps[8]? = some (.pointer (some ⟨gb209, 0, none⟩)) := by rw [ha]; exact (putSel_off rfl).trans rfl
             replace ha := Aside0.mk ha
             have HO212 := Aside0.mk Q_HO212
             have HO215 := Aside0.mk Q_HO215
             have HO_7 := Aside0.mk Q_HO_7
             have BK209 := Aside0.mk Q_BK209
             have HB := Aside0.mk Q_HB
             have hc0_ : w'.cell? ⟨gb209, 0, none⟩ = some (.int .i64 x210000_3) := (blk_cell BK209.out 0).trans rfl
             have hc1_ : w'.cell? ⟨gb209, 1, none⟩ = some (.int .i64 x210001_3) := (blk_cell BK209.out 1).trans rfl
             have hc2_ : w'.cell? ⟨gb209, 2, none⟩ = some (.int .u64 x210002_3) := (blk_cell BK209.out 2).trans rfl
             have hc3_ : w'.cell? ⟨gb209, 3, none⟩ = some (.string x210003_3) := (blk_cell BK209.out 3).trans rfl
             refine value_ (w1 := w') (v := .agg #[.int .i64 x210000_3, .int .i64 x210001_3, .int .u64 x210002_3, .string x210003_3]) (by rfl) rfl ?_ ?_
             ·go_simp
              (try simp only [i64_w])
              try rfl
             refine hK.out _ _ ⟨v219, v222, (by rw [ha.out]; exact putSel_upk 1 hb_ rfl rfl rfl), Q_HO212, Q_HO215, Q_HO_7, Q_BK209, Q_HB, Q_HO220, fun h0_ => absurd ((hoff 5 (by kernel_rfl)).symm.trans h0_) (by decide)⟩
            refine steps_cons ?_ ?_
            ·rintro b a w' ⟨v219, v222, ha, Q_HO212, Q_HO215, Q_HO_7, Q_BK209, Q_HB, Q_HO220, Q_HO223⟩ hb_ hon hoff
             refine ⟨_, rfl, fun K hK => ?_⟩
             have e46 : a.tmps[46]? = some (.int .i64 x10_2) := by rw [ha]; exact (putSel_off rfl).trans rfl
             have e47 : a.tmps[47]? = some (.agg #[.int .i64 x210000_3, .int .i64 x210001_3, .int .u64 x210002_3, .string x210003_3]) := by rw [ha]; exact putSel_on (e := (3, 47, .agg #[.int .i64 x210000_3, .int .i64 x210001_3, .int .u64 x210002_3, .string x210003_3])) 1 rfl rfl (hon 3 (by kernel_rfl)) rfl
             replace ha := Aside0.mk ha
             have HO212 := Aside0.mk Q_HO212
             have HO215 := Aside0.mk Q_HO215
             have HO_7 := Aside0.mk Q_HO_7
             have BK209 := Aside0.mk Q_BK209
             have HB := Aside0.mk Q_HB
             refine value_ (w1 := w') (v := .agg #[.string (⟨#[98]⟩ : ByteArray), .int .i64 x10_2, .int .i64 x210000_3, .int .i64 x210001_3, .int .u64 x210002_3, .string x210003_3]) (by rfl) rfl ?_ ?_
             ·go_simp
              (try simp only [i64_w])
              try rfl
             refine hK.out _ _ ⟨v219, v222, (by rw [ha.out]; exact putSel_upk 2 hb_ rfl rfl rfl), Q_HO212, Q_HO215, Q_HO_7, Q_BK209, Q_HB, Q_HO220, fun h0_ => absurd ((hoff 5 (by kernel_rfl)).symm.trans h0_) (by decide)⟩
            refine steps_cons ?_ ?_
            ·rintro b a w' ⟨v219, v222, ha, Q_HO212, Q_HO215, Q_HO_7, Q_BK209, Q_HB, Q_HO220, Q_HO223⟩ hb_ hon hoff
             refine ⟨_, rfl, fun K hK => ?_⟩
             have e48 : a.tmps[48]? = some (.agg #[.string (⟨#[98]⟩ : ByteArray), .int .i64 x10_2, .int .i64 x210000_3, .int .i64 x210001_3, .int .u64 x210002_3, .string x210003_3]) := by rw [ha]; exact putSel_on (e := (4, 48, .agg #[.string (⟨#[98]⟩ : ByteArray), .int .i64 x10_2, .int .i64 x210000_3, .int .i64 x210001_3, .int .u64 x210002_3, .string x210003_3])) 2 rfl rfl (hon 4 (by kernel_rfl)) rfl
             replace ha := Aside0.mk ha
             have HO212 := Aside0.mk Q_HO212
             have HO215 := Aside0.mk Q_HO215
             have HO_7 := Aside0.mk Q_HO_7
             have BK209 := Aside0.mk Q_BK209
             have HB := Aside0.mk Q_HB
             refine Kd.R_lit_step k43 _ 43 ?hg (N := 49) ?hd (xs := ([(⟨(⟨#[98]⟩ : ByteArray), x10_2, (⟨x210000_3, x210001_3, x210002_3, x210003_3⟩ : S40)⟩ : S43)] : List (S43))) (inner := [.string (⟨#[98]⟩ : ByteArray), .int .i64 x10_2, .int .i64 x210000_3, .int .i64 x210001_3, .int .u64 x210002_3, .string x210003_3]) (ok := fun _ => True) (okp := fun _ => True) ?hr ?hp (fun _ hk => hk) trivial (Below.refl _ _) (Nat.le_refl _) (by simp) ?_; (case hd => rfl); (case hg => rfl); (case hr => first | (go_simp; done) | (go_simp; rfl)); (case hp => exact (Reps.c6 (show Kd.M k43 _ _ _ (⟨(⟨#[98]⟩ : ByteArray), x10_2, (⟨x210000_3, x210001_3, x210002_3, x210003_3⟩ : S40)⟩ : S43) [.string (⟨#[98]⟩ : ByteArray), .int .i64 x10_2, .int .i64 x210000_3, .int .i64 x210001_3, .int .u64 x210002_3, .string x210003_3] from (k43_mkM _ _ _ (⟨(⟨#[98]⟩ : ByteArray), x10_2, (⟨x210000_3, x210001_3, x210002_3, x210003_3⟩ : S40)⟩ : S43) )) (Reps.none _ _)))
             intro v222 w33 ho34 hb hg_ hnew_
             clear hg_ hnew_
             (first | rw [← Ny221.out] at ho34 | (simp only [Int.reduceToNat] at ho34; rw [← Ny221.out] at ho34))
             have n0_ := Aside0.mk (Kd.R_below (by (with_reducible repeat (first | apply Kd.R_alloc | apply Kd.R_drewN | apply Kd.R_drew)); exact HO_7.out) hb)
             have n1_ := Aside0.mk (Kd.R_below (by (with_reducible repeat (first | apply Kd.R_alloc | apply Kd.R_drewN | apply Kd.R_drew)); exact HO212.out) hb)
             have n2_ := Aside0.mk (Kd.R_elder' (by (with_reducible repeat (first | apply Kd.R_alloc | apply Kd.R_drewN | apply Kd.R_drew)); exact HO215.out) (Kd.R_base ho34) hb)
             have n3_ := Aside0.mk (Kd.R_lower (Kd.R_new' ho34 (Kd.R_lt (by (with_reducible repeat (first | apply Kd.R_alloc | apply Kd.R_drewN | apply Kd.R_drew)); exact HO215.out))) (zZ (by repeat (first | (with_reducible first | exact HB.out | apply zA | apply zN | apply zD | refine below_set ?_ GE209.out) | exact HB.out))))
             have n4_ := Aside0.mk (yB (g := gb209) (o := .cells #[.int .i64 x210000_3, .int .i64 x210001_3, .int .u64 x210002_3, .string x210003_3] 40 (0, 0)) (by (with_reducible repeat (first | refine yN ?_ _ | refine yD ?_ | refine yA ?_ _)); exact BK209.out) hb)
             have n5_ := Aside0.mk (zS (by repeat (first | (with_reducible first | exact HB.out | apply zA | apply zN | apply zD | refine below_set ?_ GE209.out) | exact HB.out)) hb)
             have z_HO220 := fun (h0_ : b 0 = true) => (show Kd.R k51 51 w33 w.heap.size (fun k_ => some k_ ≠ (.slice Ao29 t210.length co29 : Value).ownBlock) v219 t218 from by first | exact (Kd.R_below (by (with_reducible repeat (first | apply Kd.R_alloc | apply Kd.R_drewN | apply Kd.R_drew)); exact (Q_HO220 h0_)) hb) | exact Kd.R_mono (Kd.R_below (by (with_reducible repeat (first | apply Kd.R_alloc | apply Kd.R_drewN | apply Kd.R_drew)); exact (Q_HO220 h0_)) hb) (fun _ h_ => by first | trivial | exact h_ | exact h_.1))
             clear HO_7
             clear HO212
             clear HO215
             clear BK209
             clear HB
             have HO_7 := n0_
             have HO212 := n1_
             have HO215 := n2_
             have HO223 := n3_
             have BK209 := n4_
             have HB := n5_
             clear n0_ n1_ n2_ n3_ n4_ n5_
             clear hb ho34
             refine hK.out _ _ ⟨v219, v222, (by rw [ha.out]; exact putSel_upk 3 hb_ rfl rfl rfl), (by (with_reducible repeat (first | apply Kd.R_alloc | apply Kd.R_drewN | apply Kd.R_drew)); exact HO212.out), (by (with_reducible repeat (first | apply Kd.R_alloc | apply Kd.R_drewN | apply Kd.R_drew)); exact Kd.R_mono HO215.out (fun _ hk => by first | exact hk.2 | exact trivial)), (by (with_reducible repeat (first | apply Kd.R_alloc | apply Kd.R_drewN | apply Kd.R_drew)); exact HO_7.out), (by (with_reducible repeat (first | refine yN ?_ _ | refine yD ?_ | refine yA ?_ _)); exact BK209.out), (by repeat (first | (with_reducible first | exact HB.out | apply zA | apply zN | apply zD | refine below_set ?_ GE209.out) | exact HB.out)), z_HO220, fun _ => (by (with_reducible repeat (first | apply Kd.R_alloc | apply Kd.R_drewN | apply Kd.R_drew)); exact Kd.R_mono HO223.out (fun _ hk => by first | exact hk.2 | exact trivial))⟩
            refine steps_cons ?_ ?_
            ·rintro b a w' ⟨v219, v222, ha, Q_HO212, Q_HO215, Q_HO_7, Q_BK209, Q_HB, Q_HO220, Q_HO223⟩ hb_ hon hoff
             refine ⟨_, rfl, fun K hK => ?_⟩
             have e44 : a.tmps[44]? = some (v219) := by rw [ha]; exact putSel_on (e := (0, 44, v219)) 0 rfl rfl (hon 0 (by kernel_rfl)) rfl
             have e45 : a.tmps[45]? = some (.slice Ao23 y206.length co23) := by rw [ha]; exact (putSel_off rfl).trans rfl
             have e49 : a.tmps[49]? = some (v222) := by rw [ha]; exact putSel_on (e := (5, 49, v222)) 3 rfl rfl (hon 5 (by kernel_rfl)) rfl
             replace ha := Aside0.mk ha
             have HO212 := Aside0.mk Q_HO212
             have HO215 := Aside0.mk Q_HO215
             have HO_7 := Aside0.mk Q_HO_7
             have BK209 := Aside0.mk Q_BK209
             have HB := Aside0.mk Q_HB
             have HO220 := Aside0.mk (Q_HO220 (hon 0 (by kernel_rfl)))
             have HO223 := Aside0.mk (Q_HO223 (hon 5 (by kernel_rfl)))
             obtain ⟨Ao37, co37, eo37⟩ := Kd.R_slice HO220.out
             (first | subst eo37 | (injection eo37 with f1_ f2_ f3_; have f4_ := f1_.symm; have f5_ := f3_.symm; clear f1_ f2_ f3_; subst f4_; subst f5_))
             obtain ⟨Ao38, co38, eo38⟩ := Kd.R_slice HO223.out
             (first | subst eo38 | (injection eo38 with f1_ f2_ f3_; have f4_ := f1_.symm; have f5_ := f3_.symm; clear f1_ f2_ f3_; subst f4_; subst f5_))
             refine goes_ Try.func13 (by kernel_rfl) rfl #[.slice Ao37 t218.length co37, .slice Ao23 y206.length co23, .slice Ao38 y221.length co38] (by rfl) rfl rfl (by first | (simp only [List.map_toArray, List.map_cons, List.map_nil, Act.eval, Array.getD_eq_getD_getElem?, Option.getD_some, e44, e45, e49]; done) | (simp only [List.map_toArray, List.map_cons, List.map_nil, Act.eval, Array.getD_eq_getD_getElem?, Option.getD_some, e44, e45, e49]; rfl)) ?_
             with_reducible refine (pred_Test.calls k2 _ _ t218 _ _ y206 _ _ y221 t224 t225 _ ?side1 ?side2 ?side3 ?side4 ?side5 ?side6 A15.out).mono ?_
             (case side1 => repeat (first | exact (Kd.R_reads' HO220.out).2.2 | (with_reducible refine Kd.C_alloc ?_ _) | (with_reducible refine Kd.C_drewN ?_ _) | (with_reducible refine Kd.C_drew ?_)))
             (case side2 => exact (Kd.R_reads' HO220.out).2.1)
             (case side3 => repeat (first | exact (Kd.R_reads' HO_7.out).2.2 | (with_reducible refine Kd.C_alloc ?_ _) | (with_reducible refine Kd.C_drewN ?_ _) | (with_reducible refine Kd.C_drew ?_)))
             (case side4 => exact (Kd.R_reads' HO_7.out).2.1)
             (case side5 => repeat (first | exact (Kd.R_reads' HO223.out).2.2 | (with_reducible refine Kd.C_alloc ?_ _) | (with_reducible refine Kd.C_drewN ?_ _) | (with_reducible refine Kd.C_drew ?_)))
             (case side6 => exact (Kd.R_reads' HO223.out).2.1)
             rintro e w39 ⟨rfl, hb⟩
             refine ⟨_, rfl, ?_⟩
             have n0_ := Aside0.mk (Kd.R_below (by (with_reducible repeat (first | apply Kd.R_alloc | apply Kd.R_drewN | apply Kd.R_drew)); exact HO_7.out) hb)
             have n1_ := Aside0.mk (Kd.R_below (by (with_reducible repeat (first | apply Kd.R_alloc | apply Kd.R_drewN | apply Kd.R_drew)); exact HO212.out) hb)
             have n2_ := Aside0.mk (Kd.R_below (by (with_reducible repeat (first | apply Kd.R_alloc | apply Kd.R_drewN | apply Kd.R_drew)); exact HO215.out) hb)
             have n3_ := Aside0.mk (Kd.R_below (by (with_reducible repeat (first | apply Kd.R_alloc | apply Kd.R_drewN | apply Kd.R_drew)); exact HO220.out) hb)
             have n4_ := Aside0.mk (Kd.R_below (by (with_reducible repeat (first | apply Kd.R_alloc | apply Kd.R_drewN | apply Kd.R_drew)); exact HO223.out) hb)
             have n5_ := Aside0.mk (yB (g := gb209) (o := .cells #[.int .i64 x210000_3, .int .i64 x210001_3, .int .u64 x210002_3, .string x210003_3] 40 (0, 0)) (by (with_reducible repeat (first | refine yN ?_ _ | refine yD ?_ | refine yA ?_ _)); exact BK209.out) hb)
             have n6_ := Aside0.mk (zS (by repeat (first | (with_reducible first | exact HB.out | apply zA | apply zN | apply zD | refine below_set ?_ GE209.out) | exact HB.out)) hb)
             clear HO_7
             clear HO212
             clear HO215
             clear HO220
             clear HO223
             clear BK209
             clear HB
             have HO_7 := n0_
             have HO212 := n1_
             have HO215 := n2_
             have HO220 := n3_
             have HO223 := n4_
             have BK209 := n5_
             have HB := n6_
             clear n0_ n1_ n2_ n3_ n4_ n5_ n6_
             (try clear hb)
             (try clear hb2)
             (try clear hk)
             (try clear hi)
             refine hK.out _ _ ⟨.slice Ao37 t218.length co37, .slice Ao38 y221.length co38, (by rw [ha.out]; exact putSel_upk 4 hb_ rfl rfl rfl), (by (with_reducible repeat (first | apply Kd.R_alloc | apply Kd.R_drewN | apply Kd.R_drew)); exact HO212.out), (by (with_reducible repeat (first | apply Kd.R_alloc | apply Kd.R_drewN | apply Kd.R_drew)); exact HO215.out), (by (with_reducible repeat (first | apply Kd.R_alloc | apply Kd.R_drewN | apply Kd.R_drew)); exact HO_7.out), (by (with_reducible repeat (first | refine yN ?_ _ | refine yD ?_ | refine yA ?_ _)); exact BK209.out), (by repeat (first | (with_reducible first | exact HB.out | apply zA | apply zN | apply zD | refine below_set ?_ GE209.out) | exact HB.out)), fun _ => (by (with_reducible repeat (first | apply Kd.R_alloc | apply Kd.R_drewN | apply Kd.R_drew)); exact HO220.out), fun _ => (by (with_reducible repeat (first | apply Kd.R_alloc | apply Kd.R_drewN | apply Kd.R_drew)); exact HO223.out)⟩
            refine steps_cons ?_ ?_
            ·rintro b a w' ⟨v219, v222, ha, Q_HO212, Q_HO215, Q_HO_7, Q_BK209, Q_HB, Q_HO220, Q_HO223⟩ hb_ hon hoff
             refine ⟨_, rfl, fun K hK => ?_⟩
             have e50 : a.tmps[50]? = some (.tuple #[.int .i64 t224, .int .i64 t225]) := by rw [ha]; exact putSel_on (e := (6, 50, .tuple #[.int .i64 t224, .int .i64 t225])) 4 rfl rfl (hon 6 (by kernel_rfl)) rfl
             replace ha := Aside0.mk ha
             have HO212 := Aside0.mk Q_HO212
             have HO215 := Aside0.mk Q_HO215
             have HO_7 := Aside0.mk Q_HO_7
             have BK209 := Aside0.mk Q_BK209
             have HB := Aside0.mk Q_HB
             have HO220 := Aside0.mk (Q_HO220 (hon 0 (by kernel_rfl)))
             have HO223 := Aside0.mk (Q_HO223 (hon 5 (by kernel_rfl)))
             refine value_ (w1 := w') (v := .tuple #[.int .i64 t224, .int .i64 t225]) (by rfl) rfl ?_ ?_
             ·go_simp
              (try simp only [i64_w])
              try rfl
             refine hK.out _ _ ⟨v219, v222, (by rw [ha.out]; exact putSel_upk 5 hb_ rfl rfl rfl), Q_HO212, Q_HO215, Q_HO_7, Q_BK209, Q_HB, Q_HO220, Q_HO223⟩
            refine steps_cons ?_ ?_
            ·rintro b a w' ⟨v219, v222, ha, Q_HO212, Q_HO215, Q_HO_7, Q_BK209, Q_HB, Q_HO220, Q_HO223⟩ hb_ hon hoff
             refine ⟨_, rfl, fun K hK => ?_⟩
             have e43 : a.tmps[43]? = some (.tuple #[.int .i64 t224, .int .i64 t225]) := by rw [ha]; exact putSel_on (e := (7, 43, .tuple #[.int .i64 t224, .int .i64 t225])) 5 rfl rfl (hon 7 (by kernel_rfl)) rfl
             replace ha := Aside0.mk ha
             have HO212 := Aside0.mk Q_HO212
             have HO215 := Aside0.mk Q_HO215
             have HO_7 := Aside0.mk Q_HO_7
             have BK209 := Aside0.mk Q_BK209
             have HB := Aside0.mk Q_HB
             have HO220 := Aside0.mk (Q_HO220 (hon 0 (by kernel_rfl)))
             have HO223 := Aside0.mk (Q_HO223 (hon 5 (by kernel_rfl)))
             refine value_ (w1 := w') (v := .int .i64 t224) (by rfl) rfl ?_ ?_
             ·go_simp
              (try simp only [i64_w])
              try rfl
             refine hK.out _ _ ⟨v219, v222, (by rw [ha.out]; exact putSel_upk 6 hb_ rfl rfl rfl), Q_HO212, Q_HO215, Q_HO_7, Q_BK209, Q_HB, Q_HO220, Q_HO223⟩
            refine steps_cons ?_ ?_
            ·rintro b a w' ⟨v219, v222, ha, Q_HO212, Q_HO215, Q_HO_7, Q_BK209, Q_HB, Q_HO220, Q_HO223⟩ hb_ hon hoff
             refine ⟨_, rfl, fun K hK => ?_⟩
             have e43 : a.tmps[43]? = some (.tuple #[.int .i64 t224, .int .i64 t225]) := by rw [ha]; exact putSel_on (e := (7, 43, .tuple #[.int .i64 t224, .int .i64 t225])) 5 rfl rfl (hon 7 (by kernel_rfl)) rfl
             replace ha := Aside0.mk ha
             have HO212 := Aside0.mk Q_HO212
             have HO215 := Aside0.mk Q_HO215
             have HO_7 := Aside0.mk Q_HO_7
             have BK209 := Aside0.mk Q_BK209
             have HB := Aside0.mk Q_HB
             have HO220 := Aside0.mk (Q_HO220 (hon 0 (by kernel_rfl)))
             have HO223 := Aside0.mk (Q_HO223 (hon 5 (by kernel_rfl)))
             refine value_ (w1 := w') (v := .int .i64 t225) (by rfl) rfl ?_ ?_
             ·go_simp
              (try simp only [i64_w])
              try rfl
             refine hK.out _ _ ⟨v219, v222, (by rw [ha.out]; exact putSel_upk 7 hb_ rfl rfl rfl), Q_HO212, Q_HO215, Q_HO_7, Q_BK209, Q_HB, Q_HO220, Q_HO223⟩
            refine steps_cons ?_ ?_
            ·rintro b a w' ⟨v219, v222, ha, Q_HO212, Q_HO215, Q_HO_7, Q_BK209, Q_HB, Q_HO220, Q_HO223⟩ hb_ hon hoff
             refine ⟨_, rfl, fun K hK => ?_⟩
             have e51 : a.tmps[51]? = some (.int .i64 t224) := by rw [ha]; exact putSel_on (e := (8, 51, .int .i64 t224)) 6 rfl rfl (hon 8 (by kernel_rfl)) rfl
             replace ha := Aside0.mk ha
             have HO212 := Aside0.mk Q_HO212
             have HO215 := Aside0.mk Q_HO215
             have HO_7 := Aside0.mk Q_HO_7
             have BK209 := Aside0.mk Q_BK209
             have HB := Aside0.mk Q_HB
             have HO220 := Aside0.mk (Q_HO220 (hon 0 (by kernel_rfl)))
             have HO223 := Aside0.mk (Q_HO223 (hon 5 (by kernel_rfl)))
             refine value_ (w1 := w') (v := .int .i64 t224) (by rfl) rfl ?_ ?_
             ·go_simp
              (try simp only [i64_w])
              try rfl
             refine hK.out _ _ ⟨v219, v222, (by rw [ha.out]; exact putSel_upk 8 hb_ rfl rfl rfl), Q_HO212, Q_HO215, Q_HO_7, Q_BK209, Q_HB, Q_HO220, Q_HO223⟩
            refine steps_cons ?_ ?_
            ·rintro b a w' ⟨v219, v222, ha, Q_HO212, Q_HO215, Q_HO_7, Q_BK209, Q_HB, Q_HO220, Q_HO223⟩ hb_ hon hoff
             refine ⟨_, rfl, fun K hK => ?_⟩
             have e52 : a.tmps[52]? = some (.int .i64 t225) := by rw [ha]; exact putSel_on (e := (9, 52, .int .i64 t225)) 7 rfl rfl (hon 9 (by kernel_rfl)) rfl
             replace ha := Aside0.mk ha
             have HO212 := Aside0.mk Q_HO212
             have HO215 := Aside0.mk Q_HO215
             have HO_7 := Aside0.mk Q_HO_7
             have BK209 := Aside0.mk Q_BK209
             have HB := Aside0.mk Q_HB
             have HO220 := Aside0.mk (Q_HO220 (hon 0 (by kernel_rfl)))
             have HO223 := Aside0.mk (Q_HO223 (hon 5 (by kernel_rfl)))
             refine value_ (w1 := w') (v := .int .i64 t225) (by rfl) rfl ?_ ?_
             ·go_simp
              (try simp only [i64_w])
              try rfl
             refine hK.out _ _ ⟨v219, v222, (by rw [ha.out]; exact putSel_upk 9 hb_ rfl rfl rfl), Q_HO212, Q_HO215, Q_HO_7, Q_BK209, Q_HB, Q_HO220, Q_HO223⟩
            exact steps_nil
           rintro b a w39 hall ⟨v219, v222, ha, Q_HO212, Q_HO215, Q_HO_7, Q_BK209, Q_HB, Q_HO220, Q_HO223⟩
           clear BK209 HB HO212 HO215 HO_7
           have hb0_ := hall 0 (by kernel_rfl)
           have hb3_ := hall 3 (by kernel_rfl)
           have hb4_ := hall 4 (by kernel_rfl)
           have hb5_ := hall 5 (by kernel_rfl)
           have hb6_ := hall 6 (by kernel_rfl)
           have hb7_ := hall 7 (by kernel_rfl)
           have hb8_ := hall 8 (by kernel_rfl)
           have hb9_ := hall 9 (by kernel_rfl)
           have hb10_ := hall 10 (by kernel_rfl)
           have hb11_ := hall 11 (by kernel_rfl)
           subst ha
           simp only [putSel, hb0_, hb3_, hb4_, hb5_, hb6_, hb7_, hb8_, hb9_, hb10_, hb11_, if_true, Act.put, List.setIfInBounds_toArray, List.set_cons_zero, List.set_cons_succ]
           have HO212 := Aside0.mk Q_HO212
           clear Q_HO212
           have HO215 := Aside0.mk Q_HO215
           clear Q_HO215
           have HO_7 := Aside0.mk Q_HO_7
           clear Q_HO_7
           have BK209 := Aside0.mk Q_BK209
           clear Q_BK209
           have HB := Aside0.mk Q_HB
           clear Q_HB
           have HO220 := Aside0.mk (Q_HO220 hb0_)
           clear Q_HO220
           have HO223 := Aside0.mk (Q_HO223 hb5_)
           clear Q_HO223
           clear hall hb0_ hb3_ hb4_ hb5_ hb6_ hb7_ hb8_ hb9_ hb10_ hb11_
           try go_wp2_with (first | ((with_reducible refine gate_callee (f := 9) rfl ?_); refine goesL_ (some 54) rfl rfl Try.func9 (by kernel_rfl) rfl #[.int .i64 t217] rfl (by (try simp only [List.map_toArray, List.map_cons, List.map_nil]); first | done | rfl | (simp only [List.length_drop, List.length_take]; rfl)) ?_; (with_reducible refine (falseworklaw18_num.calls t217 t226 _ A16.out).mono ?_); rintro e w' ⟨rfl, ⟨nd, rfl⟩⟩; refine ⟨_, rfl, ?_⟩) | (go_at_call 9; (with_reducible refine (falseworklaw18_num.calls t225 t227 _ A18.out).mono ?_); rintro e w' ⟨rfl, ⟨nd, rfl⟩⟩))
           go_roundg k2
           case measure => have := HJ3.out; have := HK2.out; omega
           case rel => exact ⟨(wrap64 (x9_2 + t216)), (wrap64 (x10_2 + 1)), (by first | rfl | (simp; done) | (simp [*]; done)), (by first | rfl | (simp; done) | (simp [*]; done)), H', ⟨by have := HJ3.out; have := HK2.out; omega⟩, ⟨by (with_reducible repeat (first | apply Kd.R_alloc | apply Kd.R_drewN | apply Kd.R_drew)); exact HO_7.out⟩, ⟨by (with_reducible repeat (first | refine yN ?_ _ | refine yD ?_ | refine yA ?_ _)); exact BK209.out⟩, ⟨by repeat (first | (with_reducible first | exact HB.out | apply zA | apply zN | apply zD | refine below_set ?_ GE209.out) | exact HB.out)⟩⟩
          ·rw [if_neg c22] at H
           exact absurd H (by simp)
         ·replace c21 := Bool.eq_false_iff.mpr c21
          subst c21
          have H1 : (falseworklaw18_PredThree.l0 k2 false y206 (wrap64 (x9_2 + t216)) (wrap64 (x10_2 + 1)) x210000_3 x210001_3 x210002_3 x210003_3) = some r := by rw [if_neg (show ¬ (false = true) by decide)] at H; exact H
          clear H
          have H := H1
          clear H1
          have H' := Aside0.mk H
          clear H
          obtain ⟨Ao40, co40, eo40⟩ := Kd.R_slice HO_7.out
          subst eo40
          try go_wp2
          have n0_ := Aside0.mk (Kd.R_drew HO_7.out)
          have n1_ := Aside0.mk (yD BK209.out)
          have n2_ := Aside0.mk (zD HB.out)
          clear HO_7
          clear BK209
          clear HB
          have HO_7 := n0_
          have BK209 := n1_
          have HB := n2_
          clear n0_ n1_ n2_
          refine start_ (n := 12) (S := fun w' => w'.cell? ⟨gb209, 0, none⟩ = some (.int .i64 x210000_3) ∧ w'.cell? ⟨gb209, 1, none⟩ = some (.int .i64 x210001_3) ∧ w'.cell? ⟨gb209, 2, none⟩ = some (.int .u64 x210002_3) ∧ w'.cell? ⟨gb209, 3, none⟩ = some (.string x210003_3)) (ds := []) #[false, false, false, false, false, false, false, false, false, false, false, false] (by kernel_rfl) rfl rfl ⟨(blk_cell BK209.out 0).trans rfl, (blk_cell BK209.out 1).trans rfl, (blk_cell BK209.out 2).trans rfl, (blk_cell BK209.out 3).trans rfl⟩ (fun hHeld => ?_); refine with_tabW falseworklaw18_PredThree.tab9 falseworklaw18_PredThree.bits9 (fun HT_ HW_ => ?_)
          generalize wr.drew = w41 at HO_7 BK209 HB hHeld ⊢
          refine pure_ (i := 1) (N := some 35) (v := ?_) (a' := ?_) #[false, true, false, false, false, false, false, false, false, false, false, false] rfl rfl (any_of HT_.out (by kernel_rfl)) (fun _ _ _ h => h) (Or.inl ⟨by rfl, ?_⟩) ?_ ?_
          rotate_left
          ·intro w'
           go_simp
           with_reducible rfl
          rotate_left
          ·simp only [Act.put, List.setIfInBounds_toArray, List.set_cons_zero, List.set_cons_succ, i64_w, i32_w]
           rfl
          refine pure_ (i := 2) (N := some 36) (v := ?_) (a' := ?_) #[false, true, true, false, false, false, false, false, false, false, false, false] rfl rfl (any_of HT_.out (by kernel_rfl)) (fun _ _ _ h => h) (Or.inl ⟨by rfl, ?_⟩) ?_ ?_
          rotate_left
          ·intro w'
           go_simp
           with_reducible rfl
          rotate_left
          ·simp only [Act.put, List.setIfInBounds_toArray, List.set_cons_zero, List.set_cons_succ, i64_w, i32_w]
           rfl
          refine take_ (i := 3) (N := some 37) (v := ?_) (a' := ?_) #[false, true, true, true, false, false, false, false, false, false, false, false] rfl rfl (take_ofW HT_.out HW_.out (by kernel_rfl)) (fun _ _ _ h => h) (Or.inl ⟨by rfl, ?_⟩) hHeld ?_ ?_
          rotate_left
          ·rintro w' ⟨s0, s1, s2, s3⟩
           go_simp
           with_reducible rfl
          rotate_left
          ·simp only [Act.put, List.setIfInBounds_toArray, List.set_cons_zero, List.set_cons_succ, i64_w, i32_w]
           rfl
          refine pure_ (i := 4) (N := some 38) (v := ?_) (a' := ?_) #[false, true, true, true, true, false, false, false, false, false, false, false] rfl rfl (any_of HT_.out (by kernel_rfl)) (fun _ _ _ h => h) (Or.inl ⟨by rfl, ?_⟩) ?_ ?_
          rotate_left
          ·intro w'
           go_simp
           with_reducible rfl
          rotate_left
          ·simp only [Act.put, List.setIfInBounds_toArray, List.set_cons_zero, List.set_cons_succ, i64_w, i32_w]
           rfl
          refine join_ (σ := Value × Value) 6 #[true, true, true, true, true, true, false, false, false, false, false, false] (fun s_ => [(34, s_.1), (39, s_.2)]) (fun s_ w' => (w'.cell? ⟨gb209, 0, none⟩ = some (.int .i64 x210000_3) ∧ w'.cell? ⟨gb209, 1, none⟩ = some (.int .i64 x210001_3) ∧ w'.cell? ⟨gb209, 2, none⟩ = some (.int .u64 x210002_3) ∧ w'.cell? ⟨gb209, 3, none⟩ = some (.string x210003_3)) ∧ (Kd.R k51 51 w' w.heap.size (fun _ => True) s_.1 t210) ∧ (Kd.R k43 43 w' w.heap.size (fun _ => True) s_.2 y213) ∧ (Kd.R k40 40 w' w.heap.size (fun k_ => k_ ≠ gb209) (.slice Ao40 y206.length co40) y206) ∧ (w'.heap[gb209]? = some (.cells #[.int .i64 x210000_3, .int .i64 x210001_3, .int .u64 x210002_3, .string x210003_3] 40 (0, 0))) ∧ (Below w.heap.size w w')) ?_ ?_
          rotate_left
          ·intro hCont
           refine two_ (i := 0) (j := 5) (Ni := some 34) (Nj := some 39) #[true, true, true, true, true, false, false, false, false, false, false, false] #[false, true, true, true, true, true, false, false, false, false, false, false] rfl rfl rfl rfl (two_of HT_.out (by kernel_rfl)) (by decide) (by decide) (fun K hK => ?_) (fun K hK => ?_)
           ·skip
            refine goes_ Try.func15 (by kernel_rfl) rfl #[.int .i64 2] (by rfl) rfl rfl (by (try simp only [List.map_toArray, List.map_cons, List.map_nil]); first | done | rfl | (simp only [List.length_drop, List.length_take]; rfl)) ?_
            with_reducible refine (falseworklaw18_cols.calls 2 t210 _ A12.out).mono ?_
            rintro e w42 ⟨v211, rfl, ho0, hb⟩
            refine ⟨_, rfl, ?_⟩
            have n0_ := Aside0.mk (Kd.R_below (by (with_reducible repeat (first | apply Kd.R_alloc | apply Kd.R_drewN | apply Kd.R_drew)); exact HO_7.out) hb)
            have n1_ := Aside0.mk (Kd.R_lower ho0 (zZ (by repeat (first | (with_reducible first | exact HB.out | apply zA | apply zN | apply zD | refine below_set ?_ GE209.out) | exact HB.out))))
            have n2_ := Aside0.mk (yB (g := gb209) (o := .cells #[.int .i64 x210000_3, .int .i64 x210001_3, .int .u64 x210002_3, .string x210003_3] 40 (0, 0)) (by (with_reducible repeat (first | refine yN ?_ _ | refine yD ?_ | refine yA ?_ _)); exact BK209.out) hb)
            have n3_ := Aside0.mk (zS (by repeat (first | (with_reducible first | exact HB.out | apply zA | apply zN | apply zD | refine below_set ?_ GE209.out) | exact HB.out)) hb)
            clear HO_7
            clear BK209
            clear HB
            have HO_7 := n0_
            have HO212 := n1_
            have BK209 := n2_
            have HB := n3_
            clear n0_ n1_ n2_ n3_
            (try clear hb)
            (try clear hb2)
            (try clear hk)
            (try clear hi)
            (try clear ho0)
            refine hK.out _ _ ⟨(blk_cell BK209.out 0).trans rfl, (blk_cell BK209.out 1).trans rfl, (blk_cell BK209.out 2).trans rfl, (blk_cell BK209.out 3).trans rfl⟩ (fun hHeld => ?_)
            clear hK K
            refine norm_ (a' := ?_) ?_ ?_
            rotate_left
            ·show Act.put _ (some 34) _ = _
             simp only [Act.put, List.setIfInBounds_toArray, List.set_cons_zero, List.set_cons_succ, i64_w, i32_w]
             rfl
            refine one_ (i := 5) (N := some 39) #[true, true, true, true, true, true, false, false, false, false, false, false] rfl rfl (one_of HT_.out (by kernel_rfl)) (by decide) (fun K hK => ?_)
            refine Kd.R_lit_step k43 _ 43 ?hg (N := 39) ?hd (xs := ([(⟨(⟨#[97]⟩ : ByteArray), x10_2, (⟨x210000_3, x210001_3, x210002_3, x210003_3⟩ : S40)⟩ : S43)] : List (S43))) (inner := [.string (⟨#[97]⟩ : ByteArray), .int .i64 x10_2, .int .i64 x210000_3, .int .i64 x210001_3, .int .u64 x210002_3, .string x210003_3]) (ok := fun _ => True) (okp := fun _ => True) ?hr ?hp (fun _ hk => hk) trivial (Below.refl _ _) (Nat.le_refl _) (by simp) ?_; (case hd => rfl); (case hg => rfl); (case hr => first | (go_simp; done) | (go_simp; rfl)); (case hp => exact (Reps.c6 (show Kd.M k43 _ _ _ (⟨(⟨#[97]⟩ : ByteArray), x10_2, (⟨x210000_3, x210001_3, x210002_3, x210003_3⟩ : S40)⟩ : S43) [.string (⟨#[97]⟩ : ByteArray), .int .i64 x10_2, .int .i64 x210000_3, .int .i64 x210001_3, .int .u64 x210002_3, .string x210003_3] from (k43_mkM _ _ _ (⟨(⟨#[97]⟩ : ByteArray), x10_2, (⟨x210000_3, x210001_3, x210002_3, x210003_3⟩ : S40)⟩ : S43) )) (Reps.none _ _)))
            intro v214 w43 ho44 hb hg_ hnew_
            clear hg_ hnew_
            (first | rw [← Ny213.out] at ho44 | (simp only [Int.reduceToNat] at ho44; rw [← Ny213.out] at ho44))
            have n0_ := Aside0.mk (Kd.R_below (by (with_reducible repeat (first | apply Kd.R_alloc | apply Kd.R_drewN | apply Kd.R_drew)); exact HO_7.out) hb)
            have n1_ := Aside0.mk (Kd.R_below (by (with_reducible repeat (first | apply Kd.R_alloc | apply Kd.R_drewN | apply Kd.R_drew)); exact HO212.out) hb)
            have n2_ := Aside0.mk (Kd.R_lower ho44 (zZ (by repeat (first | (with_reducible first | exact HB.out | apply zA | apply zN | apply zD | refine below_set ?_ GE209.out) | exact HB.out))))
            have n3_ := Aside0.mk (yB (g := gb209) (o := .cells #[.int .i64 x210000_3, .int .i64 x210001_3, .int .u64 x210002_3, .string x210003_3] 40 (0, 0)) (by (with_reducible repeat (first | refine yN ?_ _ | refine yD ?_ | refine yA ?_ _)); exact BK209.out) hb)
            have n4_ := Aside0.mk (zS (by repeat (first | (with_reducible first | exact HB.out | apply zA | apply zN | apply zD | refine below_set ?_ GE209.out) | exact HB.out)) hb)
            clear HO_7
            clear HO212
            clear BK209
            clear HB
            have HO_7 := n0_
            have HO212 := n1_
            have HO215 := n2_
            have BK209 := n3_
            have HB := n4_
            clear n0_ n1_ n2_ n3_ n4_
            clear hb ho44
            refine hK.out _ _ ⟨(blk_cell BK209.out 0).trans rfl, (blk_cell BK209.out 1).trans rfl, (blk_cell BK209.out 2).trans rfl, (blk_cell BK209.out 3).trans rfl⟩ (fun hHeld => ?_)
            clear hK K
            refine norm_ (a' := ?_) ?_ ?_
            rotate_left
            ·show Act.put _ (some 39) _ = _
             simp only [Act.put, List.setIfInBounds_toArray, List.set_cons_zero, List.set_cons_succ, i64_w, i32_w]
             rfl
            exact norm_ (by simp only [putAll, Act.put, List.setIfInBounds_toArray, List.set_cons_zero, List.set_cons_succ]) (hCont (v211, v214) _ ⟨hHeld, (by (with_reducible repeat (first | apply Kd.R_alloc | apply Kd.R_drewN | apply Kd.R_drew)); exact HO212.out), (by (with_reducible repeat (first | apply Kd.R_alloc | apply Kd.R_drewN | apply Kd.R_drew)); exact HO215.out), (by (with_reducible repeat (first | apply Kd.R_alloc | apply Kd.R_drewN | apply Kd.R_drew)); exact HO_7.out), (by (with_reducible repeat (first | refine yN ?_ _ | refine yD ?_ | refine yA ?_ _)); exact BK209.out), (by repeat (first | (with_reducible first | exact HB.out | apply zA | apply zN | apply zD | refine below_set ?_ GE209.out) | exact HB.out))⟩)
           ·skip
            refine Kd.R_lit_step k43 _ 43 ?hg (N := 39) ?hd (xs := ([(⟨(⟨#[97]⟩ : ByteArray), x10_2, (⟨x210000_3, x210001_3, x210002_3, x210003_3⟩ : S40)⟩ : S43)] : List (S43))) (inner := [.string (⟨#[97]⟩ : ByteArray), .int .i64 x10_2, .int .i64 x210000_3, .int .i64 x210001_3, .int .u64 x210002_3, .string x210003_3]) (ok := fun _ => True) (okp := fun _ => True) ?hr ?hp (fun _ hk => hk) trivial (Below.refl _ _) (Nat.le_refl _) (by simp) ?_; (case hd => rfl); (case hg => rfl); (case hr => first | (go_simp; done) | (go_simp; rfl)); (case hp => exact (Reps.c6 (show Kd.M k43 _ _ _ (⟨(⟨#[97]⟩ : ByteArray), x10_2, (⟨x210000_3, x210001_3, x210002_3, x210003_3⟩ : S40)⟩ : S43) [.string (⟨#[97]⟩ : ByteArray), .int .i64 x10_2, .int .i64 x210000_3, .int .i64 x210001_3, .int .u64 x210002_3, .string x210003_3] from (k43_mkM _ _ _ (⟨(⟨#[97]⟩ : ByteArray), x10_2, (⟨x210000_3, x210001_3, x210002_3, x210003_3⟩ : S40)⟩ : S43) )) (Reps.none _ _)))
            intro v214 w42 ho43 hb hg_ hnew_
            clear hg_ hnew_
            (first | rw [← Ny213.out] at ho43 | (simp only [Int.reduceToNat] at ho43; rw [← Ny213.out] at ho43))
            have n0_ := Aside0.mk (Kd.R_below (by (with_reducible repeat (first | apply Kd.R_alloc | apply Kd.R_drewN | apply Kd.R_drew)); exact HO_7.out) hb)
            have n1_ := Aside0.mk (Kd.R_lower ho43 (zZ (by repeat (first | (with_reducible first | exact HB.out | apply zA | apply zN | apply zD | refine below_set ?_ GE209.out) | exact HB.out))))
            have n2_ := Aside0.mk (yB (g := gb209) (o := .cells #[.int .i64 x210000_3, .int .i64 x210001_3, .int .u64 x210002_3, .string x210003_3] 40 (0, 0)) (by (with_reducible repeat (first | refine yN ?_ _ | refine yD ?_ | refine yA ?_ _)); exact BK209.out) hb)
            have n3_ := Aside0.mk (zS (by repeat (first | (with_reducible first | exact HB.out | apply zA | apply zN | apply zD | refine below_set ?_ GE209.out) | exact HB.out)) hb)
            clear HO_7
            clear BK209
            clear HB
            have HO_7 := n0_
            have HO215 := n1_
            have BK209 := n2_
            have HB := n3_
            clear n0_ n1_ n2_ n3_
            clear hb ho43
            refine hK.out _ _ ⟨(blk_cell BK209.out 0).trans rfl, (blk_cell BK209.out 1).trans rfl, (blk_cell BK209.out 2).trans rfl, (blk_cell BK209.out 3).trans rfl⟩ (fun hHeld => ?_)
            clear hK K
            refine norm_ (a' := ?_) ?_ ?_
            rotate_left
            ·show Act.put _ (some 39) _ = _
             simp only [Act.put, List.setIfInBounds_toArray, List.set_cons_zero, List.set_cons_succ, i64_w, i32_w]
             rfl
            refine one_ (i := 0) (N := some 34) #[true, true, true, true, true, true, false, false, false, false, false, false] rfl rfl (one_of HT_.out (by kernel_rfl)) (by decide) (fun K hK => ?_)
            refine goes_ Try.func15 (by kernel_rfl) rfl #[.int .i64 2] (by rfl) rfl rfl (by (try simp only [List.map_toArray, List.map_cons, List.map_nil]); first | done | rfl | (simp only [List.length_drop, List.length_take]; rfl)) ?_
            with_reducible refine (falseworklaw18_cols.calls 2 t210 _ A12.out).mono ?_
            rintro e w44 ⟨v211, rfl, ho0, hb⟩
            refine ⟨_, rfl, ?_⟩
            have n0_ := Aside0.mk (Kd.R_below (by (with_reducible repeat (first | apply Kd.R_alloc | apply Kd.R_drewN | apply Kd.R_drew)); exact HO_7.out) hb)
            have n1_ := Aside0.mk (Kd.R_below (by (with_reducible repeat (first | apply Kd.R_alloc | apply Kd.R_drewN | apply Kd.R_drew)); exact HO215.out) hb)
            have n2_ := Aside0.mk (Kd.R_lower ho0 (zZ (by repeat (first | (with_reducible first | exact HB.out | apply zA | apply zN | apply zD | refine below_set ?_ GE209.out) | exact HB.out))))
            have n3_ := Aside0.mk (yB (g := gb209) (o := .cells #[.int .i64 x210000_3, .int .i64 x210001_3, .int .u64 x210002_3, .string x210003_3] 40 (0, 0)) (by (with_reducible repeat (first | refine yN ?_ _ | refine yD ?_ | refine yA ?_ _)); exact BK209.out) hb)
            have n4_ := Aside0.mk (zS (by repeat (first | (with_reducible first | exact HB.out | apply zA | apply zN | apply zD | refine below_set ?_ GE209.out) | exact HB.out)) hb)
            clear HO_7
            clear HO215
            clear BK209
            clear HB
            have HO_7 := n0_
            have HO215 := n1_
            have HO212 := n2_
            have BK209 := n3_
            have HB := n4_
            clear n0_ n1_ n2_ n3_ n4_
            (try clear hb)
            (try clear hb2)
            (try clear hk)
            (try clear hi)
            (try clear ho0)
            refine hK.out _ _ ⟨(blk_cell BK209.out 0).trans rfl, (blk_cell BK209.out 1).trans rfl, (blk_cell BK209.out 2).trans rfl, (blk_cell BK209.out 3).trans rfl⟩ (fun hHeld => ?_)
            clear hK K
            refine norm_ (a' := ?_) ?_ ?_
            rotate_left
            ·show Act.put _ (some 34) _ = _
             simp only [Act.put, List.setIfInBounds_toArray, List.set_cons_zero, List.set_cons_succ, i64_w, i32_w]
             rfl
            exact norm_ (by simp only [putAll, Act.put, List.setIfInBounds_toArray, List.set_cons_zero, List.set_cons_succ]) (hCont (v211, v214) _ ⟨hHeld, (by (with_reducible repeat (first | apply Kd.R_alloc | apply Kd.R_drewN | apply Kd.R_drew)); exact HO212.out), (by (with_reducible repeat (first | apply Kd.R_alloc | apply Kd.R_drewN | apply Kd.R_drew)); exact HO215.out), (by (with_reducible repeat (first | apply Kd.R_alloc | apply Kd.R_drewN | apply Kd.R_drew)); exact HO_7.out), (by (with_reducible repeat (first | refine yN ?_ _ | refine yD ?_ | refine yA ?_ _)); exact BK209.out), (by repeat (first | (with_reducible first | exact HB.out | apply zA | apply zN | apply zD | refine below_set ?_ GE209.out) | exact HB.out))⟩)
          rintro ⟨v211, v214⟩ w45 ⟨hS_, h0_, h1_, h2_, h3_, h4_⟩
          have n0_ : Aside0 (Kd.R k51 51 w45 w.heap.size (fun _ => True) v211 t210) := ⟨h0_⟩
          have n1_ : Aside0 (Kd.R k43 43 w45 w.heap.size (fun _ => True) v214 y213) := ⟨h1_⟩
          have n2_ : Aside0 (Kd.R k40 40 w45 w.heap.size (fun k_ => k_ ≠ gb209) (.slice Ao40 y206.length co40) y206) := ⟨h2_⟩
          have n3_ : Aside0 (w45.heap[gb209]? = some (.cells #[.int .i64 x210000_3, .int .i64 x210001_3, .int .u64 x210002_3, .string x210003_3] 40 (0, 0))) := ⟨h3_⟩
          have n4_ : Aside0 (Below w.heap.size w w45) := ⟨h4_⟩
          clear HO_7
          clear BK209
          clear HB
          clear h0_ h1_ h2_ h3_ h4_
          have HO212 := n0_
          have HO215 := n1_
          have HO_7 := n2_
          have BK209 := n3_
          have HB := n4_
          clear n0_ n1_ n2_ n3_ n4_
          have hHeld : w45.cell? ⟨gb209, 0, none⟩ = some (.int .i64 x210000_3) ∧ w45.cell? ⟨gb209, 1, none⟩ = some (.int .i64 x210001_3) ∧ w45.cell? ⟨gb209, 2, none⟩ = some (.int .u64 x210002_3) ∧ w45.cell? ⟨gb209, 3, none⟩ = some (.string x210003_3) := hS_
          obtain ⟨Ao46, co46, eo46⟩ := Kd.R_slice HO212.out
          (first | subst eo46 | (injection eo46 with f1_ f2_ f3_; have f4_ := f1_.symm; have f5_ := f3_.symm; clear f1_ f2_ f3_; subst f4_; subst f5_))
          obtain ⟨Ao47, co47, eo47⟩ := Kd.R_slice HO215.out
          (first | subst eo47 | (injection eo47 with f1_ f2_ f3_; have f4_ := f1_.symm; have f5_ := f3_.symm; clear f1_ f2_ f3_; subst f4_; subst f5_))
          refine norm_ (a' := ?_) ?_ ?_
          rotate_left
          ·simp only [putAll, Act.put, List.setIfInBounds_toArray, List.set_cons_zero, List.set_cons_succ]
           rfl
          refine one_ (i := 6) (N := some 40) #[true, true, true, true, true, true, true, false, false, false, false, false] rfl rfl (one_of HT_.out (by kernel_rfl)) (by decide) (fun K hK => ?_)
          refine goes_ Try.func13 (by kernel_rfl) rfl #[.slice Ao46 t210.length co46, .slice Ao40 y206.length co40, .slice Ao47 y213.length co47] (by rfl) rfl rfl (by (try simp only [List.map_toArray, List.map_cons, List.map_nil]); first | done | rfl | (simp only [List.length_drop, List.length_take]; rfl)) ?_
          with_reducible refine (pred_Test.calls k2 _ _ t210 _ _ y206 _ _ y213 t216 t217 _ ?side1 ?side2 ?side3 ?side4 ?side5 ?side6 A13.out).mono ?_
          (case side1 => repeat (first | exact (Kd.R_reads' HO212.out).2.2 | (with_reducible refine Kd.C_alloc ?_ _) | (with_reducible refine Kd.C_drewN ?_ _) | (with_reducible refine Kd.C_drew ?_)))
          (case side2 => exact (Kd.R_reads' HO212.out).2.1)
          (case side3 => repeat (first | exact (Kd.R_reads' HO_7.out).2.2 | (with_reducible refine Kd.C_alloc ?_ _) | (with_reducible refine Kd.C_drewN ?_ _) | (with_reducible refine Kd.C_drew ?_)))
          (case side4 => exact (Kd.R_reads' HO_7.out).2.1)
          (case side5 => repeat (first | exact (Kd.R_reads' HO215.out).2.2 | (with_reducible refine Kd.C_alloc ?_ _) | (with_reducible refine Kd.C_drewN ?_ _) | (with_reducible refine Kd.C_drew ?_)))
          (case side6 => exact (Kd.R_reads' HO215.out).2.1)
          rintro e w48 ⟨rfl, hb⟩
          refine ⟨_, rfl, ?_⟩
          have n0_ := Aside0.mk (Kd.R_below (by (with_reducible repeat (first | apply Kd.R_alloc | apply Kd.R_drewN | apply Kd.R_drew)); exact HO_7.out) hb)
          have n1_ := Aside0.mk (Kd.R_below (by (with_reducible repeat (first | apply Kd.R_alloc | apply Kd.R_drewN | apply Kd.R_drew)); exact HO212.out) hb)
          have n2_ := Aside0.mk (Kd.R_below (by (with_reducible repeat (first | apply Kd.R_alloc | apply Kd.R_drewN | apply Kd.R_drew)); exact HO215.out) hb)
          have n3_ := Aside0.mk (yB (g := gb209) (o := .cells #[.int .i64 x210000_3, .int .i64 x210001_3, .int .u64 x210002_3, .string x210003_3] 40 (0, 0)) (by (with_reducible repeat (first | refine yN ?_ _ | refine yD ?_ | refine yA ?_ _)); exact BK209.out) hb)
          have n4_ := Aside0.mk (zS (by repeat (first | (with_reducible first | exact HB.out | apply zA | apply zN | apply zD | refine below_set ?_ GE209.out) | exact HB.out)) hb)
          clear HO_7
          clear HO212
          clear HO215
          clear BK209
          clear HB
          have HO_7 := n0_
          have HO212 := n1_
          have HO215 := n2_
          have BK209 := n3_
          have HB := n4_
          clear n0_ n1_ n2_ n3_ n4_
          (try clear hb)
          (try clear hb2)
          (try clear hk)
          (try clear hi)
          refine hK.out _ _ ⟨(blk_cell BK209.out 0).trans rfl, (blk_cell BK209.out 1).trans rfl, (blk_cell BK209.out 2).trans rfl, (blk_cell BK209.out 3).trans rfl⟩ (fun hHeld => ?_)
          clear hK K
          refine norm_ (a' := ?_) ?_ ?_
          rotate_left
          ·show Act.put _ (some 40) _ = _
           simp only [Act.put, List.setIfInBounds_toArray, List.set_cons_zero, List.set_cons_succ, i64_w, i32_w]
           rfl
          refine pure_ (i := 7) (N := some 33) (v := ?_) (a' := ?_) #[true, true, true, true, true, true, true, true, false, false, false, false] rfl rfl (any_of HT_.out (by kernel_rfl)) (fun _ _ _ h => h) (Or.inl ⟨by rfl, ?_⟩) ?_ ?_
          rotate_left
          ·intro w'
           go_simp
           with_reducible rfl
          rotate_left
          ·simp only [Act.put, List.setIfInBounds_toArray, List.set_cons_zero, List.set_cons_succ, i64_w, i32_w]
           rfl
          refine pure_ (i := 8) (N := some 41) (v := ?_) (a' := ?_) #[true, true, true, true, true, true, true, true, true, false, false, false] rfl rfl (any_of HT_.out (by kernel_rfl)) (fun _ _ _ h => h) (Or.inl ⟨by rfl, ?_⟩) ?_ ?_
          rotate_left
          ·intro w'
           go_simp
           with_reducible rfl
          rotate_left
          ·simp only [Act.put, List.setIfInBounds_toArray, List.set_cons_zero, List.set_cons_succ, i64_w, i32_w]
           rfl
          refine pure_ (i := 9) (N := some 42) (v := ?_) (a' := ?_) #[true, true, true, true, true, true, true, true, true, true, false, false] rfl rfl (any_of HT_.out (by kernel_rfl)) (fun _ _ _ h => h) (Or.inl ⟨by rfl, ?_⟩) ?_ ?_
          rotate_left
          ·intro w'
           go_simp
           with_reducible rfl
          rotate_left
          ·simp only [Act.put, List.setIfInBounds_toArray, List.set_cons_zero, List.set_cons_succ, i64_w, i32_w]
           rfl
          refine pure_ (i := 10) (N := some 11) (v := ?_) (a' := ?_) #[true, true, true, true, true, true, true, true, true, true, true, false] rfl rfl (any_of HT_.out (by kernel_rfl)) (fun _ _ _ h => h) (Or.inl ⟨by rfl, ?_⟩) ?_ ?_
          rotate_left
          ·intro w'
           go_simp
           with_reducible rfl
          rotate_left
          ·simp only [Act.put, List.setIfInBounds_toArray, List.set_cons_zero, List.set_cons_succ, i64_w, i32_w]
           rfl
          refine pure_ (i := 11) (N := some 12) (v := ?_) (a' := ?_) #[true, true, true, true, true, true, true, true, true, true, true, true] rfl rfl (any_of HT_.out (by kernel_rfl)) (fun _ _ _ h => h) (Or.inl ⟨by rfl, ?_⟩) ?_ ?_
          rotate_left
          ·intro w'
           go_simp
           with_reducible rfl
          rotate_left
          ·simp only [Act.put, List.setIfInBounds_toArray, List.set_cons_zero, List.set_cons_succ, i64_w, i32_w]
           rfl
          refine done_ (done_of HT_.out (by kernel_rfl)) ?_
          try go_wp2
          have n0_ := Aside0.mk (Kd.R_drew HO_7.out)
          have n1_ := Aside0.mk (Kd.R_drew HO212.out)
          have n2_ := Aside0.mk (Kd.R_drew HO215.out)
          have n3_ := Aside0.mk (yD BK209.out)
          have n4_ := Aside0.mk (zD HB.out)
          clear HO_7
          clear HO212
          clear HO215
          clear BK209
          clear HB
          have HO_7 := n0_
          have HO212 := n1_
          have HO215 := n2_
          have BK209 := n3_
          have HB := n4_
          clear n0_ n1_ n2_ n3_ n4_
          refine start_ (n := 12) (S := fun w' => True) (ds := []) #[false, false, false, false, false, false, false, false, false, false, false, false] (by kernel_rfl) rfl rfl trivial (fun hHeld => ?_); refine with_tabW falseworklaw18_PredThree.tab10 falseworklaw18_PredThree.bits10 (fun HT_ HW_ => ?_)
          generalize w48.drew = w49 at HO_7 HO212 HO215 BK209 HB hHeld ⊢
          refine pure_ (i := 1) (N := some 45) (v := ?_) (a' := ?_) #[false, true, false, false, false, false, false, false, false, false, false, false] rfl rfl (any_of HT_.out (by kernel_rfl)) (fun _ _ _ h => h) (Or.inl ⟨by rfl, ?_⟩) ?_ ?_
          rotate_left
          ·intro w'
           go_simp
           with_reducible rfl
          rotate_left
          ·simp only [Act.put, List.setIfInBounds_toArray, List.set_cons_zero, List.set_cons_succ, i64_w, i32_w]
           rfl
          refine pure_ (i := 2) (N := some 46) (v := ?_) (a' := ?_) #[false, true, true, false, false, false, false, false, false, false, false, false] rfl rfl (any_of HT_.out (by kernel_rfl)) (fun _ _ _ h => h) (Or.inl ⟨by rfl, ?_⟩) ?_ ?_
          rotate_left
          ·intro w'
           go_simp
           with_reducible rfl
          rotate_left
          ·simp only [Act.put, List.setIfInBounds_toArray, List.set_cons_zero, List.set_cons_succ, i64_w, i32_w]
           rfl
          refine inv_at [0, 3, 4, 5, 6, 7, 8, 9, 10, 11] (fun a0_ b a w' => ∃ (v219 : Value) (v222 : Value), a = putSel a0_ b [(0, 44, v219), (3, 47, .agg #[.int .i64 x210000_3, .int .i64 x210001_3, .int .u64 x210002_3, .string x210003_3]), (4, 48, .agg #[.string (⟨#[98]⟩ : ByteArray), .int .i64 x10_2, .int .i64 x210000_3, .int .i64 x210001_3, .int .u64 x210002_3, .string x210003_3]), (5, 49, v222), (6, 50, .tuple #[.int .i64 t224, .int .i64 t225]), (7, 43, .tuple #[.int .i64 t224, .int .i64 t225]), (8, 51, .int .i64 t224), (9, 52, .int .i64 t225), (10, 13, .int .i64 t224), (11, 14, .int .i64 t225)] ∧ (Kd.R k51 51 w' w.heap.size (fun _ => True) (.slice Ao46 t210.length co46) t210) ∧ (Kd.R k43 43 w' w.heap.size (fun _ => True) (.slice Ao47 y213.length co47) y213) ∧ (Kd.R k40 40 w' w.heap.size (fun k_ => k_ ≠ gb209) (.slice Ao40 y206.length co40) y206) ∧ (w'.heap[gb209]? = some (.cells #[.int .i64 x210000_3, .int .i64 x210001_3, .int .u64 x210002_3, .string x210003_3] 40 (0, 0))) ∧ (Below w.heap.size w w') ∧ (b 0 = true → Kd.R k51 51 w' w.heap.size (fun k_ => some k_ ≠ (.slice Ao46 t210.length co46 : Value).ownBlock) v219 t218) ∧ (b 5 = true → Kd.R k43 43 w' w.heap.size (fun k_ => some k_ ≠ (.slice Ao47 y213.length co47 : Value).ownBlock) v222 y221)) HT_.out HW_.out (by kernel_rfl) (by kernel_rfl) ?_ ?_ ?_
          ·exact ⟨.bool false, .bool false, by simp only [putSel, Bool.false_eq_true, if_false], HO212.out, HO215.out, HO_7.out, BK209.out, HB.out, fun h_ => absurd h_ (by decide), fun h_ => absurd h_ (by decide)⟩
          ·skip
           clear BK209 HB HO212 HO215 HO_7
           refine steps_cons ?_ ?_
           ·rintro b a w' ⟨v219, v222, ha, Q_HO212, Q_HO215, Q_HO_7, Q_BK209, Q_HB, Q_HO220, Q_HO223⟩ hb_ hon hoff
            refine ⟨_, rfl, fun K hK => ?_⟩
            replace ha := Aside0.mk ha
            have HO212 := Aside0.mk Q_HO212
            have HO215 := Aside0.mk Q_HO215
            have HO_7 := Aside0.mk Q_HO_7
            have BK209 := Aside0.mk Q_BK209
            have HB := Aside0.mk Q_HB
            refine goes_ Try.func15 (by kernel_rfl) rfl #[.int .i64 2] (by rfl) rfl rfl (by first | (simp only [List.map_toArray, List.map_cons, List.map_nil, Act.eval, Array.getD_eq_getD_getElem?, Option.getD_some]; done) | (simp only [List.map_toArray, List.map_cons, List.map_nil, Act.eval, Array.getD_eq_getD_getElem?, Option.getD_some]; rfl)) ?_
            with_reducible refine (falseworklaw18_cols.calls 2 t218 _ A14.out).mono ?_
            rintro e w50 ⟨v219, rfl, ho0, hb⟩
            refine ⟨_, rfl, ?_⟩
            have n0_ := Aside0.mk (Kd.R_below (by (with_reducible repeat (first | apply Kd.R_alloc | apply Kd.R_drewN | apply Kd.R_drew)); exact HO_7.out) hb)
            have n1_ := Aside0.mk (Kd.R_elder' (by (with_reducible repeat (first | apply Kd.R_alloc | apply Kd.R_drewN | apply Kd.R_drew)); exact HO212.out) (Kd.R_base ho0) hb)
            have n2_ := Aside0.mk (Kd.R_below (by (with_reducible repeat (first | apply Kd.R_alloc | apply Kd.R_drewN | apply Kd.R_drew)); exact HO215.out) hb)
            have n3_ := Aside0.mk (Kd.R_lower (Kd.R_new' ho0 (Kd.R_lt (by (with_reducible repeat (first | apply Kd.R_alloc | apply Kd.R_drewN | apply Kd.R_drew)); exact HO212.out))) (zZ (by repeat (first | (with_reducible first | exact HB.out | apply zA | apply zN | apply zD | refine below_set ?_ GE209.out) | exact HB.out))))
            have n4_ := Aside0.mk (yB (g := gb209) (o := .cells #[.int .i64 x210000_3, .int .i64 x210001_3, .int .u64 x210002_3, .string x210003_3] 40 (0, 0)) (by (with_reducible repeat (first | refine yN ?_ _ | refine yD ?_ | refine yA ?_ _)); exact BK209.out) hb)
            have n5_ := Aside0.mk (zS (by repeat (first | (with_reducible first | exact HB.out | apply zA | apply zN | apply zD | refine below_set ?_ GE209.out) | exact HB.out)) hb)
            have z_HO223 := fun (h0_ : b 5 = true) => (show Kd.R k43 43 w50 w.heap.size (fun k_ => some k_ ≠ (.slice Ao47 y213.length co47 : Value).ownBlock) v222 y221 from by first | exact (Kd.R_below (by (with_reducible repeat (first | apply Kd.R_alloc | apply Kd.R_drewN | apply Kd.R_drew)); exact (Q_HO223 h0_)) hb) | exact Kd.R_mono (Kd.R_below (by (with_reducible repeat (first | apply Kd.R_alloc | apply Kd.R_drewN | apply Kd.R_drew)); exact (Q_HO223 h0_)) hb) (fun _ h_ => by first | trivial | exact h_ | exact h_.1))
            clear HO_7
            clear HO212
            clear HO215
            clear BK209
            clear HB
            have HO_7 := n0_
            have HO212 := n1_
            have HO215 := n2_
            have HO220 := n3_
            have BK209 := n4_
            have HB := n5_
            clear n0_ n1_ n2_ n3_ n4_ n5_
            (try clear hb)
            (try clear hb2)
            (try clear hk)
            (try clear hi)
            (try clear ho0)
            refine hK.out _ _ ⟨v219, v222, (by rw [ha.out]; exact putSel_upk 0 hb_ rfl rfl rfl), (by (with_reducible repeat (first | apply Kd.R_alloc | apply Kd.R_drewN | apply Kd.R_drew)); exact Kd.R_mono HO212.out (fun _ hk => by first | exact hk.2 | exact trivial)), (by (with_reducible repeat (first | apply Kd.R_alloc | apply Kd.R_drewN | apply Kd.R_drew)); exact HO215.out), (by (with_reducible repeat (first | apply Kd.R_alloc | apply Kd.R_drewN | apply Kd.R_drew)); exact HO_7.out), (by (with_reducible repeat (first | refine yN ?_ _ | refine yD ?_ | refine yA ?_ _)); exact BK209.out), (by repeat (first | (with_reducible first | exact HB.out | apply zA | apply zN | apply zD | refine below_set ?_ GE209.out) | exact HB.out)), fun _ => (by (with_reducible repeat (first | apply Kd.R_alloc | apply Kd.R_drewN | apply Kd.R_drew)); exact Kd.R_mono HO220.out (fun _ hk => by first | exact hk.2 | exact trivial)), z_HO223⟩
           refine steps_cons ?_ ?_
           ·rintro b a w' ⟨v219, v222, ha, Q_HO212, Q_HO215, Q_HO_7, Q_BK209, Q_HB, Q_HO220, Q_HO223⟩ hb_ hon hoff
            refine ⟨_, rfl, fun K hK => ?_⟩
            have e8 : a.tmps[8]? = some (.pointer (some ⟨gb209, 0, none⟩)) := by rw [ha]; exact (putSel_off rfl).trans rfl
            replace ha := Aside0.mk ha
            have HO212 := Aside0.mk Q_HO212
            have HO215 := Aside0.mk Q_HO215
            have HO_7 := Aside0.mk Q_HO_7
            have BK209 := Aside0.mk Q_BK209
            have HB := Aside0.mk Q_HB
            have hc0_ : w'.cell? ⟨gb209, 0, none⟩ = some (.int .i64 x210000_3) := (blk_cell BK209.out 0).trans rfl
            have hc1_ : w'.cell? ⟨gb209, 1, none⟩ = some (.int .i64 x210001_3) := (blk_cell BK209.out 1).trans rfl
            have hc2_ : w'.cell? ⟨gb209, 2, none⟩ = some (.int .u64 x210002_3) := (blk_cell BK209.out 2).trans rfl
            have hc3_ : w'.cell? ⟨gb209, 3, none⟩ = some (.string x210003_3) := (blk_cell BK209.out 3).trans rfl
            refine value_ (w1 := w') (v := .agg #[.int .i64 x210000_3, .int .i64 x210001_3, .int .u64 x210002_3, .string x210003_3]) (by rfl) rfl ?_ ?_
            ·go_simp
             (try simp only [i64_w])
             try rfl
            refine hK.out _ _ ⟨v219, v222, (by rw [ha.out]; exact putSel_upk 1 hb_ rfl rfl rfl), Q_HO212, Q_HO215, Q_HO_7, Q_BK209, Q_HB, Q_HO220, fun h0_ => absurd ((hoff 5 (by kernel_rfl)).symm.trans h0_) (by decide)⟩
           refine steps_cons ?_ ?_
           ·rintro b a w' ⟨v219, v222, ha, Q_HO212, Q_HO215, Q_HO_7, Q_BK209, Q_HB, Q_HO220, Q_HO223⟩ hb_ hon hoff
            refine ⟨_, rfl, fun K hK => ?_⟩
            have e46 : a.tmps[46]? = some (.int .i64 x10_2) := by rw [ha]; exact (putSel_off rfl).trans rfl
            have e47 : a.tmps[47]? = some (.agg #[.int .i64 x210000_3, .int .i64 x210001_3, .int .u64 x210002_3, .string x210003_3]) := by rw [ha]; exact putSel_on (e := (3, 47, .agg #[.int .i64 x210000_3, .int .i64 x210001_3, .int .u64 x210002_3, .string x210003_3])) 1 rfl rfl (hon 3 (by kernel_rfl)) rfl
            replace ha := Aside0.mk ha
            have HO212 := Aside0.mk Q_HO212
            have HO215 := Aside0.mk Q_HO215
            have HO_7 := Aside0.mk Q_HO_7
            have BK209 := Aside0.mk Q_BK209
            have HB := Aside0.mk Q_HB
            refine value_ (w1 := w') (v := .agg #[.string (⟨#[98]⟩ : ByteArray), .int .i64 x10_2, .int .i64 x210000_3, .int .i64 x210001_3, .int .u64 x210002_3, .string x210003_3]) (by rfl) rfl ?_ ?_
            ·go_simp
             (try simp only [i64_w])
             try rfl
            refine hK.out _ _ ⟨v219, v222, (by rw [ha.out]; exact putSel_upk 2 hb_ rfl rfl rfl), Q_HO212, Q_HO215, Q_HO_7, Q_BK209, Q_HB, Q_HO220, fun h0_ => absurd ((hoff 5 (by kernel_rfl)).symm.trans h0_) (by decide)⟩
           refine steps_cons ?_ ?_
           ·rintro b a w' ⟨v219, v222, ha, Q_HO212, Q_HO215, Q_HO_7, Q_BK209, Q_HB, Q_HO220, Q_HO223⟩ hb_ hon hoff
            refine ⟨_, rfl, fun K hK => ?_⟩
            have e48 : a.tmps[48]? = some (.agg #[.string (⟨#[98]⟩ : ByteArray), .int .i64 x10_2, .int .i64 x210000_3, .int .i64 x210001_3, .int .u64 x210002_3, .string x210003_3]) := by rw [ha]; exact putSel_on (e := (4, 48, .agg #[.string (⟨#[98]⟩ : ByteArray), .int .i64 x10_2, .int .i64 x210000_3, .int .i64 x210001_3, .int .u64 x210002_3, .string x210003_3])) 2 rfl rfl (hon 4 (by kernel_rfl)) rfl
            replace ha := Aside0.mk ha
            have HO212 := Aside0.mk Q_HO212
            have HO215 := Aside0.mk Q_HO215
            have HO_7 := Aside0.mk Q_HO_7
            have BK209 := Aside0.mk Q_BK209
            have HB := Aside0.mk Q_HB
            refine Kd.R_lit_step k43 _ 43 ?hg (N := 49) ?hd (xs := ([(⟨(⟨#[98]⟩ : ByteArray), x10_2, (⟨x210000_3, x210001_3, x210002_3, x210003_3⟩ : S40)⟩ : S43)] : List (S43))) (inner := [.string (⟨#[98]⟩ : ByteArray), .int .i64 x10_2, .int .i64 x210000_3, .int .i64 x210001_3, .int .u64 x210002_3, .string x210003_3]) (ok := fun _ => True) (okp := fun _ => True) ?hr ?hp (fun _ hk => hk) trivial (Below.refl _ _) (Nat.le_refl _) (by simp) ?_; (case hd => rfl); (case hg => rfl); (case hr => first | (go_simp; done) | (go_simp; rfl)); (case hp => exact (Reps.c6 (show Kd.M k43 _ _ _ (⟨(⟨#[98]⟩ : ByteArray), x10_2, (⟨x210000_3, x210001_3, x210002_3, x210003_3⟩ : S40)⟩ : S43) [.string (⟨#[98]⟩ : ByteArray), .int .i64 x10_2, .int .i64 x210000_3, .int .i64 x210001_3, .int .u64 x210002_3, .string x210003_3] from (k43_mkM _ _ _ (⟨(⟨#[98]⟩ : ByteArray), x10_2, (⟨x210000_3, x210001_3, x210002_3, x210003_3⟩ : S40)⟩ : S43) )) (Reps.none _ _)))
            intro v222 w50 ho51 hb hg_ hnew_
            clear hg_ hnew_
            (first | rw [← Ny221.out] at ho51 | (simp only [Int.reduceToNat] at ho51; rw [← Ny221.out] at ho51))
            have n0_ := Aside0.mk (Kd.R_below (by (with_reducible repeat (first | apply Kd.R_alloc | apply Kd.R_drewN | apply Kd.R_drew)); exact HO_7.out) hb)
            have n1_ := Aside0.mk (Kd.R_below (by (with_reducible repeat (first | apply Kd.R_alloc | apply Kd.R_drewN | apply Kd.R_drew)); exact HO212.out) hb)
            have n2_ := Aside0.mk (Kd.R_elder' (by (with_reducible repeat (first | apply Kd.R_alloc | apply Kd.R_drewN | apply Kd.R_drew)); exact HO215.out) (Kd.R_base ho51) hb)
            have n3_ := Aside0.mk (Kd.R_lower (Kd.R_new' ho51 (Kd.R_lt (by (with_reducible repeat (first | apply Kd.R_alloc | apply Kd.R_drewN | apply Kd.R_drew)); exact HO215.out))) (zZ (by repeat (first | (with_reducible first | exact HB.out | apply zA | apply zN | apply zD | refine below_set ?_ GE209.out) | exact HB.out))))
            have n4_ := Aside0.mk (yB (g := gb209) (o := .cells #[.int .i64 x210000_3, .int .i64 x210001_3, .int .u64 x210002_3, .string x210003_3] 40 (0, 0)) (by (with_reducible repeat (first | refine yN ?_ _ | refine yD ?_ | refine yA ?_ _)); exact BK209.out) hb)
            have n5_ := Aside0.mk (zS (by repeat (first | (with_reducible first | exact HB.out | apply zA | apply zN | apply zD | refine below_set ?_ GE209.out) | exact HB.out)) hb)
            have z_HO220 := fun (h0_ : b 0 = true) => (show Kd.R k51 51 w50 w.heap.size (fun k_ => some k_ ≠ (.slice Ao46 t210.length co46 : Value).ownBlock) v219 t218 from by first | exact (Kd.R_below (by (with_reducible repeat (first | apply Kd.R_alloc | apply Kd.R_drewN | apply Kd.R_drew)); exact (Q_HO220 h0_)) hb) | exact Kd.R_mono (Kd.R_below (by (with_reducible repeat (first | apply Kd.R_alloc | apply Kd.R_drewN | apply Kd.R_drew)); exact (Q_HO220 h0_)) hb) (fun _ h_ => by first | trivial | exact h_ | exact h_.1))
            clear HO_7
            clear HO212
            clear HO215
            clear BK209
            clear HB
            have HO_7 := n0_
            have HO212 := n1_
            have HO215 := n2_
            have HO223 := n3_
            have BK209 := n4_
            have HB := n5_
            clear n0_ n1_ n2_ n3_ n4_ n5_
            clear hb ho51
            refine hK.out _ _ ⟨v219, v222, (by rw [ha.out]; exact putSel_upk 3 hb_ rfl rfl rfl), (by (with_reducible repeat (first | apply Kd.R_alloc | apply Kd.R_drewN | apply Kd.R_drew)); exact HO212.out), (by (with_reducible repeat (first | apply Kd.R_alloc | apply Kd.R_drewN | apply Kd.R_drew)); exact Kd.R_mono HO215.out (fun _ hk => by first | exact hk.2 | exact trivial)), (by (with_reducible repeat (first | apply Kd.R_alloc | apply Kd.R_drewN | apply Kd.R_drew)); exact HO_7.out), (by (with_reducible repeat (first | refine yN ?_ _ | refine yD ?_ | refine yA ?_ _)); exact BK209.out), (by repeat (first | (with_reducible first | exact HB.out | apply zA | apply zN | apply zD | refine below_set ?_ GE209.out) | exact HB.out)), z_HO220, fun _ => (by (with_reducible repeat (first | apply Kd.R_alloc | apply Kd.R_drewN | apply Kd.R_drew)); exact Kd.R_mono HO223.out (fun _ hk => by first | exact hk.2 | exact trivial))⟩
           refine steps_cons ?_ ?_
           ·rintro b a w' ⟨v219, v222, ha, Q_HO212, Q_HO215, Q_HO_7, Q_BK209, Q_HB, Q_HO220, Q_HO223⟩ hb_ hon hoff
            refine ⟨_, rfl, fun K hK => ?_⟩
            have e44 : a.tmps[44]? = some (v219) := by rw [ha]; exact putSel_on (e := (0, 44, v219)) 0 rfl rfl (hon 0 (by kernel_rfl)) rfl
            have e45 : a.tmps[45]? = some (.slice Ao40 y206.length co40) := by rw [ha]; exact (putSel_off rfl).trans rfl
            have e49 : a.tmps[49]? = some (v222) := by rw [ha]; exact putSel_on (e := (5, 49, v222)) 3 rfl rfl (hon 5 (by kernel_rfl)) rfl
            replace ha := Aside0.mk ha
            have HO212 := Aside0.mk Q_HO212
            have HO215 := Aside0.mk Q_HO215
            have HO_7 := Aside0.mk Q_HO_7
            have BK209 := Aside0.mk Q_BK209
            have HB := Aside0.mk Q_HB
            have HO220 := Aside0.mk (Q_HO220 (hon 0 (by kernel_rfl)))
            have HO223 := Aside0.mk (Q_HO223 (hon 5 (by kernel_rfl)))
            obtain ⟨Ao54, co54, eo54⟩ := Kd.R_slice HO220.out
            (first | subst eo54 | (injection eo54 with f1_ f2_ f3_; have f4_ := f1_.symm; have f5_ := f3_.symm; clear f1_ f2_ f3_; subst f4_; subst f5_))
            obtain ⟨Ao55, co55, eo55⟩ := Kd.R_slice HO223.out
            (first | subst eo55 | (injection eo55 with f1_ f2_ f3_; have f4_ := f1_.symm; have f5_ := f3_.symm; clear f1_ f2_ f3_; subst f4_; subst f5_))
            refine goes_ Try.func13 (by kernel_rfl) rfl #[.slice Ao54 t218.length co54, .slice Ao40 y206.length co40, .slice Ao55 y221.length co55] (by rfl) rfl rfl (by first | (simp only [List.map_toArray, List.map_cons, List.map_nil, Act.eval, Array.getD_eq_getD_getElem?, Option.getD_some, e44, e45, e49]; done) | (simp only [List.map_toArray, List.map_cons, List.map_nil, Act.eval, Array.getD_eq_getD_getElem?, Option.getD_some, e44, e45, e49]; rfl)) ?_
            with_reducible refine (pred_Test.calls k2 _ _ t218 _ _ y206 _ _ y221 t224 t225 _ ?side1 ?side2 ?side3 ?side4 ?side5 ?side6 A15.out).mono ?_
            (case side1 => repeat (first | exact (Kd.R_reads' HO220.out).2.2 | (with_reducible refine Kd.C_alloc ?_ _) | (with_reducible refine Kd.C_drewN ?_ _) | (with_reducible refine Kd.C_drew ?_)))
            (case side2 => exact (Kd.R_reads' HO220.out).2.1)
            (case side3 => repeat (first | exact (Kd.R_reads' HO_7.out).2.2 | (with_reducible refine Kd.C_alloc ?_ _) | (with_reducible refine Kd.C_drewN ?_ _) | (with_reducible refine Kd.C_drew ?_)))
            (case side4 => exact (Kd.R_reads' HO_7.out).2.1)
            (case side5 => repeat (first | exact (Kd.R_reads' HO223.out).2.2 | (with_reducible refine Kd.C_alloc ?_ _) | (with_reducible refine Kd.C_drewN ?_ _) | (with_reducible refine Kd.C_drew ?_)))
            (case side6 => exact (Kd.R_reads' HO223.out).2.1)
            rintro e w56 ⟨rfl, hb⟩
            refine ⟨_, rfl, ?_⟩
            have n0_ := Aside0.mk (Kd.R_below (by (with_reducible repeat (first | apply Kd.R_alloc | apply Kd.R_drewN | apply Kd.R_drew)); exact HO_7.out) hb)
            have n1_ := Aside0.mk (Kd.R_below (by (with_reducible repeat (first | apply Kd.R_alloc | apply Kd.R_drewN | apply Kd.R_drew)); exact HO212.out) hb)
            have n2_ := Aside0.mk (Kd.R_below (by (with_reducible repeat (first | apply Kd.R_alloc | apply Kd.R_drewN | apply Kd.R_drew)); exact HO215.out) hb)
            have n3_ := Aside0.mk (Kd.R_below (by (with_reducible repeat (first | apply Kd.R_alloc | apply Kd.R_drewN | apply Kd.R_drew)); exact HO220.out) hb)
            have n4_ := Aside0.mk (Kd.R_below (by (with_reducible repeat (first | apply Kd.R_alloc | apply Kd.R_drewN | apply Kd.R_drew)); exact HO223.out) hb)
            have n5_ := Aside0.mk (yB (g := gb209) (o := .cells #[.int .i64 x210000_3, .int .i64 x210001_3, .int .u64 x210002_3, .string x210003_3] 40 (0, 0)) (by (with_reducible repeat (first | refine yN ?_ _ | refine yD ?_ | refine yA ?_ _)); exact BK209.out) hb)
            have n6_ := Aside0.mk (zS (by repeat (first | (with_reducible first | exact HB.out | apply zA | apply zN | apply zD | refine below_set ?_ GE209.out) | exact HB.out)) hb)
            clear HO_7
            clear HO212
            clear HO215
            clear HO220
            clear HO223
            clear BK209
            clear HB
            have HO_7 := n0_
            have HO212 := n1_
            have HO215 := n2_
            have HO220 := n3_
            have HO223 := n4_
            have BK209 := n5_
            have HB := n6_
            clear n0_ n1_ n2_ n3_ n4_ n5_ n6_
            (try clear hb)
            (try clear hb2)
            (try clear hk)
            (try clear hi)
            refine hK.out _ _ ⟨.slice Ao54 t218.length co54, .slice Ao55 y221.length co55, (by rw [ha.out]; exact putSel_upk 4 hb_ rfl rfl rfl), (by (with_reducible repeat (first | apply Kd.R_alloc | apply Kd.R_drewN | apply Kd.R_drew)); exact HO212.out), (by (with_reducible repeat (first | apply Kd.R_alloc | apply Kd.R_drewN | apply Kd.R_drew)); exact HO215.out), (by (with_reducible repeat (first | apply Kd.R_alloc | apply Kd.R_drewN | apply Kd.R_drew)); exact HO_7.out), (by (with_reducible repeat (first | refine yN ?_ _ | refine yD ?_ | refine yA ?_ _)); exact BK209.out), (by repeat (first | (with_reducible first | exact HB.out | apply zA | apply zN | apply zD | refine below_set ?_ GE209.out) | exact HB.out)), fun _ => (by (with_reducible repeat (first | apply Kd.R_alloc | apply Kd.R_drewN | apply Kd.R_drew)); exact HO220.out), fun _ => (by (with_reducible repeat (first | apply Kd.R_alloc | apply Kd.R_drewN | apply Kd.R_drew)); exact HO223.out)⟩
           refine steps_cons ?_ ?_
           ·rintro b a w' ⟨v219, v222, ha, Q_HO212, Q_HO215, Q_HO_7, Q_BK209, Q_HB, Q_HO220, Q_HO223⟩ hb_ hon hoff
            refine ⟨_, rfl, fun K hK => ?_⟩
            have e50 : a.tmps[50]? = some (.tuple #[.int .i64 t224, .int .i64 t225]) := by rw [ha]; exact putSel_on (e := (6, 50, .tuple #[.int .i64 t224, .int .i64 t225])) 4 rfl rfl (hon 6 (by kernel_rfl)) rfl
            replace ha := Aside0.mk ha
            have HO212 := Aside0.mk Q_HO212
            have HO215 := Aside0.mk Q_HO215
            have HO_7 := Aside0.mk Q_HO_7
            have BK209 := Aside0.mk Q_BK209
            have HB := Aside0.mk Q_HB
            have HO220 := Aside0.mk (Q_HO220 (hon 0 (by kernel_rfl)))
            have HO223 := Aside0.mk (Q_HO223 (hon 5 (by kernel_rfl)))
            refine value_ (w1 := w') (v := .tuple #[.int .i64 t224, .int .i64 t225]) (by rfl) rfl ?_ ?_
            ·go_simp
             (try simp only [i64_w])
             try rfl
            refine hK.out _ _ ⟨v219, v222, (by rw [ha.out]; exact putSel_upk 5 hb_ rfl rfl rfl), Q_HO212, Q_HO215, Q_HO_7, Q_BK209, Q_HB, Q_HO220, Q_HO223⟩
           refine steps_cons ?_ ?_
           ·rintro b a w' ⟨v219, v222, ha, Q_HO212, Q_HO215, Q_HO_7, Q_BK209, Q_HB, Q_HO220, Q_HO223⟩ hb_ hon hoff
            refine ⟨_, rfl, fun K hK => ?_⟩
            have e43 : a.tmps[43]? = some (.tuple #[.int .i64 t224, .int .i64 t225]) := by rw [ha]; exact putSel_on (e := (7, 43, .tuple #[.int .i64 t224, .int .i64 t225])) 5 rfl rfl (hon 7 (by kernel_rfl)) rfl
            replace ha := Aside0.mk ha
            have HO212 := Aside0.mk Q_HO212
            have HO215 := Aside0.mk Q_HO215
            have HO_7 := Aside0.mk Q_HO_7
            have BK209 := Aside0.mk Q_BK209
            have HB := Aside0.mk Q_HB
            have HO220 := Aside0.mk (Q_HO220 (hon 0 (by kernel_rfl)))
            have HO223 := Aside0.mk (Q_HO223 (hon 5 (by kernel_rfl)))
            refine value_ (w1 := w') (v := .int .i64 t224) (by rfl) rfl ?_ ?_
            ·go_simp
             (try simp only [i64_w])
             try rfl
            refine hK.out _ _ ⟨v219, v222, (by rw [ha.out]; exact putSel_upk 6 hb_ rfl rfl rfl), Q_HO212, Q_HO215, Q_HO_7, Q_BK209, Q_HB, Q_HO220, Q_HO223⟩
           refine steps_cons ?_ ?_
           ·rintro b a w' ⟨v219, v222, ha, Q_HO212, Q_HO215, Q_HO_7, Q_BK209, Q_HB, Q_HO220, Q_HO223⟩ hb_ hon hoff
            refine ⟨_, rfl, fun K hK => ?_⟩
            have e43 : a.tmps[43]? = some (.tuple #[.int .i64 t224, .int .i64 t225]) := by rw [ha]; exact putSel_on (e := (7, 43, .tuple #[.int .i64 t224, .int .i64 t225])) 5 rfl rfl (hon 7 (by kernel_rfl)) rfl
            replace ha := Aside0.mk ha
            have HO212 := Aside0.mk Q_HO212
            have HO215 := Aside0.mk Q_HO215
            have HO_7 := Aside0.mk Q_HO_7
            have BK209 := Aside0.mk Q_BK209
            have HB := Aside0.mk Q_HB
            have HO220 := Aside0.mk (Q_HO220 (hon 0 (by kernel_rfl)))
            have HO223 := Aside0.mk (Q_HO223 (hon 5 (by kernel_rfl)))
            refine value_ (w1 := w') (v := .int .i64 t225) (by rfl) rfl ?_ ?_
            ·go_simp
             (try simp only [i64_w])
             try rfl
            refine hK.out _ _ ⟨v219, v222, (by rw [ha.out]; exact putSel_upk 7 hb_ rfl rfl rfl), Q_HO212, Q_HO215, Q_HO_7, Q_BK209, Q_HB, Q_HO220, Q_HO223⟩
           refine steps_cons ?_ ?_
           ·rintro b a w' ⟨v219, v222, ha, Q_HO212, Q_HO215, Q_HO_7, Q_BK209, Q_HB, Q_HO220, Q_HO223⟩ hb_ hon hoff
            refine ⟨_, rfl, fun K hK => ?_⟩
            have e51 : a.tmps[51]? = some (.int .i64 t224) := by rw [ha]; exact putSel_on (e := (8, 51, .int .i64 t224)) 6 rfl rfl (hon 8 (by kernel_rfl)) rfl
            replace ha := Aside0.mk ha
            have HO212 := Aside0.mk Q_HO212
            have HO215 := Aside0.mk Q_HO215
            have HO_7 := Aside0.mk Q_HO_7
            have BK209 := Aside0.mk Q_BK209
            have HB := Aside0.mk Q_HB
            have HO220 := Aside0.mk (Q_HO220 (hon 0 (by kernel_rfl)))
            have HO223 := Aside0.mk (Q_HO223 (hon 5 (by kernel_rfl)))
            refine value_ (w1 := w') (v := .int .i64 t224) (by rfl) rfl ?_ ?_
            ·go_simp
             (try simp only [i64_w])
             try rfl
            refine hK.out _ _ ⟨v219, v222, (by rw [ha.out]; exact putSel_upk 8 hb_ rfl rfl rfl), Q_HO212, Q_HO215, Q_HO_7, Q_BK209, Q_HB, Q_HO220, Q_HO223⟩
           refine steps_cons ?_ ?_
           ·rintro b a w' ⟨v219, v222, ha, Q_HO212, Q_HO215, Q_HO_7, Q_BK209, Q_HB, Q_HO220, Q_HO223⟩ hb_ hon hoff
            refine ⟨_, rfl, fun K hK => ?_⟩
            have e52 : a.tmps[52]? = some (.int .i64 t225) := by rw [ha]; exact putSel_on (e := (9, 52, .int .i64 t225)) 7 rfl rfl (hon 9 (by kernel_rfl)) rfl
            replace ha := Aside0.mk ha
            have HO212 := Aside0.mk Q_HO212
            have HO215 := Aside0.mk Q_HO215
            have HO_7 := Aside0.mk Q_HO_7
            have BK209 := Aside0.mk Q_BK209
            have HB := Aside0.mk Q_HB
            have HO220 := Aside0.mk (Q_HO220 (hon 0 (by kernel_rfl)))
            have HO223 := Aside0.mk (Q_HO223 (hon 5 (by kernel_rfl)))
            refine value_ (w1 := w') (v := .int .i64 t225) (by rfl) rfl ?_ ?_
            ·go_simp
             (try simp only [i64_w])
             try rfl
            refine hK.out _ _ ⟨v219, v222, (by rw [ha.out]; exact putSel_upk 9 hb_ rfl rfl rfl), Q_HO212, Q_HO215, Q_HO_7, Q_BK209, Q_HB, Q_HO220, Q_HO223⟩
           exact steps_nil
          rintro b a w56 hall ⟨v219, v222, ha, Q_HO212, Q_HO215, Q_HO_7, Q_BK209, Q_HB, Q_HO220, Q_HO223⟩
          clear BK209 HB HO212 HO215 HO_7
          have hb0_ := hall 0 (by kernel_rfl)
          have hb3_ := hall 3 (by kernel_rfl)
          have hb4_ := hall 4 (by kernel_rfl)
          have hb5_ := hall 5 (by kernel_rfl)
          have hb6_ := hall 6 (by kernel_rfl)
          have hb7_ := hall 7 (by kernel_rfl)
          have hb8_ := hall 8 (by kernel_rfl)
          have hb9_ := hall 9 (by kernel_rfl)
          have hb10_ := hall 10 (by kernel_rfl)
          have hb11_ := hall 11 (by kernel_rfl)
          subst ha
          simp only [putSel, hb0_, hb3_, hb4_, hb5_, hb6_, hb7_, hb8_, hb9_, hb10_, hb11_, if_true, Act.put, List.setIfInBounds_toArray, List.set_cons_zero, List.set_cons_succ]
          have HO212 := Aside0.mk Q_HO212
          clear Q_HO212
          have HO215 := Aside0.mk Q_HO215
          clear Q_HO215
          have HO_7 := Aside0.mk Q_HO_7
          clear Q_HO_7
          have BK209 := Aside0.mk Q_BK209
          clear Q_BK209
          have HB := Aside0.mk Q_HB
          clear Q_HB
          have HO220 := Aside0.mk (Q_HO220 hb0_)
          clear Q_HO220
          have HO223 := Aside0.mk (Q_HO223 hb5_)
          clear Q_HO223
          clear hall hb0_ hb3_ hb4_ hb5_ hb6_ hb7_ hb8_ hb9_ hb10_ hb11_
          try go_wp2_with (first | ((with_reducible refine gate_callee (f := 9) rfl ?_); refine goesL_ (some 54) rfl rfl Try.func9 (by kernel_rfl) rfl #[.int .i64 t217] rfl (by (try simp only [List.map_toArray, List.map_cons, List.map_nil]); first | done | rfl | (simp only [List.length_drop, List.length_take]; rfl)) ?_; (with_reducible refine (falseworklaw18_num.calls t217 t226 _ A16.out).mono ?_); rintro e w' ⟨rfl, ⟨nd, rfl⟩⟩; refine ⟨_, rfl, ?_⟩) | (go_at_call 9; (with_reducible refine (falseworklaw18_num.calls t225 t227 _ A18.out).mono ?_); rintro e w' ⟨rfl, ⟨nd, rfl⟩⟩))
          go_roundg k2
          case measure => have := HJ3.out; have := HK2.out; omega
          case rel => exact ⟨(wrap64 (x9_2 + t216)), (wrap64 (x10_2 + 1)), (by first | rfl | (simp; done) | (simp [*]; done)), (by first | rfl | (simp; done) | (simp [*]; done)), H', ⟨by have := HJ3.out; have := HK2.out; omega⟩, ⟨by (with_reducible repeat (first | apply Kd.R_alloc | apply Kd.R_drewN | apply Kd.R_drew)); exact HO_7.out⟩, ⟨by (with_reducible repeat (first | refine yN ?_ _ | refine yD ?_ | refine yA ?_ _)); exact BK209.out⟩, ⟨by repeat (first | (with_reducible first | exact HB.out | apply zA | apply zN | apply zD | refine below_set ?_ GE209.out) | exact HB.out)⟩⟩
        ·rw [if_neg c20] at H
         exact absurd H (by simp)
       ·rw [if_neg c19] at H
        exact absurd H (by simp)
      ·rw [if_neg c17] at H
       exact absurd H (by simp)
     ·rw [if_neg c11] at H
      have c11b0 : decide (x10_2 ≤ 3) = false := decide_eq_false c11
      clear c11
      replace H := Option.bind_eq_some_iff.mp H
      obtain ⟨t228, A570, H⟩ := H
      replace H : ((pred_Test.f k2 t228 y206 (([(⟨(⟨#[97]⟩ : ByteArray), 4, (⟨0, 0, 0, (⟨#[]⟩ : ByteArray)⟩ : S40)⟩ : S43)] : List (S43)))).bind fun bt234 => ((falseworklaw18_cols.f 2).bind fun t236 => ((pred_Test.f k2 t236 y206 (([(⟨(⟨#[98]⟩ : ByteArray), 4, (⟨0, 0, 0, (⟨#[]⟩ : ByteArray)⟩ : S40)⟩ : S43)] : List (S43)))).bind fun bt242 => ((falseworklaw18_cols.f 2).bind fun t244 => ((pred_Test.f k2 t244 y206 (([(⟨(⟨#[97]⟩ : ByteArray), 5, (⟨0, 0, 0, (⟨#[]⟩ : ByteArray)⟩ : S40)⟩ : S43), (⟨(⟨#[98]⟩ : ByteArray), 5, (⟨0, 0, 0, (⟨#[]⟩ : ByteArray)⟩ : S40)⟩ : S43)] : List (S43)))).bind fun bt250 => (if a2 = true then (if bt234.1 = 0 then (if bt242.1 = 1 then (if bt250.1 = 0 then ((falseworklaw18_awake.f k2).bind fun t252 => (some t252)) else (none)) else (none)) else (none)) else (if x9_2 = 1 then (if bt234.1 = 0 then (if bt242.1 = 1 then (if bt250.1 = 0 then ((falseworklaw18_awake.f k2).bind fun t253 => (some t253)) else (none)) else (none)) else (none)) else (none)))))))) = some r := H
      have A57 := Aside0.mk A570
      clear A570
      obtain ⟨y231, hy231⟩ : ∃ y_ : List (S43), y_ = (([(⟨(⟨#[97]⟩ : ByteArray), 4, (⟨0, 0, 0, (⟨#[]⟩ : ByteArray)⟩ : S40)⟩ : S43)] : List (S43))) := ⟨_, rfl⟩
      replace H : ((pred_Test.f k2 t228 y206 y231).bind fun bt234 => ((falseworklaw18_cols.f 2).bind fun t236 => ((pred_Test.f k2 t236 y206 (([(⟨(⟨#[98]⟩ : ByteArray), 4, (⟨0, 0, 0, (⟨#[]⟩ : ByteArray)⟩ : S40)⟩ : S43)] : List (S43)))).bind fun bt242 => ((falseworklaw18_cols.f 2).bind fun t244 => ((pred_Test.f k2 t244 y206 (([(⟨(⟨#[97]⟩ : ByteArray), 5, (⟨0, 0, 0, (⟨#[]⟩ : ByteArray)⟩ : S40)⟩ : S43), (⟨(⟨#[98]⟩ : ByteArray), 5, (⟨0, 0, 0, (⟨#[]⟩ : ByteArray)⟩ : S40)⟩ : S43)] : List (S43)))).bind fun bt250 => (if a2 = true then (if bt234.1 = 0 then (if bt242.1 = 1 then (if bt250.1 = 0 then ((falseworklaw18_awake.f k2).bind fun t252 => (some t252)) else (none)) else (none)) else (none)) else (if x9_2 = 1 then (if bt234.1 = 0 then (if bt242.1 = 1 then (if bt250.1 = 0 then ((falseworklaw18_awake.f k2).bind fun t253 => (some t253)) else (none)) else (none)) else (none)) else (none)))))))) = some r := by first | (rw [hy231]; with_reducible exact H) | (have H2_ := (Option.bind_some _ _).symm.trans H; rw [hy231]; with_reducible exact H2_) | (have H2_ := (Option.bind_some _ _).symm.trans H; with_reducible exact H2_) | with_reducible exact H | (rw [hy231]; exact H) | exact H
      have Ny231 := Aside0.mk hy231
      clear hy231
      replace H := Option.bind_eq_some_iff.mp H
      obtain ⟨⟨t234, t235⟩, A580, H⟩ := H
      replace H : ((falseworklaw18_cols.f 2).bind fun t236 => ((pred_Test.f k2 t236 y206 (([(⟨(⟨#[98]⟩ : ByteArray), 4, (⟨0, 0, 0, (⟨#[]⟩ : ByteArray)⟩ : S40)⟩ : S43)] : List (S43)))).bind fun bt242 => ((falseworklaw18_cols.f 2).bind fun t244 => ((pred_Test.f k2 t244 y206 (([(⟨(⟨#[97]⟩ : ByteArray), 5, (⟨0, 0, 0, (⟨#[]⟩ : ByteArray)⟩ : S40)⟩ : S43), (⟨(⟨#[98]⟩ : ByteArray), 5, (⟨0, 0, 0, (⟨#[]⟩ : ByteArray)⟩ : S40)⟩ : S43)] : List (S43)))).bind fun bt250 => (if a2 = true then (if t234 = 0 then (if bt242.1 = 1 then (if bt250.1 = 0 then ((falseworklaw18_awake.f k2).bind fun t252 => (some t252)) else (none)) else (none)) else (none)) else (if x9_2 = 1 then (if t234 = 0 then (if bt242.1 = 1 then (if bt250.1 = 0 then ((falseworklaw18_awake.f k2).bind fun t253 => (some t253)) else (none)) else (none)) else (none)) else (none))))))) = some r := H
      have A58 := Aside0.mk A580
      clear A580
      replace H := Option.bind_eq_some_iff.mp H
      obtain ⟨t236, A590, H⟩ := H
      replace H : ((pred_Test.f k2 t236 y206 (([(⟨(⟨#[98]⟩ : ByteArray), 4, (⟨0, 0, 0, (⟨#[]⟩ : ByteArray)⟩ : S40)⟩ : S43)] : List (S43)))).bind fun bt242 => ((falseworklaw18_cols.f 2).bind fun t244 => ((pred_Test.f k2 t244 y206 (([(⟨(⟨#[97]⟩ : ByteArray), 5, (⟨0, 0, 0, (⟨#[]⟩ : ByteArray)⟩ : S40)⟩ : S43), (⟨(⟨#[98]⟩ : ByteArray), 5, (⟨0, 0, 0, (⟨#[]⟩ : ByteArray)⟩ : S40)⟩ : S43)] : List (S43)))).bind fun bt250 => (if a2 = true then (if t234 = 0 then (if bt242.1 = 1 then (if bt250.1 = 0 then ((falseworklaw18_awake.f k2).bind fun t252 => (some t252)) else (none)) else (none)) else (none)) else (if x9_2 = 1 then (if t234 = 0 then (if bt242.1 = 1 then (if bt250.1 = 0 then ((falseworklaw18_awake.f k2).bind fun t253 => (some t253)) else (none)) else (none)) else (none)) else (none)))))) = some r := H
      have A59 := Aside0.mk A590
      clear A590
      obtain ⟨y239, hy239⟩ : ∃ y_ : List (S43), y_ = (([(⟨(⟨#[98]⟩ : ByteArray), 4, (⟨0, 0, 0, (⟨#[]⟩ : ByteArray)⟩ : S40)⟩ : S43)] : List (S43))) := ⟨_, rfl⟩
      replace H : ((pred_Test.f k2 t236 y206 y239).bind fun bt242 => ((falseworklaw18_cols.f 2).bind fun t244 => ((pred_Test.f k2 t244 y206 (([(⟨(⟨#[97]⟩ : ByteArray), 5, (⟨0, 0, 0, (⟨#[]⟩ : ByteArray)⟩ : S40)⟩ : S43), (⟨(⟨#[98]⟩ : ByteArray), 5, (⟨0, 0, 0, (⟨#[]⟩ : ByteArray)⟩ : S40)⟩ : S43)] : List (S43)))).bind fun bt250 => (if a2 = true then (if t234 = 0 then (if bt242.1 = 1 then (if bt250.1 = 0 then ((falseworklaw18_awake.f k2).bind fun t252 => (some t252)) else (none)) else (none)) else (none)) else (if x9_2 = 1 then (if t234 = 0 then (if bt242.1 = 1 then (if bt250.1 = 0 then ((falseworklaw18_awake.f k2).bind fun t253 => (some t253)) else (none)) else (none)) else (none)) else (none)))))) = some r := by first | (rw [hy239]; with_reducible exact H) | (have H2_ := (Option.bind_some _ _).symm.trans H; rw [hy239]; with_reducible exact H2_) | (have H2_ := (Option.bind_some _ _).symm.trans H; with_reducible exact H2_) | with_reducible exact H | (rw [hy239]; exact H) | exact H
      have Ny239 := Aside0.mk hy239
      clear hy239
      replace H := Option.bind_eq_some_iff.mp H
      obtain ⟨⟨t242, t243⟩, A600, H⟩ := H
      replace H : ((falseworklaw18_cols.f 2).bind fun t244 => ((pred_Test.f k2 t244 y206 (([(⟨(⟨#[97]⟩ : ByteArray), 5, (⟨0, 0, 0, (⟨#[]⟩ : ByteArray)⟩ : S40)⟩ : S43), (⟨(⟨#[98]⟩ : ByteArray), 5, (⟨0, 0, 0, (⟨#[]⟩ : ByteArray)⟩ : S40)⟩ : S43)] : List (S43)))).bind fun bt250 => (if a2 = true then (if t234 = 0 then (if t242 = 1 then (if bt250.1 = 0 then ((falseworklaw18_awake.f k2).bind fun t252 => (some t252)) else (none)) else (none)) else (none)) else (if x9_2 = 1 then (if t234 = 0 then (if t242 = 1 then (if bt250.1 = 0 then ((falseworklaw18_awake.f k2).bind fun t253 => (some t253)) else (none)) else (none)) else (none)) else (none))))) = some r := H
      have A60 := Aside0.mk A600
      clear A600
      replace H := Option.bind_eq_some_iff.mp H
      obtain ⟨t244, A610, H⟩ := H
      replace H : ((pred_Test.f k2 t244 y206 (([(⟨(⟨#[97]⟩ : ByteArray), 5, (⟨0, 0, 0, (⟨#[]⟩ : ByteArray)⟩ : S40)⟩ : S43), (⟨(⟨#[98]⟩ : ByteArray), 5, (⟨0, 0, 0, (⟨#[]⟩ : ByteArray)⟩ : S40)⟩ : S43)] : List (S43)))).bind fun bt250 => (if a2 = true then (if t234 = 0 then (if t242 = 1 then (if bt250.1 = 0 then ((falseworklaw18_awake.f k2).bind fun t252 => (some t252)) else (none)) else (none)) else (none)) else (if x9_2 = 1 then (if t234 = 0 then (if t242 = 1 then (if bt250.1 = 0 then ((falseworklaw18_awake.f k2).bind fun t253 => (some t253)) else (none)) else (none)) else (none)) else (none)))) = some r := H
      have A61 := Aside0.mk A610
      clear A610
      obtain ⟨y247, hy247⟩ : ∃ y_ : List (S43), y_ = (([(⟨(⟨#[97]⟩ : ByteArray), 5, (⟨0, 0, 0, (⟨#[]⟩ : ByteArray)⟩ : S40)⟩ : S43), (⟨(⟨#[98]⟩ : ByteArray), 5, (⟨0, 0, 0, (⟨#[]⟩ : ByteArray)⟩ : S40)⟩ : S43)] : List (S43))) := ⟨_, rfl⟩
      replace H : ((pred_Test.f k2 t244 y206 y247).bind fun bt250 => (if a2 = true then (if t234 = 0 then (if t242 = 1 then (if bt250.1 = 0 then ((falseworklaw18_awake.f k2).bind fun t252 => (some t252)) else (none)) else (none)) else (none)) else (if x9_2 = 1 then (if t234 = 0 then (if t242 = 1 then (if bt250.1 = 0 then ((falseworklaw18_awake.f k2).bind fun t253 => (some t253)) else (none)) else (none)) else (none)) else (none)))) = some r := by first | (rw [hy247]; with_reducible exact H) | (have H2_ := (Option.bind_some _ _).symm.trans H; rw [hy247]; with_reducible exact H2_) | (have H2_ := (Option.bind_some _ _).symm.trans H; with_reducible exact H2_) | with_reducible exact H | (rw [hy247]; exact H) | exact H
      have Ny247 := Aside0.mk hy247
      clear hy247
      replace H := Option.bind_eq_some_iff.mp H
      obtain ⟨⟨t250, t251⟩, A620, H⟩ := H
      replace H : (if a2 = true then (if t234 = 0 then (if t242 = 1 then (if t250 = 0 then ((falseworklaw18_awake.f k2).bind fun t252 => (some t252)) else (none)) else (none)) else (none)) else (if x9_2 = 1 then (if t234 = 0 then (if t242 = 1 then (if t250 = 0 then ((falseworklaw18_awake.f k2).bind fun t253 => (some t253)) else (none)) else (none)) else (none)) else (none))) = some r := H
      have A62 := Aside0.mk A620
      clear A620
      by_cases c63 : a2 = true
      ·subst c63
       have H1 : (if t234 = 0 then (if t242 = 1 then (if t250 = 0 then ((falseworklaw18_awake.f k2).bind fun t252 => (some t252)) else (none)) else (none)) else (none)) = some r := by rw [if_pos rfl] at H; exact H
       clear H
       have H := H1
       clear H1
       by_cases c64 : t234 = 0
       ·rw [if_pos c64] at H
        have c64b0 : (t234 == 0) = true := beq_iff_eq.mpr c64
        have c64b1 : (t234 != 0) = false := bne_eq_false_iff_eq.mpr c64
        clear c64
        by_cases c65 : t242 = 1
        ·rw [if_pos c65] at H
         have c65b0 : (t242 == 1) = true := beq_iff_eq.mpr c65
         have c65b1 : (t242 != 1) = false := bne_eq_false_iff_eq.mpr c65
         clear c65
         by_cases c66 : t250 = 0
         ·rw [if_pos c66] at H
          have c66b0 : (t250 == 0) = true := beq_iff_eq.mpr c66
          have c66b1 : (t250 != 0) = false := bne_eq_false_iff_eq.mpr c66
          clear c66
          replace H := Option.bind_eq_some_iff.mp H
          obtain ⟨t252, A670, H⟩ := H
          replace H : (some t252) = some r := H
          have A67 := Aside0.mk A670
          clear A670
          obtain rfl := Option.some.inj H
          go_wp2_with (first | ((with_reducible refine gate_callee (f := 15) rfl ?_); refine goesL_ (some 76) rfl rfl Try.func15 (by kernel_rfl) rfl #[.int .i64 2] rfl (by (try simp only [List.map_toArray, List.map_cons, List.map_nil]); first | done | rfl | (simp only [List.length_drop, List.length_take]; rfl)) ?_; (with_reducible refine (falseworklaw18_cols.calls 2 t228 _ A57.out).mono ?_); rintro e w68 ⟨v229, rfl, ho0, hb⟩; refine ⟨_, rfl, ?_⟩; have n0_ := Aside0.mk (Kd.R_below (by (with_reducible repeat (first | apply Kd.R_alloc | apply Kd.R_drewN | apply Kd.R_drew)); exact HO_7.out) hb); have n1_ := Aside0.mk (Kd.R_lower ho0 (zZ (by repeat (first | (with_reducible first | exact HB.out | apply zA | apply zN | apply zD | refine below_set ?_ GE209.out) | exact HB.out)))); have n2_ := Aside0.mk (yB (g := gb209) (o := .cells #[.int .i64 x210000_3, .int .i64 x210001_3, .int .u64 x210002_3, .string x210003_3] 40 (0, 0)) (by (with_reducible repeat (first | refine yN ?_ _ | refine yD ?_ | refine yA ?_ _)); exact BK209.out) hb); have n3_ := Aside0.mk (zS (by repeat (first | (with_reducible first | exact HB.out | apply zA | apply zN | apply zD | refine below_set ?_ GE209.out) | exact HB.out)) hb); clear HO_7; clear BK209; clear HB; have HO_7 := n0_; have HO230 := n1_; have BK209 := n2_; have HB := n3_; clear n0_ n1_ n2_ n3_; (try clear hb); (try clear hb2); (try clear hk); (try clear hi); (try clear ho0)) | ((with_reducible refine gate_dst (N := 79) rfl ?_); refine Kd.R_lit k43 _ 43 ?hg (N := 79) ?hd (xs := ([(⟨(⟨#[97]⟩ : ByteArray), 4, (⟨0, 0, 0, (⟨#[]⟩ : ByteArray)⟩ : S40)⟩ : S43)] : List (S43))) (inner := [.string (⟨#[97]⟩ : ByteArray), .int .i64 4, .int .i64 0, .int .i64 0, .int .u64 0, .string (⟨#[]⟩ : ByteArray)]) (ok := fun _ => True) (okp := fun _ => True) ?hr ?hp (fun _ hk => hk) trivial (Below.refl _ _) (Nat.le_refl _) (by simp) ?_; (case hd => rfl); (case hg => rfl); (case hr => first | (go_simp; done) | (go_simp; rfl)); (case hp => exact (Reps.c6 (show Kd.M k43 _ _ _ (⟨(⟨#[97]⟩ : ByteArray), 4, (⟨0, 0, 0, (⟨#[]⟩ : ByteArray)⟩ : S40)⟩ : S43) [.string (⟨#[97]⟩ : ByteArray), .int .i64 4, .int .i64 0, .int .i64 0, .int .u64 0, .string (⟨#[]⟩ : ByteArray)] from (k43_mkM _ _ _ (⟨(⟨#[97]⟩ : ByteArray), 4, (⟨0, 0, 0, (⟨#[]⟩ : ByteArray)⟩ : S40)⟩ : S43) )) (Reps.none _ _))); intro v232 w69 ho70 hb hg_ hnew_; clear hg_ hnew_; (first | rw [← Ny231.out] at ho70 | (simp only [Int.reduceToNat] at ho70; rw [← Ny231.out] at ho70)); have n0_ := Aside0.mk (Kd.R_below (by (with_reducible repeat (first | apply Kd.R_alloc | apply Kd.R_drewN | apply Kd.R_drew)); exact HO_7.out) hb); have n1_ := Aside0.mk (Kd.R_below (by (with_reducible repeat (first | apply Kd.R_alloc | apply Kd.R_drewN | apply Kd.R_drew)); exact HO230.out) hb); have n2_ := Aside0.mk (Kd.R_lower ho70 (zZ (by repeat (first | (with_reducible first | exact HB.out | apply zA | apply zN | apply zD | refine below_set ?_ GE209.out) | exact HB.out)))); have n3_ := Aside0.mk (yB (g := gb209) (o := .cells #[.int .i64 x210000_3, .int .i64 x210001_3, .int .u64 x210002_3, .string x210003_3] 40 (0, 0)) (by (with_reducible repeat (first | refine yN ?_ _ | refine yD ?_ | refine yA ?_ _)); exact BK209.out) hb); have n4_ := Aside0.mk (zS (by repeat (first | (with_reducible first | exact HB.out | apply zA | apply zN | apply zD | refine below_set ?_ GE209.out) | exact HB.out)) hb); clear HO_7; clear HO230; clear BK209; clear HB; have HO_7 := n0_; have HO230 := n1_; have HO233 := n2_; have BK209 := n3_; have HB := n4_; clear n0_ n1_ n2_ n3_ n4_; clear hb ho70; obtain ⟨Ao71, co71, eo71⟩ := Kd.R_slice HO230.out; subst eo71; obtain ⟨Ao72, co72, eo72⟩ := Kd.R_slice HO_7.out; subst eo72; obtain ⟨Ao73, co73, eo73⟩ := Kd.R_slice HO233.out; subst eo73) | ((with_reducible refine gate_callee (f := 13) rfl ?_); refine goesL_ (some 80) rfl rfl Try.func13 (by kernel_rfl) rfl #[.slice Ao71 t228.length co71, .slice Ao72 y206.length co72, .slice Ao73 y231.length co73] rfl (by (try simp only [List.map_toArray, List.map_cons, List.map_nil]); first | done | rfl | (simp only [List.length_drop, List.length_take]; rfl)) ?_; (with_reducible refine (pred_Test.calls k2 _ _ t228 _ _ y206 _ _ y231 t234 t235 _ ?side1 ?side2 ?side3 ?side4 ?side5 ?side6 A58.out).mono ?_); (case side1 => repeat (first | exact (Kd.R_reads' HO230.out).2.2 | (with_reducible refine Kd.C_alloc ?_ _) | (with_reducible refine Kd.C_drewN ?_ _) | (with_reducible refine Kd.C_drew ?_))); (case side2 => exact (Kd.R_reads' HO230.out).2.1); (case side3 => repeat (first | exact (Kd.R_reads' HO_7.out).2.2 | (with_reducible refine Kd.C_alloc ?_ _) | (with_reducible refine Kd.C_drewN ?_ _) | (with_reducible refine Kd.C_drew ?_))); (case side4 => exact (Kd.R_reads' HO_7.out).2.1); (case side5 => repeat (first | exact (Kd.R_reads' HO233.out).2.2 | (with_reducible refine Kd.C_alloc ?_ _) | (with_reducible refine Kd.C_drewN ?_ _) | (with_reducible refine Kd.C_drew ?_))); (case side6 => exact (Kd.R_reads' HO233.out).2.1); rintro e w74 ⟨rfl, hb⟩; refine ⟨_, rfl, ?_⟩; have n0_ := Aside0.mk (Kd.R_below (by (with_reducible repeat (first | apply Kd.R_alloc | apply Kd.R_drewN | apply Kd.R_drew)); exact HO_7.out) hb); have n1_ := Aside0.mk (Kd.R_below (by (with_reducible repeat (first | apply Kd.R_alloc | apply Kd.R_drewN | apply Kd.R_drew)); exact HO230.out) hb); have n2_ := Aside0.mk (Kd.R_below (by (with_reducible repeat (first | apply Kd.R_alloc | apply Kd.R_drewN | apply Kd.R_drew)); exact HO233.out) hb); have n3_ := Aside0.mk (yB (g := gb209) (o := .cells #[.int .i64 x210000_3, .int .i64 x210001_3, .int .u64 x210002_3, .string x210003_3] 40 (0, 0)) (by (with_reducible repeat (first | refine yN ?_ _ | refine yD ?_ | refine yA ?_ _)); exact BK209.out) hb); have n4_ := Aside0.mk (zS (by repeat (first | (with_reducible first | exact HB.out | apply zA | apply zN | apply zD | refine below_set ?_ GE209.out) | exact HB.out)) hb); clear HO_7; clear HO230; clear HO233; clear BK209; clear HB; have HO_7 := n0_; have HO230 := n1_; have HO233 := n2_; have BK209 := n3_; have HB := n4_; clear n0_ n1_ n2_ n3_ n4_; (try clear hb); (try clear hb2); (try clear hk); (try clear hi)) | ((with_reducible refine gate_callee (f := 15) rfl ?_); refine goesL_ (some 84) rfl rfl Try.func15 (by kernel_rfl) rfl #[.int .i64 2] rfl (by (try simp only [List.map_toArray, List.map_cons, List.map_nil]); first | done | rfl | (simp only [List.length_drop, List.length_take]; rfl)) ?_; (with_reducible refine (falseworklaw18_cols.calls 2 t236 _ A59.out).mono ?_); rintro e w75 ⟨v237, rfl, ho0, hb⟩; refine ⟨_, rfl, ?_⟩; have n0_ := Aside0.mk (Kd.R_below (by (with_reducible repeat (first | apply Kd.R_alloc | apply Kd.R_drewN | apply Kd.R_drew)); exact HO_7.out) hb); have n1_ := Aside0.mk (Kd.R_elder' (by (with_reducible repeat (first | apply Kd.R_alloc | apply Kd.R_drewN | apply Kd.R_drew)); exact HO230.out) (Kd.R_base ho0) hb); have n2_ := Aside0.mk (Kd.R_below (by (with_reducible repeat (first | apply Kd.R_alloc | apply Kd.R_drewN | apply Kd.R_drew)); exact HO233.out) hb); have n3_ := Aside0.mk (Kd.R_lower (Kd.R_new' ho0 (Kd.R_lt (by (with_reducible repeat (first | apply Kd.R_alloc | apply Kd.R_drewN | apply Kd.R_drew)); exact HO230.out))) (zZ (by repeat (first | (with_reducible first | exact HB.out | apply zA | apply zN | apply zD | refine below_set ?_ GE209.out) | exact HB.out)))); have n4_ := Aside0.mk (yB (g := gb209) (o := .cells #[.int .i64 x210000_3, .int .i64 x210001_3, .int .u64 x210002_3, .string x210003_3] 40 (0, 0)) (by (with_reducible repeat (first | refine yN ?_ _ | refine yD ?_ | refine yA ?_ _)); exact BK209.out) hb); have n5_ := Aside0.mk (zS (by repeat (first | (with_reducible first | exact HB.out | apply zA | apply zN | apply zD | refine below_set ?_ GE209.out) | exact HB.out)) hb); clear HO_7; clear HO230; clear HO233; clear BK209; clear HB; have HO_7 := n0_; have HO230 := n1_; have HO233 := n2_; have HO238 := n3_; have BK209 := n4_; have HB := n5_; clear n0_ n1_ n2_ n3_ n4_ n5_; (try clear hb); (try clear hb2); (try clear hk); (try clear hi); (try clear ho0)) | ((with_reducible refine gate_dst (N := 87) rfl ?_); refine Kd.R_lit k43 _ 43 ?hg (N := 87) ?hd (xs := ([(⟨(⟨#[98]⟩ : ByteArray), 4, (⟨0, 0, 0, (⟨#[]⟩ : ByteArray)⟩ : S40)⟩ : S43)] : List (S43))) (inner := [.string (⟨#[98]⟩ : ByteArray), .int .i64 4, .int .i64 0, .int .i64 0, .int .u64 0, .string (⟨#[]⟩ : ByteArray)]) (ok := fun _ => True) (okp := fun _ => True) ?hr ?hp (fun _ hk => hk) trivial (Below.refl _ _) (Nat.le_refl _) (by simp) ?_; (case hd => rfl); (case hg => rfl); (case hr => first | (go_simp; done) | (go_simp; rfl)); (case hp => exact (Reps.c6 (show Kd.M k43 _ _ _ (⟨(⟨#[98]⟩ : ByteArray), 4, (⟨0, 0, 0, (⟨#[]⟩ : ByteArray)⟩ : S40)⟩ : S43) [.string (⟨#[98]⟩ : ByteArray), .int .i64 4, .int .i64 0, .int .i64 0, .int .u64 0, .string (⟨#[]⟩ : ByteArray)] from (k43_mkM _ _ _ (⟨(⟨#[98]⟩ : ByteArray), 4, (⟨0, 0, 0, (⟨#[]⟩ : ByteArray)⟩ : S40)⟩ : S43) )) (Reps.none _ _))); intro v240 w76 ho77 hb hg_ hnew_; clear hg_ hnew_; (first | rw [← Ny239.out] at ho77 | (simp only [Int.reduceToNat] at ho77; rw [← Ny239.out] at ho77)); have n0_ := Aside0.mk (Kd.R_below (by (with_reducible repeat (first | apply Kd.R_alloc | apply Kd.R_drewN | apply Kd.R_drew)); exact HO_7.out) hb); have n1_ := Aside0.mk (Kd.R_below (by (with_reducible repeat (first | apply Kd.R_alloc | apply Kd.R_drewN | apply Kd.R_drew)); exact HO230.out) hb); have n2_ := Aside0.mk (Kd.R_elder' (by (with_reducible repeat (first | apply Kd.R_alloc | apply Kd.R_drewN | apply Kd.R_drew)); exact HO233.out) (Kd.R_base ho77) hb); have n3_ := Aside0.mk (Kd.R_below (by (with_reducible repeat (first | apply Kd.R_alloc | apply Kd.R_drewN | apply Kd.R_drew)); exact HO238.out) hb); have n4_ := Aside0.mk (Kd.R_lower (Kd.R_new' ho77 (Kd.R_lt (by (with_reducible repeat (first | apply Kd.R_alloc | apply Kd.R_drewN | apply Kd.R_drew)); exact HO233.out))) (zZ (by repeat (first | (with_reducible first | exact HB.out | apply zA | apply zN | apply zD | refine below_set ?_ GE209.out) | exact HB.out)))); have n5_ := Aside0.mk (yB (g := gb209) (o := .cells #[.int .i64 x210000_3, .int .i64 x210001_3, .int .u64 x210002_3, .string x210003_3] 40 (0, 0)) (by (with_reducible repeat (first | refine yN ?_ _ | refine yD ?_ | refine yA ?_ _)); exact BK209.out) hb); have n6_ := Aside0.mk (zS (by repeat (first | (with_reducible first | exact HB.out | apply zA | apply zN | apply zD | refine below_set ?_ GE209.out) | exact HB.out)) hb); clear HO_7; clear HO230; clear HO233; clear HO238; clear BK209; clear HB; have HO_7 := n0_; have HO230 := n1_; have HO233 := n2_; have HO238 := n3_; have HO241 := n4_; have BK209 := n5_; have HB := n6_; clear n0_ n1_ n2_ n3_ n4_ n5_ n6_; clear hb ho77; obtain ⟨Ao78, co78, eo78⟩ := Kd.R_slice HO238.out; subst eo78; obtain ⟨Ao79, co79, eo79⟩ := Kd.R_slice HO241.out; subst eo79) | ((with_reducible refine gate_callee (f := 13) rfl ?_); refine goesL_ (some 88) rfl rfl Try.func13 (by kernel_rfl) rfl #[.slice Ao78 t236.length co78, .slice Ao72 y206.length co72, .slice Ao79 y239.length co79] rfl (by (try simp only [List.map_toArray, List.map_cons, List.map_nil]); first | done | rfl | (simp only [List.length_drop, List.length_take]; rfl)) ?_; (with_reducible refine (pred_Test.calls k2 _ _ t236 _ _ y206 _ _ y239 t242 t243 _ ?side1 ?side2 ?side3 ?side4 ?side5 ?side6 A60.out).mono ?_); (case side1 => repeat (first | exact (Kd.R_reads' HO238.out).2.2 | (with_reducible refine Kd.C_alloc ?_ _) | (with_reducible refine Kd.C_drewN ?_ _) | (with_reducible refine Kd.C_drew ?_))); (case side2 => exact (Kd.R_reads' HO238.out).2.1); (case side3 => repeat (first | exact (Kd.R_reads' HO_7.out).2.2 | (with_reducible refine Kd.C_alloc ?_ _) | (with_reducible refine Kd.C_drewN ?_ _) | (with_reducible refine Kd.C_drew ?_))); (case side4 => exact (Kd.R_reads' HO_7.out).2.1); (case side5 => repeat (first | exact (Kd.R_reads' HO241.out).2.2 | (with_reducible refine Kd.C_alloc ?_ _) | (with_reducible refine Kd.C_drewN ?_ _) | (with_reducible refine Kd.C_drew ?_))); (case side6 => exact (Kd.R_reads' HO241.out).2.1); rintro e w80 ⟨rfl, hb⟩; refine ⟨_, rfl, ?_⟩; have n0_ := Aside0.mk (Kd.R_below (by (with_reducible repeat (first | apply Kd.R_alloc | apply Kd.R_drewN | apply Kd.R_drew)); exact HO_7.out) hb); have n1_ := Aside0.mk (Kd.R_below (by (with_reducible repeat (first | apply Kd.R_alloc | apply Kd.R_drewN | apply Kd.R_drew)); exact HO230.out) hb); have n2_ := Aside0.mk (Kd.R_below (by (with_reducible repeat (first | apply Kd.R_alloc | apply Kd.R_drewN | apply Kd.R_drew)); exact HO233.out) hb); have n3_ := Aside0.mk (Kd.R_below (by (with_reducible repeat (first | apply Kd.R_alloc | apply Kd.R_drewN | apply Kd.R_drew)); exact HO238.out) hb); have n4_ := Aside0.mk (Kd.R_below (by (with_reducible repeat (first | apply Kd.R_alloc | apply Kd.R_drewN | apply Kd.R_drew)); exact HO241.out) hb); have n5_ := Aside0.mk (yB (g := gb209) (o := .cells #[.int .i64 x210000_3, .int .i64 x210001_3, .int .u64 x210002_3, .string x210003_3] 40 (0, 0)) (by (with_reducible repeat (first | refine yN ?_ _ | refine yD ?_ | refine yA ?_ _)); exact BK209.out) hb); have n6_ := Aside0.mk (zS (by repeat (first | (with_reducible first | exact HB.out | apply zA | apply zN | apply zD | refine below_set ?_ GE209.out) | exact HB.out)) hb); clear HO_7; clear HO230; clear HO233; clear HO238; clear HO241; clear BK209; clear HB; have HO_7 := n0_; have HO230 := n1_; have HO233 := n2_; have HO238 := n3_; have HO241 := n4_; have BK209 := n5_; have HB := n6_; clear n0_ n1_ n2_ n3_ n4_ n5_ n6_; (try clear hb); (try clear hb2); (try clear hk); (try clear hi)) | ((with_reducible refine gate_callee (f := 15) rfl ?_); refine goesL_ (some 92) rfl rfl Try.func15 (by kernel_rfl) rfl #[.int .i64 2] rfl (by (try simp only [List.map_toArray, List.map_cons, List.map_nil]); first | done | rfl | (simp only [List.length_drop, List.length_take]; rfl)) ?_; (with_reducible refine (falseworklaw18_cols.calls 2 t244 _ A61.out).mono ?_); rintro e w81 ⟨v245, rfl, ho0, hb⟩; refine ⟨_, rfl, ?_⟩; have n0_ := Aside0.mk (Kd.R_below (by (with_reducible repeat (first | apply Kd.R_alloc | apply Kd.R_drewN | apply Kd.R_drew)); exact HO_7.out) hb); have n1_ := Aside0.mk (Kd.R_elder' (by (with_reducible repeat (first | apply Kd.R_alloc | apply Kd.R_drewN | apply Kd.R_drew)); exact HO230.out) (Kd.R_base ho0) hb); have n2_ := Aside0.mk (Kd.R_below (by (with_reducible repeat (first | apply Kd.R_alloc | apply Kd.R_drewN | apply Kd.R_drew)); exact HO233.out) hb); have n3_ := Aside0.mk (Kd.R_elder' (by (with_reducible repeat (first | apply Kd.R_alloc | apply Kd.R_drewN | apply Kd.R_drew)); exact HO238.out) (Kd.R_base ho0) hb); have n4_ := Aside0.mk (Kd.R_below (by (with_reducible repeat (first | apply Kd.R_alloc | apply Kd.R_drewN | apply Kd.R_drew)); exact HO241.out) hb); have n5_ := Aside0.mk (Kd.R_lower (Kd.R_new' (Kd.R_new' ho0 (Kd.R_lt (by (with_reducible repeat (first | apply Kd.R_alloc | apply Kd.R_drewN | apply Kd.R_drew)); exact HO230.out))) (Kd.R_lt (by (with_reducible repeat (first | apply Kd.R_alloc | apply Kd.R_drewN | apply Kd.R_drew)); exact HO238.out))) (zZ (by repeat (first | (with_reducible first | exact HB.out | apply zA | apply zN | apply zD | refine below_set ?_ GE209.out) | exact HB.out)))); have n6_ := Aside0.mk (yB (g := gb209) (o := .cells #[.int .i64 x210000_3, .int .i64 x210001_3, .int .u64 x210002_3, .string x210003_3] 40 (0, 0)) (by (with_reducible repeat (first | refine yN ?_ _ | refine yD ?_ | refine yA ?_ _)); exact BK209.out) hb); have n7_ := Aside0.mk (zS (by repeat (first | (with_reducible first | exact HB.out | apply zA | apply zN | apply zD | refine below_set ?_ GE209.out) | exact HB.out)) hb); clear HO_7; clear HO230; clear HO233; clear HO238; clear HO241; clear BK209; clear HB; have HO_7 := n0_; have HO230 := n1_; have HO233 := n2_; have HO238 := n3_; have HO241 := n4_; have HO246 := n5_; have BK209 := n6_; have HB := n7_; clear n0_ n1_ n2_ n3_ n4_ n5_ n6_ n7_; (try clear hb); (try clear hb2); (try clear hk); (try clear hi); (try clear ho0)) | ((with_reducible refine gate_dst (N := 96) rfl ?_); refine Kd.R_lit k43 _ 43 ?hg (N := 96) ?hd (xs := ([(⟨(⟨#[97]⟩ : ByteArray), 5, (⟨0, 0, 0, (⟨#[]⟩ : ByteArray)⟩ : S40)⟩ : S43), (⟨(⟨#[98]⟩ : ByteArray), 5, (⟨0, 0, 0, (⟨#[]⟩ : ByteArray)⟩ : S40)⟩ : S43)] : List (S43))) (inner := [.string (⟨#[97]⟩ : ByteArray), .int .i64 5, .int .i64 0, .int .i64 0, .int .u64 0, .string (⟨#[]⟩ : ByteArray), .string (⟨#[98]⟩ : ByteArray), .int .i64 5, .int .i64 0, .int .i64 0, .int .u64 0, .string (⟨#[]⟩ : ByteArray)]) (ok := fun _ => True) (okp := fun _ => True) ?hr ?hp (fun _ hk => hk) trivial (Below.refl _ _) (Nat.le_refl _) (by simp) ?_; (case hd => rfl); (case hg => rfl); (case hr => first | (go_simp; done) | (go_simp; rfl)); (case hp => exact (Reps.c6 (show Kd.M k43 _ _ _ (⟨(⟨#[97]⟩ : ByteArray), 5, (⟨0, 0, 0, (⟨#[]⟩ : ByteArray)⟩ : S40)⟩ : S43) [.string (⟨#[97]⟩ : ByteArray), .int .i64 5, .int .i64 0, .int .i64 0, .int .u64 0, .string (⟨#[]⟩ : ByteArray)] from (k43_mkM _ _ _ (⟨(⟨#[97]⟩ : ByteArray), 5, (⟨0, 0, 0, (⟨#[]⟩ : ByteArray)⟩ : S40)⟩ : S43) )) (Reps.c6 (show Kd.M k43 _ _ _ (⟨(⟨#[98]⟩ : ByteArray), 5, (⟨0, 0, 0, (⟨#[]⟩ : ByteArray)⟩ : S40)⟩ : S43) [.string (⟨#[98]⟩ : ByteArray), .int .i64 5, .int .i64 0, .int .i64 0, .int .u64 0, .string (⟨#[]⟩ : ByteArray)] from (k43_mkM _ _ _ (⟨(⟨#[98]⟩ : ByteArray), 5, (⟨0, 0, 0, (⟨#[]⟩ : ByteArray)⟩ : S40)⟩ : S43) )) (Reps.none _ _)))); intro v248 w82 ho83 hb hg_ hnew_; clear hg_ hnew_; (first | rw [← Ny247.out] at ho83 | (simp only [Int.reduceToNat] at ho83; rw [← Ny247.out] at ho83)); have n0_ := Aside0.mk (Kd.R_below (by (with_reducible repeat (first | apply Kd.R_alloc | apply Kd.R_drewN | apply Kd.R_drew)); exact HO_7.out) hb); have n1_ := Aside0.mk (Kd.R_below (by (with_reducible repeat (first | apply Kd.R_alloc | apply Kd.R_drewN | apply Kd.R_drew)); exact HO230.out) hb); have n2_ := Aside0.mk (Kd.R_elder' (by (with_reducible repeat (first | apply Kd.R_alloc | apply Kd.R_drewN | apply Kd.R_drew)); exact HO233.out) (Kd.R_base ho83) hb); have n3_ := Aside0.mk (Kd.R_below (by (with_reducible repeat (first | apply Kd.R_alloc | apply Kd.R_drewN | apply Kd.R_drew)); exact HO238.out) hb); have n4_ := Aside0.mk (Kd.R_elder' (by (with_reducible repeat (first | apply Kd.R_alloc | apply Kd.R_drewN | apply Kd.R_drew)); exact HO241.out) (Kd.R_base ho83) hb); have n5_ := Aside0.mk (Kd.R_below (by (with_reducible repeat (first | apply Kd.R_alloc | apply Kd.R_drewN | apply Kd.R_drew)); exact HO246.out) hb); have n6_ := Aside0.mk (Kd.R_lower (Kd.R_new' (Kd.R_new' ho83 (Kd.R_lt (by (with_reducible repeat (first | apply Kd.R_alloc | apply Kd.R_drewN | apply Kd.R_drew)); exact HO233.out))) (Kd.R_lt (by (with_reducible repeat (first | apply Kd.R_alloc | apply Kd.R_drewN | apply Kd.R_drew)); exact HO241.out))) (zZ (by repeat (first | (with_reducible first | exact HB.out | apply zA | apply zN | apply zD | refine below_set ?_ GE209.out) | exact HB.out)))); have n7_ := Aside0.mk (yB (g := gb209) (o := .cells #[.int .i64 x210000_3, .int .i64 x210001_3, .int .u64 x210002_3, .string x210003_3] 40 (0, 0)) (by (with_reducible repeat (first | refine yN ?_ _ | refine yD ?_ | refine yA ?_ _)); exact BK209.out) hb); have n8_ := Aside0.mk (zS (by repeat (first | (with_reducible first | exact HB.out | apply zA | apply zN | apply zD | refine below_set ?_ GE209.out) | exact HB.out)) hb); clear HO_7; clear HO230; clear HO233; clear HO238; clear HO241; clear HO246; clear BK209; clear HB; have HO_7 := n0_; have HO230 := n1_; have HO233 := n2_; have HO238 := n3_; have HO241 := n4_; have HO246 := n5_; have HO249 := n6_; have BK209 := n7_; have HB := n8_; clear n0_ n1_ n2_ n3_ n4_ n5_ n6_ n7_ n8_; clear hb ho83; obtain ⟨Ao84, co84, eo84⟩ := Kd.R_slice HO246.out; subst eo84; obtain ⟨Ao85, co85, eo85⟩ := Kd.R_slice HO249.out; subst eo85) | ((with_reducible refine gate_callee (f := 13) rfl ?_); refine goesL_ (some 97) rfl rfl Try.func13 (by kernel_rfl) rfl #[.slice Ao84 t244.length co84, .slice Ao72 y206.length co72, .slice Ao85 y247.length co85] rfl (by (try simp only [List.map_toArray, List.map_cons, List.map_nil]); first | done | rfl | (simp only [List.length_drop, List.length_take]; rfl)) ?_; (with_reducible refine (pred_Test.calls k2 _ _ t244 _ _ y206 _ _ y247 t250 t251 _ ?side1 ?side2 ?side3 ?side4 ?side5 ?side6 A62.out).mono ?_); (case side1 => repeat (first | exact (Kd.R_reads' HO246.out).2.2 | (with_reducible refine Kd.C_alloc ?_ _) | (with_reducible refine Kd.C_drewN ?_ _) | (with_reducible refine Kd.C_drew ?_))); (case side2 => exact (Kd.R_reads' HO246.out).2.1); (case side3 => repeat (first | exact (Kd.R_reads' HO_7.out).2.2 | (with_reducible refine Kd.C_alloc ?_ _) | (with_reducible refine Kd.C_drewN ?_ _) | (with_reducible refine Kd.C_drew ?_))); (case side4 => exact (Kd.R_reads' HO_7.out).2.1); (case side5 => repeat (first | exact (Kd.R_reads' HO249.out).2.2 | (with_reducible refine Kd.C_alloc ?_ _) | (with_reducible refine Kd.C_drewN ?_ _) | (with_reducible refine Kd.C_drew ?_))); (case side6 => exact (Kd.R_reads' HO249.out).2.1); rintro e w86 ⟨rfl, hb⟩; refine ⟨_, rfl, ?_⟩; have n0_ := Aside0.mk (Kd.R_below (by (with_reducible repeat (first | apply Kd.R_alloc | apply Kd.R_drewN | apply Kd.R_drew)); exact HO_7.out) hb); have n1_ := Aside0.mk (Kd.R_below (by (with_reducible repeat (first | apply Kd.R_alloc | apply Kd.R_drewN | apply Kd.R_drew)); exact HO230.out) hb); have n2_ := Aside0.mk (Kd.R_below (by (with_reducible repeat (first | apply Kd.R_alloc | apply Kd.R_drewN | apply Kd.R_drew)); exact HO233.out) hb); have n3_ := Aside0.mk (Kd.R_below (by (with_reducible repeat (first | apply Kd.R_alloc | apply Kd.R_drewN | apply Kd.R_drew)); exact HO238.out) hb); have n4_ := Aside0.mk (Kd.R_below (by (with_reducible repeat (first | apply Kd.R_alloc | apply Kd.R_drewN | apply Kd.R_drew)); exact HO241.out) hb); have n5_ := Aside0.mk (Kd.R_below (by (with_reducible repeat (first | apply Kd.R_alloc | apply Kd.R_drewN | apply Kd.R_drew)); exact HO246.out) hb); have n6_ := Aside0.mk (Kd.R_below (by (with_reducible repeat (first | apply Kd.R_alloc | apply Kd.R_drewN | apply Kd.R_drew)); exact HO249.out) hb); have n7_ := Aside0.mk (yB (g := gb209) (o := .cells #[.int .i64 x210000_3, .int .i64 x210001_3, .int .u64 x210002_3, .string x210003_3] 40 (0, 0)) (by (with_reducible repeat (first | refine yN ?_ _ | refine yD ?_ | refine yA ?_ _)); exact BK209.out) hb); have n8_ := Aside0.mk (zS (by repeat (first | (with_reducible first | exact HB.out | apply zA | apply zN | apply zD | refine below_set ?_ GE209.out) | exact HB.out)) hb); clear HO_7; clear HO230; clear HO233; clear HO238; clear HO241; clear HO246; clear HO249; clear BK209; clear HB; have HO_7 := n0_; have HO230 := n1_; have HO233 := n2_; have HO238 := n3_; have HO241 := n4_; have HO246 := n5_; have HO249 := n6_; have BK209 := n7_; have HB := n8_; clear n0_ n1_ n2_ n3_ n4_ n5_ n6_ n7_ n8_; (try clear hb); (try clear hb2); (try clear hk); (try clear hi)) | (go_at_call 12; (with_reducible refine (falseworklaw18_awake.calls k2  t252 _ A67.out).mono ?_); rintro e w87 ⟨rfl, hb⟩; have n0_ := Aside0.mk (Kd.R_below (by (with_reducible repeat (first | apply Kd.R_alloc | apply Kd.R_drewN | apply Kd.R_drew)); exact HO_7.out) hb); have n1_ := Aside0.mk (Kd.R_below (by (with_reducible repeat (first | apply Kd.R_alloc | apply Kd.R_drewN | apply Kd.R_drew)); exact HO230.out) hb); have n2_ := Aside0.mk (Kd.R_below (by (with_reducible repeat (first | apply Kd.R_alloc | apply Kd.R_drewN | apply Kd.R_drew)); exact HO233.out) hb); have n3_ := Aside0.mk (Kd.R_below (by (with_reducible repeat (first | apply Kd.R_alloc | apply Kd.R_drewN | apply Kd.R_drew)); exact HO238.out) hb); have n4_ := Aside0.mk (Kd.R_below (by (with_reducible repeat (first | apply Kd.R_alloc | apply Kd.R_drewN | apply Kd.R_drew)); exact HO241.out) hb); have n5_ := Aside0.mk (Kd.R_below (by (with_reducible repeat (first | apply Kd.R_alloc | apply Kd.R_drewN | apply Kd.R_drew)); exact HO246.out) hb); have n6_ := Aside0.mk (Kd.R_below (by (with_reducible repeat (first | apply Kd.R_alloc | apply Kd.R_drewN | apply Kd.R_drew)); exact HO249.out) hb); have n7_ := Aside0.mk (yB (g := gb209) (o := .cells #[.int .i64 x210000_3, .int .i64 x210001_3, .int .u64 x210002_3, .string x210003_3] 40 (0, 0)) (by (with_reducible repeat (first | refine yN ?_ _ | refine yD ?_ | refine yA ?_ _)); exact BK209.out) hb); have n8_ := Aside0.mk (zS (by repeat (first | (with_reducible first | exact HB.out | apply zA | apply zN | apply zD | refine below_set ?_ GE209.out) | exact HB.out)) hb); clear HO_7; clear HO230; clear HO233; clear HO238; clear HO241; clear HO246; clear HO249; clear BK209; clear HB; have HO_7 := n0_; have HO230 := n1_; have HO233 := n2_; have HO238 := n3_; have HO241 := n4_; have HO246 := n5_; have HO249 := n6_; have BK209 := n7_; have HB := n8_; clear n0_ n1_ n2_ n3_ n4_ n5_ n6_ n7_ n8_; (try clear hb); (try clear hb2); (try clear hk); (try clear hi)))
          go_ret
          exact ⟨by first | rfl | (simp [errW_none, errW_some] <;> rfl) | (simp [*, errW_none, errW_some] <;> rfl), by repeat (first | (with_reducible first | exact HB.out | apply zA | apply zN | apply zD | refine below_set ?_ GE209.out) | exact HB.out)⟩
         ·rw [if_neg c66] at H
          exact absurd H (by simp)
        ·rw [if_neg c65] at H
         exact absurd H (by simp)
       ·rw [if_neg c64] at H
        exact absurd H (by simp)
      ·replace c63 := Bool.eq_false_iff.mpr c63
       subst c63
       have H1 : (if x9_2 = 1 then (if t234 = 0 then (if t242 = 1 then (if t250 = 0 then ((falseworklaw18_awake.f k2).bind fun t253 => (some t253)) else (none)) else (none)) else (none)) else (none)) = some r := by rw [if_neg (show ¬ (false = true) by decide)] at H; exact H
       clear H
       have H := H1
       clear H1
       by_cases c88 : x9_2 = 1
       ·rw [if_pos c88] at H
        have c88b0 : (x9_2 == 1) = true := beq_iff_eq.mpr c88
        have c88b1 : (x9_2 != 1) = false := bne_eq_false_iff_eq.mpr c88
        clear c88
        by_cases c89 : t234 = 0
        ·rw [if_pos c89] at H
         have c89b0 : (t234 == 0) = true := beq_iff_eq.mpr c89
         have c89b1 : (t234 != 0) = false := bne_eq_false_iff_eq.mpr c89
         clear c89
         by_cases c90 : t242 = 1
         ·rw [if_pos c90] at H
          have c90b0 : (t242 == 1) = true := beq_iff_eq.mpr c90
          have c90b1 : (t242 != 1) = false := bne_eq_false_iff_eq.mpr c90
          clear c90
          by_cases c91 : t250 = 0
          ·rw [if_pos c91] at H
           have c91b0 : (t250 == 0) = true := beq_iff_eq.mpr c91
           have c91b1 : (t250 != 0) = false := bne_eq_false_iff_eq.mpr c91
           clear c91
           replace H := Option.bind_eq_some_iff.mp H
           obtain ⟨t253, A920, H⟩ := H
           replace H : (some t253) = some r := H
           have A92 := Aside0.mk A920
           clear A920
           obtain rfl := Option.some.inj H
           go_wp2_with (first | ((with_reducible refine gate_callee (f := 15) rfl ?_); refine goesL_ (some 76) rfl rfl Try.func15 (by kernel_rfl) rfl #[.int .i64 2] rfl (by (try simp only [List.map_toArray, List.map_cons, List.map_nil]); first | done | rfl | (simp only [List.length_drop, List.length_take]; rfl)) ?_; (with_reducible refine (falseworklaw18_cols.calls 2 t228 _ A57.out).mono ?_); rintro e w93 ⟨v229, rfl, ho0, hb⟩; refine ⟨_, rfl, ?_⟩; have n0_ := Aside0.mk (Kd.R_below (by (with_reducible repeat (first | apply Kd.R_alloc | apply Kd.R_drewN | apply Kd.R_drew)); exact HO_7.out) hb); have n1_ := Aside0.mk (Kd.R_lower ho0 (zZ (by repeat (first | (with_reducible first | exact HB.out | apply zA | apply zN | apply zD | refine below_set ?_ GE209.out) | exact HB.out)))); have n2_ := Aside0.mk (yB (g := gb209) (o := .cells #[.int .i64 x210000_3, .int .i64 x210001_3, .int .u64 x210002_3, .string x210003_3] 40 (0, 0)) (by (with_reducible repeat (first | refine yN ?_ _ | refine yD ?_ | refine yA ?_ _)); exact BK209.out) hb); have n3_ := Aside0.mk (zS (by repeat (first | (with_reducible first | exact HB.out | apply zA | apply zN | apply zD | refine below_set ?_ GE209.out) | exact HB.out)) hb); clear HO_7; clear BK209; clear HB; have HO_7 := n0_; have HO230 := n1_; have BK209 := n2_; have HB := n3_; clear n0_ n1_ n2_ n3_; (try clear hb); (try clear hb2); (try clear hk); (try clear hi); (try clear ho0)) | ((with_reducible refine gate_dst (N := 79) rfl ?_); refine Kd.R_lit k43 _ 43 ?hg (N := 79) ?hd (xs := ([(⟨(⟨#[97]⟩ : ByteArray), 4, (⟨0, 0, 0, (⟨#[]⟩ : ByteArray)⟩ : S40)⟩ : S43)] : List (S43))) (inner := [.string (⟨#[97]⟩ : ByteArray), .int .i64 4, .int .i64 0, .int .i64 0, .int .u64 0, .string (⟨#[]⟩ : ByteArray)]) (ok := fun _ => True) (okp := fun _ => True) ?hr ?hp (fun _ hk => hk) trivial (Below.refl _ _) (Nat.le_refl _) (by simp) ?_; (case hd => rfl); (case hg => rfl); (case hr => first | (go_simp; done) | (go_simp; rfl)); (case hp => exact (Reps.c6 (show Kd.M k43 _ _ _ (⟨(⟨#[97]⟩ : ByteArray), 4, (⟨0, 0, 0, (⟨#[]⟩ : ByteArray)⟩ : S40)⟩ : S43) [.string (⟨#[97]⟩ : ByteArray), .int .i64 4, .int .i64 0, .int .i64 0, .int .u64 0, .string (⟨#[]⟩ : ByteArray)] from (k43_mkM _ _ _ (⟨(⟨#[97]⟩ : ByteArray), 4, (⟨0, 0, 0, (⟨#[]⟩ : ByteArray)⟩ : S40)⟩ : S43) )) (Reps.none _ _))); intro v232 w94 ho95 hb hg_ hnew_; clear hg_ hnew_; (first | rw [← Ny231.out] at ho95 | (simp only [Int.reduceToNat] at ho95; rw [← Ny231.out] at ho95)); have n0_ := Aside0.mk (Kd.R_below (by (with_reducible repeat (first | apply Kd.R_alloc | apply Kd.R_drewN | apply Kd.R_drew)); exact HO_7.out) hb); have n1_ := Aside0.mk (Kd.R_below (by (with_reducible repeat (first | apply Kd.R_alloc | apply Kd.R_drewN | apply Kd.R_drew)); exact HO230.out) hb); have n2_ := Aside0.mk (Kd.R_lower ho95 (zZ (by repeat (first | (with_reducible first | exact HB.out | apply zA | apply zN | apply zD | refine below_set ?_ GE209.out) | exact HB.out)))); have n3_ := Aside0.mk (yB (g := gb209) (o := .cells #[.int .i64 x210000_3, .int .i64 x210001_3, .int .u64 x210002_3, .string x210003_3] 40 (0, 0)) (by (with_reducible repeat (first | refine yN ?_ _ | refine yD ?_ | refine yA ?_ _)); exact BK209.out) hb); have n4_ := Aside0.mk (zS (by repeat (first | (with_reducible first | exact HB.out | apply zA | apply zN | apply zD | refine below_set ?_ GE209.out) | exact HB.out)) hb); clear HO_7; clear HO230; clear BK209; clear HB; have HO_7 := n0_; have HO230 := n1_; have HO233 := n2_; have BK209 := n3_; have HB := n4_; clear n0_ n1_ n2_ n3_ n4_; clear hb ho95; obtain ⟨Ao96, co96, eo96⟩ := Kd.R_slice HO230.out; subst eo96; obtain ⟨Ao97, co97, eo97⟩ := Kd.R_slice HO_7.out; subst eo97; obtain ⟨Ao98, co98, eo98⟩ := Kd.R_slice HO233.out; subst eo98) | ((with_reducible refine gate_callee (f := 13) rfl ?_); refine goesL_ (some 80) rfl rfl Try.func13 (by kernel_rfl) rfl #[.slice Ao96 t228.length co96, .slice Ao97 y206.length co97, .slice Ao98 y231.length co98] rfl (by (try simp only [List.map_toArray, List.map_cons, List.map_nil]); first | done | rfl | (simp only [List.length_drop, List.length_take]; rfl)) ?_; (with_reducible refine (pred_Test.calls k2 _ _ t228 _ _ y206 _ _ y231 t234 t235 _ ?side1 ?side2 ?side3 ?side4 ?side5 ?side6 A58.out).mono ?_); (case side1 => repeat (first | exact (Kd.R_reads' HO230.out).2.2 | (with_reducible refine Kd.C_alloc ?_ _) | (with_reducible refine Kd.C_drewN ?_ _) | (with_reducible refine Kd.C_drew ?_))); (case side2 => exact (Kd.R_reads' HO230.out).2.1); (case side3 => repeat (first | exact (Kd.R_reads' HO_7.out).2.2 | (with_reducible refine Kd.C_alloc ?_ _) | (with_reducible refine Kd.C_drewN ?_ _) | (with_reducible refine Kd.C_drew ?_))); (case side4 => exact (Kd.R_reads' HO_7.out).2.1); (case side5 => repeat (first | exact (Kd.R_reads' HO233.out).2.2 | (with_reducible refine Kd.C_alloc ?_ _) | (with_reducible refine Kd.C_drewN ?_ _) | (with_reducible refine Kd.C_drew ?_))); (case side6 => exact (Kd.R_reads' HO233.out).2.1); rintro e w99 ⟨rfl, hb⟩; refine ⟨_, rfl, ?_⟩; have n0_ := Aside0.mk (Kd.R_below (by (with_reducible repeat (first | apply Kd.R_alloc | apply Kd.R_drewN | apply Kd.R_drew)); exact HO_7.out) hb); have n1_ := Aside0.mk (Kd.R_below (by (with_reducible repeat (first | apply Kd.R_alloc | apply Kd.R_drewN | apply Kd.R_drew)); exact HO230.out) hb); have n2_ := Aside0.mk (Kd.R_below (by (with_reducible repeat (first | apply Kd.R_alloc | apply Kd.R_drewN | apply Kd.R_drew)); exact HO233.out) hb); have n3_ := Aside0.mk (yB (g := gb209) (o := .cells #[.int .i64 x210000_3, .int .i64 x210001_3, .int .u64 x210002_3, .string x210003_3] 40 (0, 0)) (by (with_reducible repeat (first | refine yN ?_ _ | refine yD ?_ | refine yA ?_ _)); exact BK209.out) hb); have n4_ := Aside0.mk (zS (by repeat (first | (with_reducible first | exact HB.out | apply zA | apply zN | apply zD | refine below_set ?_ GE209.out) | exact HB.out)) hb); clear HO_7; clear HO230; clear HO233; clear BK209; clear HB; have HO_7 := n0_; have HO230 := n1_; have HO233 := n2_; have BK209 := n3_; have HB := n4_; clear n0_ n1_ n2_ n3_ n4_; (try clear hb); (try clear hb2); (try clear hk); (try clear hi)) | ((with_reducible refine gate_callee (f := 15) rfl ?_); refine goesL_ (some 84) rfl rfl Try.func15 (by kernel_rfl) rfl #[.int .i64 2] rfl (by (try simp only [List.map_toArray, List.map_cons, List.map_nil]); first | done | rfl | (simp only [List.length_drop, List.length_take]; rfl)) ?_; (with_reducible refine (falseworklaw18_cols.calls 2 t236 _ A59.out).mono ?_); rintro e w100 ⟨v237, rfl, ho0, hb⟩; refine ⟨_, rfl, ?_⟩; have n0_ := Aside0.mk (Kd.R_below (by (with_reducible repeat (first | apply Kd.R_alloc | apply Kd.R_drewN | apply Kd.R_drew)); exact HO_7.out) hb); have n1_ := Aside0.mk (Kd.R_elder' (by (with_reducible repeat (first | apply Kd.R_alloc | apply Kd.R_drewN | apply Kd.R_drew)); exact HO230.out) (Kd.R_base ho0) hb); have n2_ := Aside0.mk (Kd.R_below (by (with_reducible repeat (first | apply Kd.R_alloc | apply Kd.R_drewN | apply Kd.R_drew)); exact HO233.out) hb); have n3_ := Aside0.mk (Kd.R_lower (Kd.R_new' ho0 (Kd.R_lt (by (with_reducible repeat (first | apply Kd.R_alloc | apply Kd.R_drewN | apply Kd.R_drew)); exact HO230.out))) (zZ (by repeat (first | (with_reducible first | exact HB.out | apply zA | apply zN | apply zD | refine below_set ?_ GE209.out) | exact HB.out)))); have n4_ := Aside0.mk (yB (g := gb209) (o := .cells #[.int .i64 x210000_3, .int .i64 x210001_3, .int .u64 x210002_3, .string x210003_3] 40 (0, 0)) (by (with_reducible repeat (first | refine yN ?_ _ | refine yD ?_ | refine yA ?_ _)); exact BK209.out) hb); have n5_ := Aside0.mk (zS (by repeat (first | (with_reducible first | exact HB.out | apply zA | apply zN | apply zD | refine below_set ?_ GE209.out) | exact HB.out)) hb); clear HO_7; clear HO230; clear HO233; clear BK209; clear HB; have HO_7 := n0_; have HO230 := n1_; have HO233 := n2_; have HO238 := n3_; have BK209 := n4_; have HB := n5_; clear n0_ n1_ n2_ n3_ n4_ n5_; (try clear hb); (try clear hb2); (try clear hk); (try clear hi); (try clear ho0)) | ((with_reducible refine gate_dst (N := 87) rfl ?_); refine Kd.R_lit k43 _ 43 ?hg (N := 87) ?hd (xs := ([(⟨(⟨#[98]⟩ : ByteArray), 4, (⟨0, 0, 0, (⟨#[]⟩ : ByteArray)⟩ : S40)⟩ : S43)] : List (S43))) (inner := [.string (⟨#[98]⟩ : ByteArray), .int .i64 4, .int .i64 0, .int .i64 0, .int .u64 0, .string (⟨#[]⟩ : ByteArray)]) (ok := fun _ => True) (okp := fun _ => True) ?hr ?hp (fun _ hk => hk) trivial (Below.refl _ _) (Nat.le_refl _) (by simp) ?_; (case hd => rfl); (case hg => rfl); (case hr => first | (go_simp; done) | (go_simp; rfl)); (case hp => exact (Reps.c6 (show Kd.M k43 _ _ _ (⟨(⟨#[98]⟩ : ByteArray), 4, (⟨0, 0, 0, (⟨#[]⟩ : ByteArray)⟩ : S40)⟩ : S43) [.string (⟨#[98]⟩ : ByteArray), .int .i64 4, .int .i64 0, .int .i64 0, .int .u64 0, .string (⟨#[]⟩ : ByteArray)] from (k43_mkM _ _ _ (⟨(⟨#[98]⟩ : ByteArray), 4, (⟨0, 0, 0, (⟨#[]⟩ : ByteArray)⟩ : S40)⟩ : S43) )) (Reps.none _ _))); intro v240 w101 ho102 hb hg_ hnew_; clear hg_ hnew_; (first | rw [← Ny239.out] at ho102 | (simp only [Int.reduceToNat] at ho102; rw [← Ny239.out] at ho102)); have n0_ := Aside0.mk (Kd.R_below (by (with_reducible repeat (first | apply Kd.R_alloc | apply Kd.R_drewN | apply Kd.R_drew)); exact HO_7.out) hb); have n1_ := Aside0.mk (Kd.R_below (by (with_reducible repeat (first | apply Kd.R_alloc | apply Kd.R_drewN | apply Kd.R_drew)); exact HO230.out) hb); have n2_ := Aside0.mk (Kd.R_elder' (by (with_reducible repeat (first | apply Kd.R_alloc | apply Kd.R_drewN | apply Kd.R_drew)); exact HO233.out) (Kd.R_base ho102) hb); have n3_ := Aside0.mk (Kd.R_below (by (with_reducible repeat (first | apply Kd.R_alloc | apply Kd.R_drewN | apply Kd.R_drew)); exact HO238.out) hb); have n4_ := Aside0.mk (Kd.R_lower (Kd.R_new' ho102 (Kd.R_lt (by (with_reducible repeat (first | apply Kd.R_alloc | apply Kd.R_drewN | apply Kd.R_drew)); exact HO233.out))) (zZ (by repeat (first | (with_reducible first | exact HB.out | apply zA | apply zN | apply zD | refine below_set ?_ GE209.out) | exact HB.out)))); have n5_ := Aside0.mk (yB (g := gb209) (o := .cells #[.int .i64 x210000_3, .int .i64 x210001_3, .int .u64 x210002_3, .string x210003_3] 40 (0, 0)) (by (with_reducible repeat (first | refine yN ?_ _ | refine yD ?_ | refine yA ?_ _)); exact BK209.out) hb); have n6_ := Aside0.mk (zS (by repeat (first | (with_reducible first | exact HB.out | apply zA | apply zN | apply zD | refine below_set ?_ GE209.out) | exact HB.out)) hb); clear HO_7; clear HO230; clear HO233; clear HO238; clear BK209; clear HB; have HO_7 := n0_; have HO230 := n1_; have HO233 := n2_; have HO238 := n3_; have HO241 := n4_; have BK209 := n5_; have HB := n6_; clear n0_ n1_ n2_ n3_ n4_ n5_ n6_; clear hb ho102; obtain ⟨Ao103, co103, eo103⟩ := Kd.R_slice HO238.out; subst eo103; obtain ⟨Ao104, co104, eo104⟩ := Kd.R_slice HO241.out; subst eo104) | ((with_reducible refine gate_callee (f := 13) rfl ?_); refine goesL_ (some 88) rfl rfl Try.func13 (by kernel_rfl) rfl #[.slice Ao103 t236.length co103, .slice Ao97 y206.length co97, .slice Ao104 y239.length co104] rfl (by (try simp only [List.map_toArray, List.map_cons, List.map_nil]); first | done | rfl | (simp only [List.length_drop, List.length_take]; rfl)) ?_; (with_reducible refine (pred_Test.calls k2 _ _ t236 _ _ y206 _ _ y239 t242 t243 _ ?side1 ?side2 ?side3 ?side4 ?side5 ?side6 A60.out).mono ?_); (case side1 => repeat (first | exact (Kd.R_reads' HO238.out).2.2 | (with_reducible refine Kd.C_alloc ?_ _) | (with_reducible refine Kd.C_drewN ?_ _) | (with_reducible refine Kd.C_drew ?_))); (case side2 => exact (Kd.R_reads' HO238.out).2.1); (case side3 => repeat (first | exact (Kd.R_reads' HO_7.out).2.2 | (with_reducible refine Kd.C_alloc ?_ _) | (with_reducible refine Kd.C_drewN ?_ _) | (with_reducible refine Kd.C_drew ?_))); (case side4 => exact (Kd.R_reads' HO_7.out).2.1); (case side5 => repeat (first | exact (Kd.R_reads' HO241.out).2.2 | (with_reducible refine Kd.C_alloc ?_ _) | (with_reducible refine Kd.C_drewN ?_ _) | (with_reducible refine Kd.C_drew ?_))); (case side6 => exact (Kd.R_reads' HO241.out).2.1); rintro e w105 ⟨rfl, hb⟩; refine ⟨_, rfl, ?_⟩; have n0_ := Aside0.mk (Kd.R_below (by (with_reducible repeat (first | apply Kd.R_alloc | apply Kd.R_drewN | apply Kd.R_drew)); exact HO_7.out) hb); have n1_ := Aside0.mk (Kd.R_below (by (with_reducible repeat (first | apply Kd.R_alloc | apply Kd.R_drewN | apply Kd.R_drew)); exact HO230.out) hb); have n2_ := Aside0.mk (Kd.R_below (by (with_reducible repeat (first | apply Kd.R_alloc | apply Kd.R_drewN | apply Kd.R_drew)); exact HO233.out) hb); have n3_ := Aside0.mk (Kd.R_below (by (with_reducible repeat (first | apply Kd.R_alloc | apply Kd.R_drewN | apply Kd.R_drew)); exact HO238.out) hb); have n4_ := Aside0.mk (Kd.R_below (by (with_reducible repeat (first | apply Kd.R_alloc | apply Kd.R_drewN | apply Kd.R_drew)); exact HO241.out) hb); have n5_ := Aside0.mk (yB (g := gb209) (o := .cells #[.int .i64 x210000_3, .int .i64 x210001_3, .int .u64 x210002_3, .string x210003_3] 40 (0, 0)) (by (with_reducible repeat (first | refine yN ?_ _ | refine yD ?_ | refine yA ?_ _)); exact BK209.out) hb); have n6_ := Aside0.mk (zS (by repeat (first | (with_reducible first | exact HB.out | apply zA | apply zN | apply zD | refine below_set ?_ GE209.out) | exact HB.out)) hb); clear HO_7; clear HO230; clear HO233; clear HO238; clear HO241; clear BK209; clear HB; have HO_7 := n0_; have HO230 := n1_; have HO233 := n2_; have HO238 := n3_; have HO241 := n4_; have BK209 := n5_; have HB := n6_; clear n0_ n1_ n2_ n3_ n4_ n5_ n6_; (try clear hb); (try clear hb2); (try clear hk); (try clear hi)) | ((with_reducible refine gate_callee (f := 15) rfl ?_); refine goesL_ (some 92) rfl rfl Try.func15 (by kernel_rfl) rfl #[.int .i64 2] rfl (by (try simp only [List.map_toArray, List.map_cons, List.map_nil]); first | done | rfl | (simp only [List.length_drop, List.length_take]; rfl)) ?_; (with_reducible refine (falseworklaw18_cols.calls 2 t244 _ A61.out).mono ?_); rintro e w106 ⟨v245, rfl, ho0, hb⟩; refine ⟨_, rfl, ?_⟩; have n0_ := Aside0.mk (Kd.R_below (by (with_reducible repeat (first | apply Kd.R_alloc | apply Kd.R_drewN | apply Kd.R_drew)); exact HO_7.out) hb); have n1_ := Aside0.mk (Kd.R_elder' (by (with_reducible repeat (first | apply Kd.R_alloc | apply Kd.R_drewN | apply Kd.R_drew)); exact HO230.out) (Kd.R_base ho0) hb); have n2_ := Aside0.mk (Kd.R_below (by (with_reducible repeat (first | apply Kd.R_alloc | apply Kd.R_drewN | apply Kd.R_drew)); exact HO233.out) hb); have n3_ := Aside0.mk (Kd.R_elder' (by (with_reducible repeat (first | apply Kd.R_alloc | apply Kd.R_drewN | apply Kd.R_drew)); exact HO238.out) (Kd.R_base ho0) hb); have n4_ := Aside0.mk (Kd.R_below (by (with_reducible repeat (first | apply Kd.R_alloc | apply Kd.R_drewN | apply Kd.R_drew)); exact HO241.out) hb); have n5_ := Aside0.mk (Kd.R_lower (Kd.R_new' (Kd.R_new' ho0 (Kd.R_lt (by (with_reducible repeat (first | apply Kd.R_alloc | apply Kd.R_drewN | apply Kd.R_drew)); exact HO230.out))) (Kd.R_lt (by (with_reducible repeat (first | apply Kd.R_alloc | apply Kd.R_drewN | apply Kd.R_drew)); exact HO238.out))) (zZ (by repeat (first | (with_reducible first | exact HB.out | apply zA | apply zN | apply zD | refine below_set ?_ GE209.out) | exact HB.out)))); have n6_ := Aside0.mk (yB (g := gb209) (o := .cells #[.int .i64 x210000_3, .int .i64 x210001_3, .int .u64 x210002_3, .string x210003_3] 40 (0, 0)) (by (with_reducible repeat (first | refine yN ?_ _ | refine yD ?_ | refine yA ?_ _)); exact BK209.out) hb); have n7_ := Aside0.mk (zS (by repeat (first | (with_reducible first | exact HB.out | apply zA | apply zN | apply zD | refine below_set ?_ GE209.out) | exact HB.out)) hb); clear HO_7; clear HO230; clear HO233; clear HO238; clear HO241; clear BK209; clear HB; have HO_7 := n0_; have HO230 := n1_; have HO233 := n2_; have HO238 := n3_; have HO241 := n4_; have HO246 := n5_; have BK209 := n6_; have HB := n7_; clear n0_ n1_ n2_ n3_ n4_ n5_ n6_ n7_; (try clear hb); (try clear hb2); (try clear hk); (try clear hi); (try clear ho0)) | ((with_reducible refine gate_dst (N := 96) rfl ?_); refine Kd.R_lit k43 _ 43 ?hg (N := 96) ?hd (xs := ([(⟨(⟨#[97]⟩ : ByteArray), 5, (⟨0, 0, 0, (⟨#[]⟩ : ByteArray)⟩ : S40)⟩ : S43), (⟨(⟨#[98]⟩ : ByteArray), 5, (⟨0, 0, 0, (⟨#[]⟩ : ByteArray)⟩ : S40)⟩ : S43)] : List (S43))) (inner := [.string (⟨#[97]⟩ : ByteArray), .int .i64 5, .int .i64 0, .int .i64 0, .int .u64 0, .string (⟨#[]⟩ : ByteArray), .string (⟨#[98]⟩ : ByteArray), .int .i64 5, .int .i64 0, .int .i64 0, .int .u64 0, .string (⟨#[]⟩ : ByteArray)]) (ok := fun _ => True) (okp := fun _ => True) ?hr ?hp (fun _ hk => hk) trivial (Below.refl _ _) (Nat.le_refl _) (by simp) ?_; (case hd => rfl); (case hg => rfl); (case hr => first | (go_simp; done) | (go_simp; rfl)); (case hp => exact (Reps.c6 (show Kd.M k43 _ _ _ (⟨(⟨#[97]⟩ : ByteArray), 5, (⟨0, 0, 0, (⟨#[]⟩ : ByteArray)⟩ : S40)⟩ : S43) [.string (⟨#[97]⟩ : ByteArray), .int .i64 5, .int .i64 0, .int .i64 0, .int .u64 0, .string (⟨#[]⟩ : ByteArray)] from (k43_mkM _ _ _ (⟨(⟨#[97]⟩ : ByteArray), 5, (⟨0, 0, 0, (⟨#[]⟩ : ByteArray)⟩ : S40)⟩ : S43) )) (Reps.c6 (show Kd.M k43 _ _ _ (⟨(⟨#[98]⟩ : ByteArray), 5, (⟨0, 0, 0, (⟨#[]⟩ : ByteArray)⟩ : S40)⟩ : S43) [.string (⟨#[98]⟩ : ByteArray), .int .i64 5, .int .i64 0, .int .i64 0, .int .u64 0, .string (⟨#[]⟩ : ByteArray)] from (k43_mkM _ _ _ (⟨(⟨#[98]⟩ : ByteArray), 5, (⟨0, 0, 0, (⟨#[]⟩ : ByteArray)⟩ : S40)⟩ : S43) )) (Reps.none _ _)))); intro v248 w107 ho108 hb hg_ hnew_; clear hg_ hnew_; (first | rw [← Ny247.out] at ho108 | (simp only [Int.reduceToNat] at ho108; rw [← Ny247.out] at ho108)); have n0_ := Aside0.mk (Kd.R_below (by (with_reducible repeat (first | apply Kd.R_alloc | apply Kd.R_drewN | apply Kd.R_drew)); exact HO_7.out) hb); have n1_ := Aside0.mk (Kd.R_below (by (with_reducible repeat (first | apply Kd.R_alloc | apply Kd.R_drewN | apply Kd.R_drew)); exact HO230.out) hb); have n2_ := Aside0.mk (Kd.R_elder' (by (with_reducible repeat (first | apply Kd.R_alloc | apply Kd.R_drewN | apply Kd.R_drew)); exact HO233.out) (Kd.R_base ho108) hb); have n3_ := Aside0.mk (Kd.R_below (by (with_reducible repeat (first | apply Kd.R_alloc | apply Kd.R_drewN | apply Kd.R_drew)); exact HO238.out) hb); have n4_ := Aside0.mk (Kd.R_elder' (by (with_reducible repeat (first | apply Kd.R_alloc | apply Kd.R_drewN | apply Kd.R_drew)); exact HO241.out) (Kd.R_base ho108) hb); have n5_ := Aside0.mk (Kd.R_below (by (with_reducible repeat (first | apply Kd.R_alloc | apply Kd.R_drewN | apply Kd.R_drew)); exact HO246.out) hb); have n6_ := Aside0.mk (Kd.R_lower (Kd.R_new' (Kd.R_new' ho108 (Kd.R_lt (by (with_reducible repeat (first | apply Kd.R_alloc | apply Kd.R_drewN | apply Kd.R_drew)); exact HO233.out))) (Kd.R_lt (by (with_reducible repeat (first | apply Kd.R_alloc | apply Kd.R_drewN | apply Kd.R_drew)); exact HO241.out))) (zZ (by repeat (first | (with_reducible first | exact HB.out | apply zA | apply zN | apply zD | refine below_set ?_ GE209.out) | exact HB.out)))); have n7_ := Aside0.mk (yB (g := gb209) (o := .cells #[.int .i64 x210000_3, .int .i64 x210001_3, .int .u64 x210002_3, .string x210003_3] 40 (0, 0)) (by (with_reducible repeat (first | refine yN ?_ _ | refine yD ?_ | refine yA ?_ _)); exact BK209.out) hb); have n8_ := Aside0.mk (zS (by repeat (first | (with_reducible first | exact HB.out | apply zA | apply zN | apply zD | refine below_set ?_ GE209.out) | exact HB.out)) hb); clear HO_7; clear HO230; clear HO233; clear HO238; clear HO241; clear HO246; clear BK209; clear HB; have HO_7 := n0_; have HO230 := n1_; have HO233 := n2_; have HO238 := n3_; have HO241 := n4_; have HO246 := n5_; have HO249 := n6_; have BK209 := n7_; have HB := n8_; clear n0_ n1_ n2_ n3_ n4_ n5_ n6_ n7_ n8_; clear hb ho108; obtain ⟨Ao109, co109, eo109⟩ := Kd.R_slice HO246.out; subst eo109; obtain ⟨Ao110, co110, eo110⟩ := Kd.R_slice HO249.out; subst eo110) | ((with_reducible refine gate_callee (f := 13) rfl ?_); refine goesL_ (some 97) rfl rfl Try.func13 (by kernel_rfl) rfl #[.slice Ao109 t244.length co109, .slice Ao97 y206.length co97, .slice Ao110 y247.length co110] rfl (by (try simp only [List.map_toArray, List.map_cons, List.map_nil]); first | done | rfl | (simp only [List.length_drop, List.length_take]; rfl)) ?_; (with_reducible refine (pred_Test.calls k2 _ _ t244 _ _ y206 _ _ y247 t250 t251 _ ?side1 ?side2 ?side3 ?side4 ?side5 ?side6 A62.out).mono ?_); (case side1 => repeat (first | exact (Kd.R_reads' HO246.out).2.2 | (with_reducible refine Kd.C_alloc ?_ _) | (with_reducible refine Kd.C_drewN ?_ _) | (with_reducible refine Kd.C_drew ?_))); (case side2 => exact (Kd.R_reads' HO246.out).2.1); (case side3 => repeat (first | exact (Kd.R_reads' HO_7.out).2.2 | (with_reducible refine Kd.C_alloc ?_ _) | (with_reducible refine Kd.C_drewN ?_ _) | (with_reducible refine Kd.C_drew ?_))); (case side4 => exact (Kd.R_reads' HO_7.out).2.1); (case side5 => repeat (first | exact (Kd.R_reads' HO249.out).2.2 | (with_reducible refine Kd.C_alloc ?_ _) | (with_reducible refine Kd.C_drewN ?_ _) | (with_reducible refine Kd.C_drew ?_))); (case side6 => exact (Kd.R_reads' HO249.out).2.1); rintro e w111 ⟨rfl, hb⟩; refine ⟨_, rfl, ?_⟩; have n0_ := Aside0.mk (Kd.R_below (by (with_reducible repeat (first | apply Kd.R_alloc | apply Kd.R_drewN | apply Kd.R_drew)); exact HO_7.out) hb); have n1_ := Aside0.mk (Kd.R_below (by (with_reducible repeat (first | apply Kd.R_alloc | apply Kd.R_drewN | apply Kd.R_drew)); exact HO230.out) hb); have n2_ := Aside0.mk (Kd.R_below (by (with_reducible repeat (first | apply Kd.R_alloc | apply Kd.R_drewN | apply Kd.R_drew)); exact HO233.out) hb); have n3_ := Aside0.mk (Kd.R_below (by (with_reducible repeat (first | apply Kd.R_alloc | apply Kd.R_drewN | apply Kd.R_drew)); exact HO238.out) hb); have n4_ := Aside0.mk (Kd.R_below (by (with_reducible repeat (first | apply Kd.R_alloc | apply Kd.R_drewN | apply Kd.R_drew)); exact HO241.out) hb); have n5_ := Aside0.mk (Kd.R_below (by (with_reducible repeat (first | apply Kd.R_alloc | apply Kd.R_drewN | apply Kd.R_drew)); exact HO246.out) hb); have n6_ := Aside0.mk (Kd.R_below (by (with_reducible repeat (first | apply Kd.R_alloc | apply Kd.R_drewN | apply Kd.R_drew)); exact HO249.out) hb); have n7_ := Aside0.mk (yB (g := gb209) (o := .cells #[.int .i64 x210000_3, .int .i64 x210001_3, .int .u64 x210002_3, .string x210003_3] 40 (0, 0)) (by (with_reducible repeat (first | refine yN ?_ _ | refine yD ?_ | refine yA ?_ _)); exact BK209.out) hb); have n8_ := Aside0.mk (zS (by repeat (first | (with_reducible first | exact HB.out | apply zA | apply zN | apply zD | refine below_set ?_ GE209.out) | exact HB.out)) hb); clear HO_7; clear HO230; clear HO233; clear HO238; clear HO241; clear HO246; clear HO249; clear BK209; clear HB; have HO_7 := n0_; have HO230 := n1_; have HO233 := n2_; have HO238 := n3_; have HO241 := n4_; have HO246 := n5_; have HO249 := n6_; have BK209 := n7_; have HB := n8_; clear n0_ n1_ n2_ n3_ n4_ n5_ n6_ n7_ n8_; (try clear hb); (try clear hb2); (try clear hk); (try clear hi)) | (go_at_call 12; (with_reducible refine (falseworklaw18_awake.calls k2  t253 _ A92.out).mono ?_); rintro e w112 ⟨rfl, hb⟩; have n0_ := Aside0.mk (Kd.R_below (by (with_reducible repeat (first | apply Kd.R_alloc | apply Kd.R_drewN | apply Kd.R_drew)); exact HO_7.out) hb); have n1_ := Aside0.mk (Kd.R_below (by (with_reducible repeat (first | apply Kd.R_alloc | apply Kd.R_drewN | apply Kd.R_drew)); exact HO230.out) hb); have n2_ := Aside0.mk (Kd.R_below (by (with_reducible repeat (first | apply Kd.R_alloc | apply Kd.R_drewN | apply Kd.R_drew)); exact HO233.out) hb); have n3_ := Aside0.mk (Kd.R_below (by (with_reducible repeat (first | apply Kd.R_alloc | apply Kd.R_drewN | apply Kd.R_drew)); exact HO238.out) hb); have n4_ := Aside0.mk (Kd.R_below (by (with_reducible repeat (first | apply Kd.R_alloc | apply Kd.R_drewN | apply Kd.R_drew)); exact HO241.out) hb); have n5_ := Aside0.mk (Kd.R_below (by (with_reducible repeat (first | apply Kd.R_alloc | apply Kd.R_drewN | apply Kd.R_drew)); exact HO246.out) hb); have n6_ := Aside0.mk (Kd.R_below (by (with_reducible repeat (first | apply Kd.R_alloc | apply Kd.R_drewN | apply Kd.R_drew)); exact HO249.out) hb); have n7_ := Aside0.mk (yB (g := gb209) (o := .cells #[.int .i64 x210000_3, .int .i64 x210001_3, .int .u64 x210002_3, .string x210003_3] 40 (0, 0)) (by (with_reducible repeat (first | refine yN ?_ _ | refine yD ?_ | refine yA ?_ _)); exact BK209.out) hb); have n8_ := Aside0.mk (zS (by repeat (first | (with_reducible first | exact HB.out | apply zA | apply zN | apply zD | refine below_set ?_ GE209.out) | exact HB.out)) hb); clear HO_7; clear HO230; clear HO233; clear HO238; clear HO241; clear HO246; clear HO249; clear BK209; clear HB; have HO_7 := n0_; have HO230 := n1_; have HO233 := n2_; have HO238 := n3_; have HO241 := n4_; have HO246 := n5_; have HO249 := n6_; have BK209 := n7_; have HB := n8_; clear n0_ n1_ n2_ n3_ n4_ n5_ n6_ n7_ n8_; (try clear hb); (try clear hb2); (try clear hk); (try clear hi)))
           go_ret
           exact ⟨by first | rfl | (simp [errW_none, errW_some] <;> rfl) | (simp [*, errW_none, errW_some] <;> rfl), by repeat (first | (with_reducible first | exact HB.out | apply zA | apply zN | apply zD | refine below_set ?_ GE209.out) | exact HB.out)⟩
          ·rw [if_neg c91] at H
           exact absurd H (by simp)
         ·rw [if_neg c90] at H
          exact absurd H (by simp)
        ·rw [if_neg c89] at H
         exact absurd H (by simp)
       ·rw [if_neg c88] at H
        exact absurd H (by simp)

/-- THE ONE PURE STATEMENT of falseworklaw18_PredThree: yours. -/
def falseworklaw18_PredThree.Pure : Prop := ∀ (a0 : Int) (a1 : Int) (a2 : Bool), (Lit.int .i64 a0).wf = true → (Lit.int .i64 a1).wf = true → ∃ k, falseworklaw18_PredThree.f k a0 a1 a2 = some true
theorem falseworklaw18_PredThree.walk (P : falseworklaw18_PredThree.Pure) (a0 : Int) (a1 : Int) (a2 : Bool) (w : World) (w0 : (Lit.int .i64 a0).wf = true) (w1 : (Lit.int .i64 a1).wf = true) :
  Calls Try.prog 6 #[.int .i64 a0, .int .i64 a1, .bool a2] w fun e w' => e = .returned (.bool true) ∧ Below w.heap.size w w' := by
 obtain ⟨k, h⟩ := P a0 a1 a2 w0 w1
 refine (falseworklaw18_PredThree.calls k a0 a1 a2 true w h).mono ?_
 rintro e w' ⟨rfl, hd⟩
 exact ⟨rfl, hd⟩

end Go.Proofs.Ytcjnmnelhpjhfaa.PA
