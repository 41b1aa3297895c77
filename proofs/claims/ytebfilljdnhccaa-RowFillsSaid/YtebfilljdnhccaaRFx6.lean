/- Contracts of the Go functions of this seat: what each call returns is what a Lean function of its arguments says; each theorem bears its own conditions. Written by a program of this session (wip/tools/mkprint.py). -/
import Derived.Test.YtebfilljdnhccaaRFx0
-- squeezed
namespace Go.Proofs.Ytebfilljdnhccaa.PA
open Go.RowKit Go.Proofs.YtebfilljdnhccaaW.PrintWords Go.Proofs.YtebfilljdnhccaaW.PrintLast Go.Proofs.YtebfilljdnhccaaW.PrintMore
attribute [local go_sem] max2_int min2_int max_two min_two max_three min_three max_four min_four   -- for this text's walks alone
set_option linter.unusedVariables false
set_option linter.unusedSimpArgs false

attribute [local go_sem ↓ high] unary_xor_u64 ux_if_u64
attribute [local go_sem] str_gtr str_leq str_geq
/-! ### falseworkref4_Fill: function 16 -/
mutual
def falseworkref4_Fill.l0 : Nat → List (S46) → List (S51) → List (S44) → Int → Option ((List (S44)))
 | 0, _, _, _, _ => none
 | k + 1, x0, x1, x5, x6 => if x6 < (x1.length : Int) then (if 0 ≤ x6 then (falseworkref4_Fill.l1 k x0 x1 x5 x6 (wrap64 ((x0.length : Int) - 1)) ((rd_T51 x1 x6).f5.f0) ((rd_T51 x1 x6).f5.f1) ((rd_T51 x1 x6).f5.f2) ((rd_T51 x1 x6).f5.f3)) else (none)) else (some x5)
def falseworkref4_Fill.l1 : Nat → List (S46) → List (S51) → List (S44) → Int → Int → Int → Int → Int → ByteArray → Option ((List (S44)))
 | 0, _, _, _, _, _, _, _, _, _ => none
 | k + 1, x0, x1, x5, x6, x8, x178000, x178001, x178002, x178003 => if x8 ≥ 0 then (if 0 ≤ x8 then (if x8 < (x0.length : Int) then (if 0 ≤ x6 then (if x6 < (x1.length : Int) then (if ((rd_T46 x0 x8).f0) = ((rd_T51 x1 x6).f0) then (falseworkref4_Fill.l1 k x0 x1 x5 x6 (wrap64 (x8 - 1)) ((rd_T46 x0 x8).f1.f0) ((rd_T46 x0 x8).f1.f1) ((rd_T46 x0 x8).f1.f2) ((rd_T46 x0 x8).f1.f3)) else (falseworkref4_Fill.l1 k x0 x1 x5 x6 (wrap64 (x8 - 1)) x178000 x178001 x178002 x178003)) else (none)) else (none)) else (none)) else (none)) else (if x5.length < 3518437208883 then (falseworkref4_Fill.l0 k x0 x1 (x5 ++ [(⟨x178000, x178001, x178002, x178003⟩ : S44)]) (wrap64 (x6 + 1))) else (none))
end
def falseworkref4_Fill.f (k : Nat) (l0 : List (S46)) (l1 : List (S51)) : Option ((List (S44))) := falseworkref4_Fill.l0 k l0 l1 ([] : List (S44)) 0
theorem falseworkref4_Fill.mono_l : ∀ k, (∀ y0 y1 y2 y3, LeO (falseworkref4_Fill.l0 k y0 y1 y2 y3) (falseworkref4_Fill.l0 (k + 1) y0 y1 y2 y3)) ∧ (∀ y0 y1 y2 y3 y4 y5 y6 y7 y8, LeO (falseworkref4_Fill.l1 k y0 y1 y2 y3 y4 y5 y6 y7 y8) (falseworkref4_Fill.l1 (k + 1) y0 y1 y2 y3 y4 y5 y6 y7 y8))
 | 0 => ⟨fun _ _ _ _ r h => by simp [falseworkref4_Fill.l0] at h, fun _ _ _ _ _ _ _ _ _ r h => by simp [falseworkref4_Fill.l1] at h⟩
 | k + 1 => by
  obtain ⟨ih0, ih1⟩ := falseworkref4_Fill.mono_l k
  refine ⟨?_, ?_⟩
  ·intro y0 y1 y2 y3
   unfold falseworkref4_Fill.l0
   repeat' first
   | (with_reducible exact ih0 _ _ _ _)
   | (with_reducible exact ih1 _ _ _ _ _ _ _ _ _)
   | (with_reducible exact LeO.refl _)
   | (with_reducible exact LeO.none _)
   | (with_reducible refine LeO.ite ?_ ?_)
   | (with_reducible refine LeO.bind ?_ (fun _ => ?_))
   | exact ih0 _ _ _ _
   | exact ih1 _ _ _ _ _ _ _ _ _
   | exact LeO.none _
   | refine LeO.ite ?_ ?_
   | refine LeO.bind ?_ (fun _ => ?_)
  ·intro y0 y1 y2 y3 y4 y5 y6 y7 y8
   unfold falseworkref4_Fill.l1
   repeat' first
   | (with_reducible exact ih0 _ _ _ _)
   | (with_reducible exact ih1 _ _ _ _ _ _ _ _ _)
   | (with_reducible exact LeO.refl _)
   | (with_reducible exact LeO.none _)
   | (with_reducible refine LeO.ite ?_ ?_)
   | (with_reducible refine LeO.bind ?_ (fun _ => ?_))
   | exact ih0 _ _ _ _
   | exact ih1 _ _ _ _ _ _ _ _ _
   | exact LeO.none _
   | refine LeO.ite ?_ ?_
   | refine LeO.bind ?_ (fun _ => ?_)
theorem falseworkref4_Fill.mono : ∀ a0 a1 k, LeO (falseworkref4_Fill.f k a0 a1) (falseworkref4_Fill.f (k + 1) a0 a1) := by
 intro a0 a1 k
 obtain ⟨ih0, ih1⟩ := falseworkref4_Fill.mono_l k
 unfold falseworkref4_Fill.f
 repeat' first
   | (with_reducible exact ih0 _ _ _ _)
   | (with_reducible exact ih1 _ _ _ _ _ _ _ _ _)
   | (with_reducible exact LeO.refl _)
   | (with_reducible exact LeO.none _)
   | (with_reducible refine LeO.ite ?_ ?_)
   | (with_reducible refine LeO.bind ?_ (fun _ => ?_))
   | exact ih0 _ _ _ _
   | exact ih1 _ _ _ _ _ _ _ _ _
   | exact LeO.none _
   | refine LeO.ite ?_ ?_
   | refine LeO.bind ?_ (fun _ => ?_)
set_option maxHeartbeats 8000000 in
set_option maxRecDepth 100000 in
theorem falseworkref4_Fill.calls (k : Nat) (A0 : Option Addr) (c0 : Nat) (l0 : List (S46)) (A1 : Option Addr) (c1 : Nat) (l1 : List (S51)) (r : List (S44)) (w : World) (hr0 : Kd.C k46 w A0 l0.length l0) (hc0 : l0.length ≤ c0) (hr1 : Kd.C k51 w A1 l1.length l1) (hc1 : l1.length ≤ c1) (h : falseworkref4_Fill.f k l0 l1 = some r) :
  Calls Try.prog 16 #[.slice A0 l0.length c0, .slice A1 l1.length c1] w fun e w' => ∃ v0_ : Value, e = .returned (v0_) ∧ Kd.R k44 44 w' w.heap.size (fun _ => True) v0_ r ∧ Below w.heap.size w w' := by
 have hu44 := Try.underlying44
 have HR0 := Aside0.mk hr0
 have HC0 := Aside0.mk hc0
 clear hr0 hc0
 have HR1 := Aside0.mk hr1
 have HC1 := Aside0.mk hc1
 clear hr1 hc1
 have HB := Aside0.mk (Below.refl w.heap.size w)
 have H : (falseworkref4_Fill.l0 k l0 l1 ([] : List (S44)) 0) = some r := h
 clear h
 have H' := Aside0.mk H
 clear H
 go_enter Try.func16, Try.ntmps16
 go_wp2
 repeat (go_quiet (fail); try go_wp2)
 go_loopg [5, 6] k (fun kq v5 v6 w' => ∃ (x5_1 : List (S44)) (x6_1 : Int), v6 = .int .i64 x6_1 ∧ Aside0 (falseworkref4_Fill.l0 kq l0 l1 x5_1 x6_1 = some r) ∧ Aside0 (kq ≤ k) ∧ Aside0 (Kd.R k44 44 w' w.heap.size (fun _ => True) v5 x5_1) ∧ Aside0 (Below w.heap.size w w'))
 case atStart => exact ⟨(([] : List (S44))), (0), (by first | rfl | (simp; done) | (simp [*]; done)), H', ⟨Nat.le_refl _⟩, ⟨by first | exact Kd.R_nil _ _ _ _ _ | exact Kd.N_nil _ _ _ _ _ | exact Kd.V_nil _ _ _ _ _ | exact Kd.Q_nil _ _ _ _ _ | exact Kd.S_nil _ _ _ _ _⟩, ⟨by repeat (first | (with_reducible first | exact HB.out | apply zA | apply zN | apply zD) | exact HB.out)⟩⟩
 case round =>
  clear H'
  try clear c1
  try clear p2
  obtain ⟨x5_1, x6_1, rfl, HA, HK1, HO_5, HB⟩ := hrel
  cases gk with
  | zero => exact absurd HA.out (by simp [falseworkref4_Fill.l0])
  | succ k1 =>
   have H := HA.out
   clear HA
   simp only [falseworkref4_Fill.l0] at H
   by_cases c3 : x6_1 < (l1.length : Int)
   ·rw [if_pos c3] at H
    have c3b0 : decide (x6_1 < (l1.length : Int)) = true := decide_eq_true c3
    clear c3
    by_cases c4 : 0 ≤ x6_1
    ·rw [if_pos c4] at H
     have c4b0 : decide (0 ≤ x6_1) = true := decide_eq_true c4
     clear c4
     have H' := Aside0.mk H
     clear H
     have p176 : 0 ≤ (x6_1 : Int) := of_decide_eq_true (by first | (with_reducible assumption) | assumption)
     have q176 : x6_1 < (l1.length : Int) := of_decide_eq_true (by first | (with_reducible assumption) | assumption)
     obtain ⟨ad176, e176, hx176_0, hx176_1, hx176_2, hx176_3, hx176_4, hx176_5, hx176_6, hx176_7, hx176_8⟩ := at_T51 HR1.out x6_1 p176 q176
     cases e176
     replace hx176_0 := pw_cell_below HB.out hx176_0
     replace hx176_1 := pw_cell_below HB.out hx176_1
     replace hx176_2 := pw_cell_below HB.out hx176_2
     replace hx176_3 := pw_cell_below HB.out hx176_3
     replace hx176_4 := pw_cell_below HB.out hx176_4
     replace hx176_5 := pw_cell_below HB.out hx176_5
     replace hx176_6 := pw_cell_below HB.out hx176_6
     replace hx176_7 := pw_cell_below HB.out hx176_7
     replace hx176_8 := pw_cell_below HB.out hx176_8
     replace p176 := eq_true p176
     replace q176 := eq_true q176
     go_wp2_with (first | ((with_reducible refine gate_dst (N := 7) rfl ?_); refine box_event ?hg (N := 7) ?hd (cs := #[.int .i64 0, .int .i64 0, .int .u64 0, .string (⟨#[]⟩ : ByteArray)]) (t := 44) ?hr ?_; (case hd => rfl); (case hg => rfl); (case hr => first | (go_simp; done) | (go_simp; rfl)); intro gb177 hg w5 hbox hb; have n0_ := Aside0.mk (Kd.R_below (Kd.R_elderB (by (with_reducible repeat (first | apply Kd.R_alloc | apply Kd.R_drewN | apply Kd.R_drew)); exact HO_5.out) gb177 (Nat.le_of_eq hg.symm)) hb); have n1_ := Aside0.mk (zS (by repeat (first | (with_reducible first | exact HB.out | apply zA | apply zN | apply zD) | exact HB.out)) hb); have n2_ := Aside0.mk (hbox); have n3_ := Aside0.mk ((by rw [hg]; exact (zZ (by repeat (first | (with_reducible first | exact HB.out | apply zA | apply zN | apply zD) | exact HB.out))) : w.heap.size ≤ gb177)); have n4_ := Aside0.mk ((by rw [hg]; exact (zZ (by repeat (first | (with_reducible first | exact HB.out | apply zA | apply zN | apply zD) | exact HB.out))) : w.heap.size ≤ gb177)); clear HO_5; clear HB; have HO_5 := n0_; have HB := n1_; have BK177 := n2_; have GW177 := n3_; have GE177 := n4_; clear n0_ n1_ n2_ n3_ n4_; clear hb hbox hg; obtain ⟨hcz6_0, hcz6_1, hcz6_2, hcz6_3⟩ := blkc4 BK177.out; obtain ⟨hfz6_0, hfz6_1, hfz6_2, hfz6_3⟩ := blkf4 BK177.out))
     repeat (go_quiet (first | ((with_reducible refine gate_dst (N := 7) rfl ?_); refine box_event ?hg (N := 7) ?hd (cs := #[.int .i64 0, .int .i64 0, .int .u64 0, .string (⟨#[]⟩ : ByteArray)]) (t := 44) ?hr ?_; (case hd => rfl); (case hg => rfl); (case hr => first | (go_simp; done) | (go_simp; rfl)); intro gb177 hg w5 hbox hb; have n0_ := Aside0.mk (Kd.R_below (Kd.R_elderB (by (with_reducible repeat (first | apply Kd.R_alloc | apply Kd.R_drewN | apply Kd.R_drew)); exact HO_5.out) gb177 (Nat.le_of_eq hg.symm)) hb); have n1_ := Aside0.mk (zS (by repeat (first | (with_reducible first | exact HB.out | apply zA | apply zN | apply zD) | exact HB.out)) hb); have n2_ := Aside0.mk (hbox); have n3_ := Aside0.mk ((by rw [hg]; exact (zZ (by repeat (first | (with_reducible first | exact HB.out | apply zA | apply zN | apply zD) | exact HB.out))) : w.heap.size ≤ gb177)); have n4_ := Aside0.mk ((by rw [hg]; exact (zZ (by repeat (first | (with_reducible first | exact HB.out | apply zA | apply zN | apply zD) | exact HB.out))) : w.heap.size ≤ gb177)); clear HO_5; clear HB; have HO_5 := n0_; have HB := n1_; have BK177 := n2_; have GW177 := n3_; have GE177 := n4_; clear n0_ n1_ n2_ n3_ n4_; clear hb hbox hg; obtain ⟨hcz6_0, hcz6_1, hcz6_2, hcz6_3⟩ := blkc4 BK177.out; obtain ⟨hfz6_0, hfz6_1, hfz6_2, hfz6_3⟩ := blkf4 BK177.out)); try go_wp2_with (first | ((with_reducible refine gate_dst (N := 7) rfl ?_); refine box_event ?hg (N := 7) ?hd (cs := #[.int .i64 0, .int .i64 0, .int .u64 0, .string (⟨#[]⟩ : ByteArray)]) (t := 44) ?hr ?_; (case hd => rfl); (case hg => rfl); (case hr => first | (go_simp; done) | (go_simp; rfl)); intro gb177 hg w5 hbox hb; have n0_ := Aside0.mk (Kd.R_below (Kd.R_elderB (by (with_reducible repeat (first | apply Kd.R_alloc | apply Kd.R_drewN | apply Kd.R_drew)); exact HO_5.out) gb177 (Nat.le_of_eq hg.symm)) hb); have n1_ := Aside0.mk (zS (by repeat (first | (with_reducible first | exact HB.out | apply zA | apply zN | apply zD) | exact HB.out)) hb); have n2_ := Aside0.mk (hbox); have n3_ := Aside0.mk ((by rw [hg]; exact (zZ (by repeat (first | (with_reducible first | exact HB.out | apply zA | apply zN | apply zD) | exact HB.out))) : w.heap.size ≤ gb177)); have n4_ := Aside0.mk ((by rw [hg]; exact (zZ (by repeat (first | (with_reducible first | exact HB.out | apply zA | apply zN | apply zD) | exact HB.out))) : w.heap.size ≤ gb177)); clear HO_5; clear HB; have HO_5 := n0_; have HB := n1_; have BK177 := n2_; have GW177 := n3_; have GE177 := n4_; clear n0_ n1_ n2_ n3_ n4_; clear hb hbox hg; obtain ⟨hcz6_0, hcz6_1, hcz6_2, hcz6_3⟩ := blkc4 BK177.out; obtain ⟨hfz6_0, hfz6_1, hfz6_2, hfz6_3⟩ := blkf4 BK177.out)))
     go_loopg [8] k1 (fun kq v8 w' => ∃ (x8_2 : Int) (x178000_2 : Int) (x178001_2 : Int) (x178002_2 : Int) (x178003_2 : ByteArray), v8 = .int .i64 x8_2 ∧ Aside0 (falseworkref4_Fill.l1 kq l0 l1 x5_1 x6_1 x8_2 x178000_2 x178001_2 x178002_2 x178003_2 = some r) ∧ Aside0 (kq ≤ k1) ∧ Aside0 (Kd.R k44 44 w' w.heap.size (fun k_ => k_ ≠ gb177) u5 x5_1) ∧ Aside0 (w'.heap[gb177]? = some (.cells #[.int .i64 x178000_2, .int .i64 x178001_2, .int .u64 x178002_2, .string x178003_2] 44 (0, 0))) ∧ Aside0 (Below w.heap.size w w'))
     case atStart => exact ⟨(wrap64 ((l0.length : Int) - 1)), ((rd_T51 l1 x6_1).f5.f0), ((rd_T51 l1 x6_1).f5.f1), ((rd_T51 l1 x6_1).f5.f2), ((rd_T51 l1 x6_1).f5.f3), (by first | rfl | (simp; done) | (simp [*]; done)), H', ⟨Nat.le_refl _⟩, ⟨by (with_reducible repeat (first | apply Kd.R_alloc | apply Kd.R_drewN | apply Kd.R_drew)); exact Kd.R_mono (Kd.R_far (p := ⟨gb177, 3, none⟩) (Kd.R_far (p := ⟨gb177, 2, none⟩) (Kd.R_far (p := ⟨gb177, 1, none⟩) (Kd.R_far (p := ⟨gb177, 0, none⟩) (Kd.R_mono HO_5.out (fun k_ hk => (⟨hk, hk.2⟩ : _ ∧ k_ ≠ gb177))) (fun _ hk => hk.2) (.int .i64 ((rd_T51 l1 x6_1).f5.f0))) (fun _ hk => hk.2) (.int .i64 ((rd_T51 l1 x6_1).f5.f1))) (fun _ hk => hk.2) (.int .u64 ((rd_T51 l1 x6_1).f5.f2))) (fun _ hk => hk.2) (.string ((rd_T51 l1 x6_1).f5.f3))) (fun _ hk => hk.1.2)⟩, ⟨by (with_reducible repeat (first | refine yN ?_ _ | refine yD ?_ | refine yA ?_ _)); refine blk_put (cs := #[.int .i64 ((rd_T51 l1 x6_1).f5.f0), .int .i64 ((rd_T51 l1 x6_1).f5.f1), .int .u64 ((rd_T51 l1 x6_1).f5.f2), .string (⟨#[]⟩ : ByteArray)]) ?_ 3 _ rfl; (with_reducible repeat (first | refine yN ?_ _ | refine yD ?_ | refine yA ?_ _)); refine blk_put (cs := #[.int .i64 ((rd_T51 l1 x6_1).f5.f0), .int .i64 ((rd_T51 l1 x6_1).f5.f1), .int .u64 0, .string (⟨#[]⟩ : ByteArray)]) ?_ 2 _ rfl; (with_reducible repeat (first | refine yN ?_ _ | refine yD ?_ | refine yA ?_ _)); refine blk_put (cs := #[.int .i64 ((rd_T51 l1 x6_1).f5.f0), .int .i64 0, .int .u64 0, .string (⟨#[]⟩ : ByteArray)]) ?_ 1 _ rfl; (with_reducible repeat (first | refine yN ?_ _ | refine yD ?_ | refine yA ?_ _)); refine blk_put (cs := #[.int .i64 0, .int .i64 0, .int .u64 0, .string (⟨#[]⟩ : ByteArray)]) ?_ 0 _ rfl; (with_reducible repeat (first | refine yN ?_ _ | refine yD ?_ | refine yA ?_ _)); exact BK177.out⟩, ⟨by repeat (first | (with_reducible first | exact HB.out | apply zA | apply zN | apply zD | refine below_set ?_ GE177.out) | exact HB.out)⟩⟩
     case round =>
      clear H'
      try clear c1
      try clear p1
      try clear q1
      try clear hx1
      try clear p2
      try clear c3
      try clear c3b0
      try clear c4
      try clear c4b0
      try clear p6
      try clear hcz6_0
      try clear hcz6_1
      try clear hcz6_2
      try clear hcz6_3
      try clear hfz6_0
      try clear hfz6_1
      try clear hfz6_2
      try clear hfz6_3
      try clear hx176_0
      try clear hx176_1
      try clear hx176_2
      try clear hx176_3
      try clear hx176_4
      try clear hx176_5
      try clear hx176_6
      try clear hx176_7
      try clear hx176_8
      try clear p176
      try clear p2
      try clear q176
      obtain ⟨x8_2, x178000_2, x178001_2, x178002_2, x178003_2, rfl, HA, HK2, HO_5, BK177, HB⟩ := hrel
      cases gk with
      | zero => exact absurd HA.out (by simp [falseworkref4_Fill.l1])
      | succ k2 =>
       have H := HA.out
       clear HA
       simp only [falseworkref4_Fill.l1] at H
       by_cases c7 : x8_2 ≥ 0
       ·rw [if_pos c7] at H
        have c7b0 : decide (0 ≤ x8_2) = true := decide_eq_true c7
        clear c7
        by_cases c8 : 0 ≤ x8_2
        ·rw [if_pos c8] at H
         have c8b0 : decide (0 ≤ x8_2) = true := decide_eq_true c8
         clear c8
         by_cases c9 : x8_2 < (l0.length : Int)
         ·rw [if_pos c9] at H
          have c9b0 : decide (x8_2 < (l0.length : Int)) = true := decide_eq_true c9
          clear c9
          by_cases c10 : 0 ≤ x6_1
          ·rw [if_pos c10] at H
           have c10b0 : decide (0 ≤ x6_1) = true := decide_eq_true c10
           clear c10
           by_cases c11 : x6_1 < (l1.length : Int)
           ·rw [if_pos c11] at H
            have c11b0 : decide (x6_1 < (l1.length : Int)) = true := decide_eq_true c11
            clear c11
            by_cases c12 : ((rd_T46 l0 x8_2).f0) = ((rd_T51 l1 x6_1).f0)
            ·rw [if_pos c12] at H
             have c12b0 : (((rd_T46 l0 x8_2).f0) == ((rd_T51 l1 x6_1).f0)) = true := beq_iff_eq.mpr c12
             have c12b1 : (((rd_T46 l0 x8_2).f0) != ((rd_T51 l1 x6_1).f0)) = false := bne_eq_false_iff_eq.mpr c12
             clear c12
             have H' := Aside0.mk H
             clear H
             have p178 : 0 ≤ (x8_2 : Int) := of_decide_eq_true (by first | (with_reducible assumption) | assumption)
             have q178 : x8_2 < (l0.length : Int) := of_decide_eq_true (by first | (with_reducible assumption) | assumption)
             obtain ⟨ad178, e178, hx178_0, hx178_1, hx178_2, hx178_3, hx178_4⟩ := at_T46 HR0.out x8_2 p178 q178
             cases e178
             replace hx178_0 := pw_cell_below HB.out hx178_0
             replace hx178_1 := pw_cell_below HB.out hx178_1
             replace hx178_2 := pw_cell_below HB.out hx178_2
             replace hx178_3 := pw_cell_below HB.out hx178_3
             replace hx178_4 := pw_cell_below HB.out hx178_4
             replace p178 := eq_true p178
             replace q178 := eq_true q178
             have p179 : 0 ≤ (x6_1 : Int) := of_decide_eq_true (by first | (with_reducible assumption) | assumption)
             have q179 : x6_1 < (l1.length : Int) := of_decide_eq_true (by first | (with_reducible assumption) | assumption)
             obtain ⟨ad179, e179, hx179_0, hx179_1, hx179_2, hx179_3, hx179_4, hx179_5, hx179_6, hx179_7, hx179_8⟩ := at_T51 HR1.out x6_1 p179 q179
             obtain rfl : ad176 = ad179 := (by injection e179)
             replace hx179_0 := pw_cell_below HB.out hx179_0
             replace hx179_1 := pw_cell_below HB.out hx179_1
             replace hx179_2 := pw_cell_below HB.out hx179_2
             replace hx179_3 := pw_cell_below HB.out hx179_3
             replace hx179_4 := pw_cell_below HB.out hx179_4
             replace hx179_5 := pw_cell_below HB.out hx179_5
             replace hx179_6 := pw_cell_below HB.out hx179_6
             replace hx179_7 := pw_cell_below HB.out hx179_7
             replace hx179_8 := pw_cell_below HB.out hx179_8
             replace p179 := eq_true p179
             replace q179 := eq_true q179
             have p180 : 0 ≤ (x8_2 : Int) := of_decide_eq_true (by first | (with_reducible assumption) | assumption)
             have q180 : x8_2 < (l0.length : Int) := of_decide_eq_true (by first | (with_reducible assumption) | assumption)
             obtain ⟨ad180, e180, hx180_0, hx180_1, hx180_2, hx180_3, hx180_4⟩ := at_T46 HR0.out x8_2 p180 q180
             obtain rfl : ad178 = ad180 := (by injection e180)
             replace hx180_0 := pw_cell_below HB.out hx180_0
             replace hx180_1 := pw_cell_below HB.out hx180_1
             replace hx180_2 := pw_cell_below HB.out hx180_2
             replace hx180_3 := pw_cell_below HB.out hx180_3
             replace hx180_4 := pw_cell_below HB.out hx180_4
             replace p180 := eq_true p180
             replace q180 := eq_true q180
             obtain ⟨hcz13_0, hcz13_1, hcz13_2, hcz13_3⟩ := blkc4 BK177.out
             obtain ⟨hfz13_0, hfz13_1, hfz13_2, hfz13_3⟩ := blkf4 BK177.out
             go_wp2
             repeat (go_quiet (fail); try go_wp2)
             go_roundg k2
             case measure => have := HK1.out; have := HK2.out; omega
             case rel => exact ⟨(wrap64 (x8_2 - 1)), ((rd_T46 l0 x8_2).f1.f0), ((rd_T46 l0 x8_2).f1.f1), ((rd_T46 l0 x8_2).f1.f2), ((rd_T46 l0 x8_2).f1.f3), (by first | rfl | (simp; done) | (simp [*]; done)), H', ⟨by have := HK1.out; have := HK2.out; omega⟩, ⟨by (with_reducible repeat (first | apply Kd.R_alloc | apply Kd.R_drewN | apply Kd.R_drew)); exact Kd.R_mono (Kd.R_far (p := ⟨gb177, 3, none⟩) (Kd.R_far (p := ⟨gb177, 2, none⟩) (Kd.R_far (p := ⟨gb177, 1, none⟩) (Kd.R_far (p := ⟨gb177, 0, none⟩) (Kd.R_mono HO_5.out (fun k_ hk => (⟨hk, hk⟩ : _ ∧ k_ ≠ gb177))) (fun _ hk => hk.2) (.int .i64 ((rd_T46 l0 x8_2).f1.f0))) (fun _ hk => hk.2) (.int .i64 ((rd_T46 l0 x8_2).f1.f1))) (fun _ hk => hk.2) (.int .u64 ((rd_T46 l0 x8_2).f1.f2))) (fun _ hk => hk.2) (.string ((rd_T46 l0 x8_2).f1.f3))) (fun _ hk => hk.1)⟩, ⟨by (with_reducible repeat (first | refine yN ?_ _ | refine yD ?_ | refine yA ?_ _)); refine blk_put (cs := #[.int .i64 ((rd_T46 l0 x8_2).f1.f0), .int .i64 ((rd_T46 l0 x8_2).f1.f1), .int .u64 ((rd_T46 l0 x8_2).f1.f2), .string x178003_2]) ?_ 3 _ rfl; (with_reducible repeat (first | refine yN ?_ _ | refine yD ?_ | refine yA ?_ _)); refine blk_put (cs := #[.int .i64 ((rd_T46 l0 x8_2).f1.f0), .int .i64 ((rd_T46 l0 x8_2).f1.f1), .int .u64 x178002_2, .string x178003_2]) ?_ 2 _ rfl; (with_reducible repeat (first | refine yN ?_ _ | refine yD ?_ | refine yA ?_ _)); refine blk_put (cs := #[.int .i64 ((rd_T46 l0 x8_2).f1.f0), .int .i64 x178001_2, .int .u64 x178002_2, .string x178003_2]) ?_ 1 _ rfl; (with_reducible repeat (first | refine yN ?_ _ | refine yD ?_ | refine yA ?_ _)); refine blk_put (cs := #[.int .i64 x178000_2, .int .i64 x178001_2, .int .u64 x178002_2, .string x178003_2]) ?_ 0 _ rfl; (with_reducible repeat (first | refine yN ?_ _ | refine yD ?_ | refine yA ?_ _)); exact BK177.out⟩, ⟨by repeat (first | (with_reducible first | exact HB.out | apply zA | apply zN | apply zD | refine below_set ?_ GE177.out) | exact HB.out)⟩⟩
            ·rw [if_neg c12] at H
             have c12b0 : (((rd_T46 l0 x8_2).f0) == ((rd_T51 l1 x6_1).f0)) = false := beq_eq_false_iff_ne.mpr c12
             have c12b1 : (((rd_T46 l0 x8_2).f0) != ((rd_T51 l1 x6_1).f0)) = true := bne_iff_ne.mpr c12
             have H' := Aside0.mk H
             clear H
             have p178 : 0 ≤ (x8_2 : Int) := of_decide_eq_true (by first | (with_reducible assumption) | assumption)
             have q178 : x8_2 < (l0.length : Int) := of_decide_eq_true (by first | (with_reducible assumption) | assumption)
             obtain ⟨ad178, e178, hx178_0, hx178_1, hx178_2, hx178_3, hx178_4⟩ := at_T46 HR0.out x8_2 p178 q178
             cases e178
             replace hx178_0 := pw_cell_below HB.out hx178_0
             replace hx178_1 := pw_cell_below HB.out hx178_1
             replace hx178_2 := pw_cell_below HB.out hx178_2
             replace hx178_3 := pw_cell_below HB.out hx178_3
             replace hx178_4 := pw_cell_below HB.out hx178_4
             replace p178 := eq_true p178
             replace q178 := eq_true q178
             have p179 : 0 ≤ (x6_1 : Int) := of_decide_eq_true (by first | (with_reducible assumption) | assumption)
             have q179 : x6_1 < (l1.length : Int) := of_decide_eq_true (by first | (with_reducible assumption) | assumption)
             obtain ⟨ad179, e179, hx179_0, hx179_1, hx179_2, hx179_3, hx179_4, hx179_5, hx179_6, hx179_7, hx179_8⟩ := at_T51 HR1.out x6_1 p179 q179
             obtain rfl : ad176 = ad179 := (by injection e179)
             replace hx179_0 := pw_cell_below HB.out hx179_0
             replace hx179_1 := pw_cell_below HB.out hx179_1
             replace hx179_2 := pw_cell_below HB.out hx179_2
             replace hx179_3 := pw_cell_below HB.out hx179_3
             replace hx179_4 := pw_cell_below HB.out hx179_4
             replace hx179_5 := pw_cell_below HB.out hx179_5
             replace hx179_6 := pw_cell_below HB.out hx179_6
             replace hx179_7 := pw_cell_below HB.out hx179_7
             replace hx179_8 := pw_cell_below HB.out hx179_8
             replace p179 := eq_true p179
             replace q179 := eq_true q179
             go_wp2
             repeat (go_quiet (fail); try go_wp2)
             go_roundg k2
             case measure => have := HK1.out; have := HK2.out; omega
             case rel => exact ⟨(wrap64 (x8_2 - 1)), (x178000_2), (x178001_2), (x178002_2), (x178003_2), (by first | rfl | (simp; done) | (simp [*]; done)), H', ⟨by have := HK1.out; have := HK2.out; omega⟩, ⟨by (with_reducible repeat (first | apply Kd.R_alloc | apply Kd.R_drewN | apply Kd.R_drew)); exact HO_5.out⟩, ⟨by (with_reducible repeat (first | refine yN ?_ _ | refine yD ?_ | refine yA ?_ _)); exact BK177.out⟩, ⟨by repeat (first | (with_reducible first | exact HB.out | apply zA | apply zN | apply zD | refine below_set ?_ GE177.out) | exact HB.out)⟩⟩
           ·rw [if_neg c11] at H
            exact absurd H (by simp)
          ·rw [if_neg c10] at H
           exact absurd H (by simp)
         ·rw [if_neg c9] at H
          exact absurd H (by simp)
        ·rw [if_neg c8] at H
         exact absurd H (by simp)
       ·rw [if_neg c7] at H
        have c7b0 : decide (0 ≤ x8_2) = false := decide_eq_false c7
        clear c7
        by_cases c14 : x5_1.length < 3518437208883
        ·rw [if_pos c14] at H
         have LMc14 := Aside0.mk c14
         clear c14
         obtain ⟨y181, hy181⟩ : ∃ y_ : List (S44), y_ = (x5_1 ++ [(⟨x178000_2, x178001_2, x178002_2, x178003_2⟩ : S44)]) := ⟨_, rfl⟩
         replace H : (falseworkref4_Fill.l0 k2 l0 l1 y181 (wrap64 (x6_1 + 1))) = some r := by first | (rw [hy181]; with_reducible exact H) | (have H2_ := (Option.bind_some _ _).symm.trans H; rw [hy181]; with_reducible exact H2_) | (have H2_ := (Option.bind_some _ _).symm.trans H; with_reducible exact H2_) | with_reducible exact H | (rw [hy181]; exact H) | exact H
         have Ny181 := Aside0.mk hy181
         clear hy181
         have H' := Aside0.mk H
         clear H
         obtain ⟨hcz15_0, hcz15_1, hcz15_2, hcz15_3⟩ := blkc4 BK177.out
         obtain ⟨hfz15_0, hfz15_1, hfz15_2, hfz15_3⟩ := blkf4 BK177.out
         go_wp2_with (first | ((with_reducible refine gate_builtin (b := .append) (xs := #[.tmp 43, .tmp 45]) rfl ?_); at_builtin; refine Kd.R_append k44 (w0 := w) w.heap.size rfl (.tmp 43) (.tmp 45) 33 44 (.agg #[(.int .i64 0), (.int .i64 0), (.int .u64 0), (.string ⟨#[]⟩)]) 40 rfl Try.underlying33 info44 rfl (by decide) (by omega) u5 x5_1 (⟨x178000_2, x178001_2, x178002_2, x178003_2⟩ : S44) [.int .i64 x178000_2, .int .i64 x178001_2, .int .u64 x178002_2, .string x178003_2] (fun k_ => k_ ≠ gb177) (fun _ => False) rfl rfl ?aP (fun _ hk => hk.elim) ?aF ?aO ?aB ?aS ?aL ?_; (case aP => exact k44_mkM _ _ _ (⟨x178000_2, x178001_2, x178002_2, x178003_2⟩ : S44)); (case aB => exact (by repeat (first | (with_reducible first | exact HB.out | apply zA | apply zN | apply zD | refine below_set ?_ GE177.out) | exact HB.out))); (case aF => exact (fun k_ hk => Kd.freshB (g := gb177) (o := .cells #[.int .i64 x178000_2, .int .i64 x178001_2, .int .u64 x178002_2, .string x178003_2] 44 (0, 0)) (by (with_reducible repeat (first | refine yN ?_ _ | refine yD ?_ | refine yA ?_ _)); exact BK177.out) k_ hk)); (case aO => exact (by (with_reducible repeat (first | apply Kd.R_alloc | apply Kd.R_drewN | apply Kd.R_drew)); exact HO_5.out)); (case aS => exact (zZ (by repeat (first | (with_reducible first | exact HB.out | apply zA | apply zN | apply zD | refine below_set ?_ GE177.out) | exact HB.out)))); (case aL => have := LMc14.out; omega); intro v182 w16 ho hb hg hat; rw [← Ny181.out] at ho; have n0_ := Aside0.mk (blk_grown (g := gb177) (o := .cells #[.int .i64 x178000_2, .int .i64 x178001_2, .int .u64 x178002_2, .string x178003_2] 44 (0, 0)) (by (with_reducible repeat (first | refine yN ?_ _ | refine yD ?_ | refine yA ?_ _)); exact BK177.out) hg (Kd.R_away HO_5.out (fun _ hk => hk))); have n1_ := Aside0.mk (hb); have n2_ := Aside0.mk (ho); clear BK177; clear HB; clear HO_5; have BK177 := n0_; have HB := n1_; have HO183 := n2_; clear n0_ n1_ n2_; clear ho hb hg hat))
         repeat (go_quiet (first | ((with_reducible refine gate_builtin (b := .append) (xs := #[.tmp 43, .tmp 45]) rfl ?_); at_builtin; refine Kd.R_append k44 (w0 := w) w.heap.size rfl (.tmp 43) (.tmp 45) 33 44 (.agg #[(.int .i64 0), (.int .i64 0), (.int .u64 0), (.string ⟨#[]⟩)]) 40 rfl Try.underlying33 info44 rfl (by decide) (by omega) u5 x5_1 (⟨x178000_2, x178001_2, x178002_2, x178003_2⟩ : S44) [.int .i64 x178000_2, .int .i64 x178001_2, .int .u64 x178002_2, .string x178003_2] (fun k_ => k_ ≠ gb177) (fun _ => False) rfl rfl ?aP (fun _ hk => hk.elim) ?aF ?aO ?aB ?aS ?aL ?_; (case aP => exact k44_mkM _ _ _ (⟨x178000_2, x178001_2, x178002_2, x178003_2⟩ : S44)); (case aB => exact (by repeat (first | (with_reducible first | exact HB.out | apply zA | apply zN | apply zD | refine below_set ?_ GE177.out) | exact HB.out))); (case aF => exact (fun k_ hk => Kd.freshB (g := gb177) (o := .cells #[.int .i64 x178000_2, .int .i64 x178001_2, .int .u64 x178002_2, .string x178003_2] 44 (0, 0)) (by (with_reducible repeat (first | refine yN ?_ _ | refine yD ?_ | refine yA ?_ _)); exact BK177.out) k_ hk)); (case aO => exact (by (with_reducible repeat (first | apply Kd.R_alloc | apply Kd.R_drewN | apply Kd.R_drew)); exact HO_5.out)); (case aS => exact (zZ (by repeat (first | (with_reducible first | exact HB.out | apply zA | apply zN | apply zD | refine below_set ?_ GE177.out) | exact HB.out)))); (case aL => have := LMc14.out; omega); intro v182 w16 ho hb hg hat; rw [← Ny181.out] at ho; have n0_ := Aside0.mk (blk_grown (g := gb177) (o := .cells #[.int .i64 x178000_2, .int .i64 x178001_2, .int .u64 x178002_2, .string x178003_2] 44 (0, 0)) (by (with_reducible repeat (first | refine yN ?_ _ | refine yD ?_ | refine yA ?_ _)); exact BK177.out) hg (Kd.R_away HO_5.out (fun _ hk => hk))); have n1_ := Aside0.mk (hb); have n2_ := Aside0.mk (ho); clear BK177; clear HB; clear HO_5; have BK177 := n0_; have HB := n1_; have HO183 := n2_; clear n0_ n1_ n2_; clear ho hb hg hat)); try go_wp2_with (first | ((with_reducible refine gate_builtin (b := .append) (xs := #[.tmp 43, .tmp 45]) rfl ?_); at_builtin; refine Kd.R_append k44 (w0 := w) w.heap.size rfl (.tmp 43) (.tmp 45) 33 44 (.agg #[(.int .i64 0), (.int .i64 0), (.int .u64 0), (.string ⟨#[]⟩)]) 40 rfl Try.underlying33 info44 rfl (by decide) (by omega) u5 x5_1 (⟨x178000_2, x178001_2, x178002_2, x178003_2⟩ : S44) [.int .i64 x178000_2, .int .i64 x178001_2, .int .u64 x178002_2, .string x178003_2] (fun k_ => k_ ≠ gb177) (fun _ => False) rfl rfl ?aP (fun _ hk => hk.elim) ?aF ?aO ?aB ?aS ?aL ?_; (case aP => exact k44_mkM _ _ _ (⟨x178000_2, x178001_2, x178002_2, x178003_2⟩ : S44)); (case aB => exact (by repeat (first | (with_reducible first | exact HB.out | apply zA | apply zN | apply zD | refine below_set ?_ GE177.out) | exact HB.out))); (case aF => exact (fun k_ hk => Kd.freshB (g := gb177) (o := .cells #[.int .i64 x178000_2, .int .i64 x178001_2, .int .u64 x178002_2, .string x178003_2] 44 (0, 0)) (by (with_reducible repeat (first | refine yN ?_ _ | refine yD ?_ | refine yA ?_ _)); exact BK177.out) k_ hk)); (case aO => exact (by (with_reducible repeat (first | apply Kd.R_alloc | apply Kd.R_drewN | apply Kd.R_drew)); exact HO_5.out)); (case aS => exact (zZ (by repeat (first | (with_reducible first | exact HB.out | apply zA | apply zN | apply zD | refine below_set ?_ GE177.out) | exact HB.out)))); (case aL => have := LMc14.out; omega); intro v182 w16 ho hb hg hat; rw [← Ny181.out] at ho; have n0_ := Aside0.mk (blk_grown (g := gb177) (o := .cells #[.int .i64 x178000_2, .int .i64 x178001_2, .int .u64 x178002_2, .string x178003_2] 44 (0, 0)) (by (with_reducible repeat (first | refine yN ?_ _ | refine yD ?_ | refine yA ?_ _)); exact BK177.out) hg (Kd.R_away HO_5.out (fun _ hk => hk))); have n1_ := Aside0.mk (hb); have n2_ := Aside0.mk (ho); clear BK177; clear HB; clear HO_5; have BK177 := n0_; have HB := n1_; have HO183 := n2_; clear n0_ n1_ n2_; clear ho hb hg hat)))
         go_roundg k2
         case measure => have := HK1.out; have := HK2.out; omega
         case rel => exact ⟨(y181), (wrap64 (x6_1 + 1)), (by first | rfl | (simp; done) | (simp [*]; done)), H', ⟨by have := HK1.out; have := HK2.out; omega⟩, ⟨by (with_reducible repeat (first | apply Kd.R_alloc | apply Kd.R_drewN | apply Kd.R_drew)); exact Kd.R_mono HO183.out (fun _ hk => trivial)⟩, ⟨by repeat (first | (with_reducible first | exact HB.out | apply zA | apply zN | apply zD | refine below_set ?_ GE177.out) | exact HB.out)⟩⟩
        ·rw [if_neg c14] at H
         exact absurd H (by simp)
    ·rw [if_neg c4] at H
     exact absurd H (by simp)
   ·rw [if_neg c3] at H
    have c3b0 : decide (x6_1 < (l1.length : Int)) = false := decide_eq_false c3
    clear c3
    obtain rfl := Option.some.inj H
    go_wp2
    repeat (go_quiet (fail); try go_wp2)
    go_ret
    exact ⟨_, by first | rfl | (simp [errW_none, errW_some] <;> rfl) | (simp [*, errW_none, errW_some] <;> rfl), by (with_reducible repeat (first | apply Kd.R_alloc | apply Kd.R_drewN | apply Kd.R_drew)); exact HO_5.out, by repeat (first | (with_reducible first | exact HB.out | apply zA | apply zN | apply zD) | exact HB.out)⟩

end Go.Proofs.Ytebfilljdnhccaa.PA
