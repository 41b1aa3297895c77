/- Contracts of the Go functions of this seat: what each call returns is what a Lean function of its arguments says; each theorem bears its own conditions. Written by a program of this session (wip/tools/mkprint.py). -/
import Derived.Test.YtcjnmnelhpjhfaaPDx0
import Derived.Test.YtcjnmnelhpjhfaaPDx2
import Derived.Test.YtcjnmnelhpjhfaaPDx3
import Derived.Test.YtcjnmnelhpjhfaaPDx6
-- squeezed
namespace Go.Proofs.Ytcjnmnelhpjhfaa.PA
open Go.RowKit Go.Proofs.YtcjnmnelhpjhfaaW.PrintWords Go.Proofs.YtcjnmnelhpjhfaaW.PrintLast Go.Proofs.YtcjnmnelhpjhfaaW.PrintMore
attribute [local go_sem] max2_int min2_int max_two min_two max_three min_three max_four min_four   -- for this text's walks alone
set_option linter.unusedVariables false
set_option linter.unusedSimpArgs false

attribute [local go_sem ↓ high] unary_xor_u64 ux_if_u64
attribute [local go_sem] str_gtr str_leq str_geq
/-! ### pred_Test: function 13 -/
def pred_Test.l0 : Nat → List (S51) → List (S40) → Int → List (S43) → Int → Int → Option (Int × Int)
 | 0, _, _, _, _, _, _ => none
 | k + 1, x0, x1, x9, x23, x24, x25 => if x25 < x24 then (if 0 ≤ x25 then (if x25 < (x23.length : Int) then ((pred_of.f x0 ((rd_T43 x23 x25).f0)).bind fun t179 => (if 0 ≤ t179 then (if t179 < (x1.length : Int) then ((pred_one.f k ((rd_T40 x1 t179).f0) ((rd_T40 x1 t179).f1) ((rd_T40 x1 t179).f2) ((rd_T40 x1 t179).f3) ((rd_T43 x23 x25).f0) ((rd_T43 x23 x25).f1) ((rd_T43 x23 x25).f2.f0) ((rd_T43 x23 x25).f2.f1) ((rd_T43 x23 x25).f2.f2) ((rd_T43 x23 x25).f2.f3)).bind fun t181 => (if t181 = 0 then (pred_Test.l0 k x0 x1 0 x23 x24 (wrap64 (x25 + 1))) else (if t181 = 1 then (pred_Test.l0 k x0 x1 x9 x23 x24 (wrap64 (x25 + 1))) else (if x9 = 1 then (pred_Test.l0 k x0 x1 (-1) x23 x24 (wrap64 (x25 + 1))) else (pred_Test.l0 k x0 x1 x9 x23 x24 (wrap64 (x25 + 1))))))) else (none)) else (none))) else (none)) else (none)) else (some (x9, 0))
def pred_Test.f (k : Nat) (l0 : List (S51)) (l1 : List (S40)) (l2 : List (S43)) : Option (Int × Int) := (pred_Check.f k l0 l2).bind fun t176 => (if t176 = 0 then (if (l1.length : Int) = (l0.length : Int) then (pred_Test.l0 k l0 l1 1 l2 (l2.length : Int) 0) else (some (0, 1))) else (some (0, t176)))
theorem pred_Test.mono_l : ∀ k, (∀ y0 y1 y2 y3 y4 y5, LeO (pred_Test.l0 k y0 y1 y2 y3 y4 y5) (pred_Test.l0 (k + 1) y0 y1 y2 y3 y4 y5))
 | 0 => fun _ _ _ _ _ _ r h => by simp [pred_Test.l0] at h
 | k + 1 => by
  have ih0 := pred_Test.mono_l k
  ·intro y0 y1 y2 y3 y4 y5
   unfold pred_Test.l0
   repeat' first
   | (with_reducible exact ih0 _ _ _ _ _ _)
   | (with_reducible exact pred_Check.mono _ _ _)
   | (with_reducible exact pred_one.mono _ _ _ _ _ _ _ _ _ _ _)
   | (with_reducible exact LeO.refl _)
   | (with_reducible exact LeO.none _)
   | (with_reducible refine LeO.ite ?_ ?_)
   | (with_reducible refine LeO.bind ?_ (fun _ => ?_))
   | exact ih0 _ _ _ _ _ _
   | exact pred_Check.mono _ _ _
   | exact pred_one.mono _ _ _ _ _ _ _ _ _ _ _
   | exact LeO.none _
   | refine LeO.ite ?_ ?_
   | refine LeO.bind ?_ (fun _ => ?_)
theorem pred_Test.mono : ∀ a0 a1 a2 k, LeO (pred_Test.f k a0 a1 a2) (pred_Test.f (k + 1) a0 a1 a2) := by
 intro a0 a1 a2 k
 have ih0 := pred_Test.mono_l k
 unfold pred_Test.f
 repeat' first
   | (with_reducible exact ih0 _ _ _ _ _ _)
   | (with_reducible exact pred_Check.mono _ _ _)
   | (with_reducible exact pred_one.mono _ _ _ _ _ _ _ _ _ _ _)
   | (with_reducible exact LeO.refl _)
   | (with_reducible exact LeO.none _)
   | (with_reducible refine LeO.ite ?_ ?_)
   | (with_reducible refine LeO.bind ?_ (fun _ => ?_))
   | exact ih0 _ _ _ _ _ _
   | exact pred_Check.mono _ _ _
   | exact pred_one.mono _ _ _ _ _ _ _ _ _ _ _
   | exact LeO.none _
   | refine LeO.ite ?_ ?_
   | refine LeO.bind ?_ (fun _ => ?_)
def pred_Test.T10 : Bool × List (List Nat × List Nat) := (true, [([], []), ([], []), ([], []), ([2], [2]), ([1, 3], [1, 3]), ([0, 4], [0, 4]), ([5], [5]), ([], []), ([6, 7, 4], [6, 7])])
def pred_Test.B10 : List Nat := [0, 0, 0, 4, 14, 31, 63, 0, 255]
theorem pred_Test.tab10 : rtab .any (opsOf Try.f13 10) = pred_Test.T10 := by kernel_rfl
theorem pred_Test.bits10 : waitsOk pred_Test.T10.2 pred_Test.B10 = true := by kernel_rfl
set_option maxHeartbeats 8000000 in
set_option maxRecDepth 100000 in
theorem pred_Test.calls (k : Nat) (A0 : Option Addr) (c0 : Nat) (l0 : List (S51)) (A1 : Option Addr) (c1 : Nat) (l1 : List (S40)) (A2 : Option Addr) (c2 : Nat) (l2 : List (S43)) (r1 : Int) (r2 : Int) (w : World) (hr0 : Kd.C k51 w A0 l0.length l0) (hc0 : l0.length ≤ c0) (hr1 : Kd.C k40 w A1 l1.length l1) (hc1 : l1.length ≤ c1) (hr2 : Kd.C k43 w A2 l2.length l2) (hc2 : l2.length ≤ c2) (h : pred_Test.f k l0 l1 l2 = some (r1, r2)) :
  Calls Try.prog 13 #[.slice A0 l0.length c0, .slice A1 l1.length c1, .slice A2 l2.length c2] w fun e w' => e = .returned (.tuple #[.int .i64 r1, .int .i64 r2]) ∧ Below w.heap.size w w' := by
 have hu43 := Try.underlying43
 have hu40 := Try.underlying40
 have HR0 := Aside0.mk hr0
 have HC0 := Aside0.mk hc0
 clear hr0 hc0
 have HR1 := Aside0.mk hr1
 have HC1 := Aside0.mk hc1
 clear hr1 hc1
 have HR2 := Aside0.mk hr2
 have HC2 := Aside0.mk hc2
 clear hr2 hc2
 have HB := Aside0.mk (Below.refl w.heap.size w)
 have H : ((pred_Check.f k l0 l2).bind fun t176 => (if t176 = 0 then (if (l1.length : Int) = (l0.length : Int) then (pred_Test.l0 k l0 l1 1 l2 (l2.length : Int) 0) else (some (0, 1))) else (some (0, t176)))) = some (r1, r2) := h
 clear h
 replace H := Option.bind_eq_some_iff.mp H
 obtain ⟨t176, A40, H⟩ := H
 replace H : (if t176 = 0 then (if (l1.length : Int) = (l0.length : Int) then (pred_Test.l0 k l0 l1 1 l2 (l2.length : Int) 0) else (some (0, 1))) else (some (0, t176))) = some (r1, r2) := H
 have A4 := Aside0.mk A40
 clear A40
 by_cases c5 : t176 = 0
 ·rw [if_pos c5] at H
  have c5b0 : (t176 == 0) = true := beq_iff_eq.mpr c5
  have c5b1 : (t176 != 0) = false := bne_eq_false_iff_eq.mpr c5
  clear c5
  by_cases c6 : (l1.length : Int) = (l0.length : Int)
  ·rw [if_pos c6] at H
   have c6b0 : ((l1.length : Int) == (l0.length : Int)) = true := beq_iff_eq.mpr c6
   have c6b1 : ((l1.length : Int) != (l0.length : Int)) = false := bne_eq_false_iff_eq.mpr c6
   have c6b2 : (l1.length == l0.length) = true := by first | simpa using c6 | (simp at c6 ⊢; omega)
   clear c6
   have H' := Aside0.mk H
   clear H
   go_enter Try.func13, Try.ntmps13
   go_wp2_with (first | ((with_reducible refine gate_callee (f := 10) rfl ?_); refine goesL_ (some 14) rfl rfl Try.func10 (by kernel_rfl) rfl #[.slice A0 l0.length c0, .slice A2 l2.length c2] rfl (by (try simp only [List.map_toArray, List.map_cons, List.map_nil]); first | done | rfl | (simp only [List.length_drop, List.length_take]; rfl)) ?_; (with_reducible refine (pred_Check.calls k _ _ l0 _ _ l2 t176 _ ?side1 ?side2 ?side3 ?side4 A4.out).mono ?_); (case side1 => repeat (first | exact HR0.out | (with_reducible refine Kd.C_alloc ?_ _) | (with_reducible refine Kd.C_drewN ?_ _) | (with_reducible refine Kd.C_drew ?_))); (case side2 => exact HC0.out); (case side3 => repeat (first | exact HR2.out | (with_reducible refine Kd.C_alloc ?_ _) | (with_reducible refine Kd.C_drewN ?_ _) | (with_reducible refine Kd.C_drew ?_))); (case side4 => exact HC2.out); rintro e w7 ⟨rfl, hb⟩; refine ⟨_, rfl, ?_⟩; have n0_ := Aside0.mk (zS (by repeat (first | (with_reducible first | exact HB.out | apply zA | apply zN | apply zD) | exact HB.out)) hb); clear HB; have HB := n0_; clear n0_; (try clear hb); (try clear hb2); (try clear hk); (try clear hi)))
   go_loopg [9, 25] k (fun kq v9 v25 w' => ∃ (x9_1 : Int) (x25_1 : Int), v9 = .int .i64 x9_1 ∧ v25 = .int .i64 x25_1 ∧ Aside0 (pred_Test.l0 kq l0 l1 x9_1 l2 (l2.length : Int) x25_1 = some (r1, r2)) ∧ Aside0 (kq ≤ k) ∧ Aside0 (Below w.heap.size w w'))
   case atStart => exact ⟨(1), (0), (by first | rfl | (simp; done) | (simp [*]; done)), (by first | rfl | (simp; done) | (simp [*]; done)), H', ⟨Nat.le_refl _⟩, ⟨by repeat (first | (with_reducible first | exact HB.out | apply zA | apply zN | apply zD) | exact HB.out)⟩⟩
   case round =>
    clear H'
    try clear c1
    try clear c2
    try clear p2
    try clear c5
    try clear c5b0
    try clear c5b1
    try clear c6
    try clear c6b0
    try clear c6b1
    try clear c6b2
    obtain ⟨x9_1, x25_1, rfl, rfl, HA, HK1, HB⟩ := hrel
    cases gk with
    | zero => exact absurd HA.out (by simp [pred_Test.l0])
    | succ k1 =>
     have H := HA.out
     clear HA
     simp only [pred_Test.l0] at H
     by_cases c8 : x25_1 < (l2.length : Int)
     ·rw [if_pos c8] at H
      have c8b0 : decide (x25_1 < (l2.length : Int)) = true := decide_eq_true c8
      clear c8
      by_cases c9 : 0 ≤ x25_1
      ·rw [if_pos c9] at H
       have c9b0 : decide (0 ≤ x25_1) = true := decide_eq_true c9
       clear c9
       by_cases c10 : x25_1 < (l2.length : Int)
       ·rw [if_pos c10] at H
        have c10b0 : decide (x25_1 < (l2.length : Int)) = true := decide_eq_true c10
        clear c10
        replace H := Option.bind_eq_some_iff.mp H
        obtain ⟨t179, A110, H⟩ := H
        replace H : (if 0 ≤ t179 then (if t179 < (l1.length : Int) then ((pred_one.f k1 ((rd_T40 l1 t179).f0) ((rd_T40 l1 t179).f1) ((rd_T40 l1 t179).f2) ((rd_T40 l1 t179).f3) ((rd_T43 l2 x25_1).f0) ((rd_T43 l2 x25_1).f1) ((rd_T43 l2 x25_1).f2.f0) ((rd_T43 l2 x25_1).f2.f1) ((rd_T43 l2 x25_1).f2.f2) ((rd_T43 l2 x25_1).f2.f3)).bind fun t181 => (if t181 = 0 then (pred_Test.l0 k1 l0 l1 0 l2 (l2.length : Int) (wrap64 (x25_1 + 1))) else (if t181 = 1 then (pred_Test.l0 k1 l0 l1 x9_1 l2 (l2.length : Int) (wrap64 (x25_1 + 1))) else (if x9_1 = 1 then (pred_Test.l0 k1 l0 l1 (-1) l2 (l2.length : Int) (wrap64 (x25_1 + 1))) else (pred_Test.l0 k1 l0 l1 x9_1 l2 (l2.length : Int) (wrap64 (x25_1 + 1))))))) else (none)) else (none)) = some (r1, r2) := H
        have A11 := Aside0.mk A110
        clear A110
        by_cases c12 : 0 ≤ t179
        ·rw [if_pos c12] at H
         have c12b0 : decide (0 ≤ t179) = true := decide_eq_true c12
         clear c12
         by_cases c13 : t179 < (l1.length : Int)
         ·rw [if_pos c13] at H
          have c13b0 : decide (t179 < (l1.length : Int)) = true := decide_eq_true c13
          clear c13
          replace H := Option.bind_eq_some_iff.mp H
          obtain ⟨t181, A140, H⟩ := H
          replace H : (if t181 = 0 then (pred_Test.l0 k1 l0 l1 0 l2 (l2.length : Int) (wrap64 (x25_1 + 1))) else (if t181 = 1 then (pred_Test.l0 k1 l0 l1 x9_1 l2 (l2.length : Int) (wrap64 (x25_1 + 1))) else (if x9_1 = 1 then (pred_Test.l0 k1 l0 l1 (-1) l2 (l2.length : Int) (wrap64 (x25_1 + 1))) else (pred_Test.l0 k1 l0 l1 x9_1 l2 (l2.length : Int) (wrap64 (x25_1 + 1)))))) = some (r1, r2) := H
          have A14 := Aside0.mk A140
          clear A140
          by_cases c15 : t181 = 0
          ·rw [if_pos c15] at H
           have c15b0 : (t181 == 0) = true := beq_iff_eq.mpr c15
           have c15b1 : (t181 != 0) = false := bne_eq_false_iff_eq.mpr c15
           clear c15
           have H' := Aside0.mk H
           clear H
           have p177 : 0 ≤ (x25_1 : Int) := of_decide_eq_true (by first | (with_reducible assumption) | assumption)
           have q177 : x25_1 < (l2.length : Int) := of_decide_eq_true (by first | (with_reducible assumption) | assumption)
           obtain ⟨ad177, e177, hx177_0, hx177_1, hx177_2, hx177_3, hx177_4, hx177_5⟩ := at_T43 HR2.out x25_1 p177 q177
           cases e177
           replace hx177_0 := pw_cell_below HB.out hx177_0
           replace hx177_1 := pw_cell_below HB.out hx177_1
           replace hx177_2 := pw_cell_below HB.out hx177_2
           replace hx177_3 := pw_cell_below HB.out hx177_3
           replace hx177_4 := pw_cell_below HB.out hx177_4
           replace hx177_5 := pw_cell_below HB.out hx177_5
           replace p177 := eq_true p177
           replace q177 := eq_true q177
           try go_wp2_with (first | ((with_reducible refine gate_dst (N := 11) rfl ?_); refine box_event ?hg (N := 11) ?hd (cs := #[.string (⟨#[]⟩ : ByteArray), .int .i64 0, .int .i64 0, .int .i64 0, .int .u64 0, .string (⟨#[]⟩ : ByteArray)]) (t := 43) ?hr ?_; (case hd => rfl); (case hg => rfl); (case hr => first | (go_simp; done) | (go_simp; rfl)); intro gb178 hg w16 hbox hb; have n0_ := Aside0.mk (zS (by repeat (first | (with_reducible first | exact HB.out | apply zA | apply zN | apply zD) | exact HB.out)) hb); have n1_ := Aside0.mk (hbox); have n2_ := Aside0.mk ((by rw [hg]; exact (zZ (by repeat (first | (with_reducible first | exact HB.out | apply zA | apply zN | apply zD) | exact HB.out))) : w.heap.size ≤ gb178)); have n3_ := Aside0.mk ((by rw [hg]; exact (zZ (by repeat (first | (with_reducible first | exact HB.out | apply zA | apply zN | apply zD) | exact HB.out))) : w.heap.size ≤ gb178)); clear HB; have HB := n0_; have BK178 := n1_; have GW178 := n2_; have GE178 := n3_; clear n0_ n1_ n2_ n3_; clear hb hbox hg; obtain ⟨hcz17_0, hcz17_1, hcz17_2, hcz17_3, hcz17_4, hcz17_5⟩ := blkc6 BK178.out; obtain ⟨hfz17_0, hfz17_1, hfz17_2, hfz17_3, hfz17_4, hfz17_5⟩ := blkf6 BK178.out))
           have n0_ : Aside0 (((((((w16.setCell ⟨gb178, 0, none⟩ (.string ((rd_T43 l2 x25_1).f0))).setCell ⟨gb178, 1, none⟩ (.int .i64 ((rd_T43 l2 x25_1).f1))).setCell ⟨gb178, 2, none⟩ (.int .i64 ((rd_T43 l2 x25_1).f2.f0))).setCell ⟨gb178, 3, none⟩ (.int .i64 ((rd_T43 l2 x25_1).f2.f1))).setCell ⟨gb178, 4, none⟩ (.int .u64 ((rd_T43 l2 x25_1).f2.f2))).setCell ⟨gb178, 5, none⟩ (.string ((rd_T43 l2 x25_1).f2.f3))).heap[gb178]? = some (.cells #[.string ((rd_T43 l2 x25_1).f0), .int .i64 ((rd_T43 l2 x25_1).f1), .int .i64 ((rd_T43 l2 x25_1).f2.f0), .int .i64 ((rd_T43 l2 x25_1).f2.f1), .int .u64 ((rd_T43 l2 x25_1).f2.f2), .string ((rd_T43 l2 x25_1).f2.f3)] 43 (0, 0))) := ⟨by (with_reducible repeat (first | refine yN ?_ _ | refine yD ?_ | refine yA ?_ _)); refine blk_put (cs := #[.string ((rd_T43 l2 x25_1).f0), .int .i64 ((rd_T43 l2 x25_1).f1), .int .i64 ((rd_T43 l2 x25_1).f2.f0), .int .i64 ((rd_T43 l2 x25_1).f2.f1), .int .u64 ((rd_T43 l2 x25_1).f2.f2), .string (⟨#[]⟩ : ByteArray)]) ?_ 5 _ rfl; (with_reducible repeat (first | refine yN ?_ _ | refine yD ?_ | refine yA ?_ _)); refine blk_put (cs := #[.string ((rd_T43 l2 x25_1).f0), .int .i64 ((rd_T43 l2 x25_1).f1), .int .i64 ((rd_T43 l2 x25_1).f2.f0), .int .i64 ((rd_T43 l2 x25_1).f2.f1), .int .u64 0, .string (⟨#[]⟩ : ByteArray)]) ?_ 4 _ rfl; (with_reducible repeat (first | refine yN ?_ _ | refine yD ?_ | refine yA ?_ _)); refine blk_put (cs := #[.string ((rd_T43 l2 x25_1).f0), .int .i64 ((rd_T43 l2 x25_1).f1), .int .i64 ((rd_T43 l2 x25_1).f2.f0), .int .i64 0, .int .u64 0, .string (⟨#[]⟩ : ByteArray)]) ?_ 3 _ rfl; (with_reducible repeat (first | refine yN ?_ _ | refine yD ?_ | refine yA ?_ _)); refine blk_put (cs := #[.string ((rd_T43 l2 x25_1).f0), .int .i64 ((rd_T43 l2 x25_1).f1), .int .i64 0, .int .i64 0, .int .u64 0, .string (⟨#[]⟩ : ByteArray)]) ?_ 2 _ rfl; (with_reducible repeat (first | refine yN ?_ _ | refine yD ?_ | refine yA ?_ _)); refine blk_put (cs := #[.string ((rd_T43 l2 x25_1).f0), .int .i64 0, .int .i64 0, .int .i64 0, .int .u64 0, .string (⟨#[]⟩ : ByteArray)]) ?_ 1 _ rfl; (with_reducible repeat (first | refine yN ?_ _ | refine yD ?_ | refine yA ?_ _)); refine blk_put (cs := #[.string (⟨#[]⟩ : ByteArray), .int .i64 0, .int .i64 0, .int .i64 0, .int .u64 0, .string (⟨#[]⟩ : ByteArray)]) ?_ 0 _ rfl; (with_reducible repeat (first | refine yN ?_ _ | refine yD ?_ | refine yA ?_ _)); exact BK178.out⟩
           have n1_ : Aside0 (Below w.heap.size w ((((((w16.setCell ⟨gb178, 0, none⟩ (.string ((rd_T43 l2 x25_1).f0))).setCell ⟨gb178, 1, none⟩ (.int .i64 ((rd_T43 l2 x25_1).f1))).setCell ⟨gb178, 2, none⟩ (.int .i64 ((rd_T43 l2 x25_1).f2.f0))).setCell ⟨gb178, 3, none⟩ (.int .i64 ((rd_T43 l2 x25_1).f2.f1))).setCell ⟨gb178, 4, none⟩ (.int .u64 ((rd_T43 l2 x25_1).f2.f2))).setCell ⟨gb178, 5, none⟩ (.string ((rd_T43 l2 x25_1).f2.f3)))) := ⟨by repeat (first | (with_reducible first | exact HB.out | apply zA | apply zN | apply zD | refine below_set ?_ GE178.out) | exact HB.out)⟩
           (try clear BK178)
           (try clear HB)
           generalize ((((((w16.setCell ⟨gb178, 0, none⟩ (.string ((rd_T43 l2 x25_1).f0))).setCell ⟨gb178, 1, none⟩ (.int .i64 ((rd_T43 l2 x25_1).f1))).setCell ⟨gb178, 2, none⟩ (.int .i64 ((rd_T43 l2 x25_1).f2.f0))).setCell ⟨gb178, 3, none⟩ (.int .i64 ((rd_T43 l2 x25_1).f2.f1))).setCell ⟨gb178, 4, none⟩ (.int .u64 ((rd_T43 l2 x25_1).f2.f2))).setCell ⟨gb178, 5, none⟩ (.string ((rd_T43 l2 x25_1).f2.f3))) = w18 at n0_ n1_ ⊢
           have BK178 := n0_
           have HB := n1_
           clear n0_ n1_
           have n0_ := Aside0.mk (yD BK178.out)
           have n1_ := Aside0.mk (zD HB.out)
           clear BK178
           clear HB
           have BK178 := n0_
           have HB := n1_
           clear n0_ n1_
           have p180 : 0 ≤ (t179 : Int) := of_decide_eq_true (by first | (with_reducible assumption) | assumption)
           have q180 : t179 < (l1.length : Int) := of_decide_eq_true (by first | (with_reducible assumption) | assumption)
           obtain ⟨ad180, e180, hx180_0, hx180_1, hx180_2, hx180_3⟩ := at_T40 HR1.out t179 p180 q180
           have hw180_3 := hx180_3
           have hw180_2 := hx180_2
           have hw180_1 := hx180_1
           have hw180_0 := hx180_0
           cases e180
           replace hx180_0 := pw_cell_below HB.out hx180_0
           replace hx180_1 := pw_cell_below HB.out hx180_1
           replace hx180_2 := pw_cell_below HB.out hx180_2
           replace hx180_3 := pw_cell_below HB.out hx180_3
           replace p180 := eq_true p180
           replace q180 := eq_true q180
           refine start_ (n := 9) (S := fun w' => w'.cell? ⟨gb178, 0, none⟩ = some (.string ((rd_T43 l2 x25_1).f0)) ∧ w'.cell? ⟨gb178, 1, none⟩ = some (.int .i64 ((rd_T43 l2 x25_1).f1)) ∧ w'.cell? ⟨gb178, 2, none⟩ = some (.int .i64 ((rd_T43 l2 x25_1).f2.f0)) ∧ w'.cell? ⟨gb178, 3, none⟩ = some (.int .i64 ((rd_T43 l2 x25_1).f2.f1)) ∧ w'.cell? ⟨gb178, 4, none⟩ = some (.int .u64 ((rd_T43 l2 x25_1).f2.f2)) ∧ w'.cell? ⟨gb178, 5, none⟩ = some (.string ((rd_T43 l2 x25_1).f2.f3)) ∧ w'.cell? (ad180.add ((t179).toNat * 4)) = some (.int .i64 ((rd_T40 l1 t179).f0)) ∧ w'.cell? ⟨(ad180.add ((t179).toNat * 4)).block, (ad180.add ((t179).toNat * 4)).off + 1, none⟩ = some (.int .i64 ((rd_T40 l1 t179).f1)) ∧ w'.cell? ⟨(ad180.add ((t179).toNat * 4)).block, (ad180.add ((t179).toNat * 4)).off + 2, none⟩ = some (.int .u64 ((rd_T40 l1 t179).f2)) ∧ w'.cell? ⟨(ad180.add ((t179).toNat * 4)).block, (ad180.add ((t179).toNat * 4)).off + 3, none⟩ = some (.string ((rd_T40 l1 t179).f3))) (ds := []) #[false, false, false, false, false, false, false, false, false] (by kernel_rfl) rfl rfl ⟨(blk_cell BK178.out 0).trans rfl, (blk_cell BK178.out 1).trans rfl, (blk_cell BK178.out 2).trans rfl, (blk_cell BK178.out 3).trans rfl, (blk_cell BK178.out 4).trans rfl, (blk_cell BK178.out 5).trans rfl, (pw_cell_below HB.out hw180_0), (pw_cell_below HB.out hw180_1), (pw_cell_below HB.out hw180_2), (pw_cell_below HB.out hw180_3)⟩ (fun hHeld => ?_); refine with_tabW pred_Test.tab10 pred_Test.bits10 (fun HT_ HW_ => ?_)
           generalize w18.drew = w19 at BK178 HB hx180_0 hx180_1 hx180_2 hx180_3 hHeld ⊢
           refine pure_ (i := 0) (N := some 29) (v := ?_) (a' := ?_) #[true, false, false, false, false, false, false, false, false] rfl rfl (any_of HT_.out (by kernel_rfl)) (fun _ _ _ h => h) (Or.inl ⟨by rfl, ?_⟩) ?_ ?_
           rotate_left
           ·intro w'
            go_simp
            with_reducible rfl
           rotate_left
           ·simp only [Act.put, List.setIfInBounds_toArray, List.set_cons_zero, List.set_cons_succ, i64_w, i32_w]
            rfl
           refine pure_ (i := 1) (N := some 30) (v := ?_) (a' := ?_) #[true, true, false, false, false, false, false, false, false] rfl rfl (any_of HT_.out (by kernel_rfl)) (fun _ _ _ h => h) (Or.inl ⟨by rfl, ?_⟩) ?_ ?_
           rotate_left
           ·intro w'
            go_simp
            with_reducible rfl
           rotate_left
           ·simp only [Act.put, List.setIfInBounds_toArray, List.set_cons_zero, List.set_cons_succ, i64_w, i32_w]
            rfl
           refine pure_ (i := 2) (N := some 31) (v := ?_) (a' := ?_) #[true, true, true, false, false, false, false, false, false] rfl rfl (any_of HT_.out (by kernel_rfl)) (fun _ _ _ h => h) (Or.inl ⟨by rfl, ?_⟩) ?_ ?_
           rotate_left
           ·intro w'
            go_simp
            with_reducible rfl
           rotate_left
           ·simp only [Act.put, List.setIfInBounds_toArray, List.set_cons_zero, List.set_cons_succ, i64_w, i32_w]
            rfl
           refine take_ (i := 3) (N := some 32) (v := ?_) (a' := ?_) #[true, true, true, true, false, false, false, false, false] rfl rfl (take_ofW HT_.out HW_.out (by kernel_rfl)) (fun _ _ _ h => h) (Or.inl ⟨by rfl, ?_⟩) hHeld ?_ ?_
           rotate_left
           ·rintro w' ⟨s0, s1, s2, s3, s4, s5, s6, s7, s8, s9⟩
            go_simp
            with_reducible rfl
           rotate_left
           ·simp only [Act.put, List.setIfInBounds_toArray, List.set_cons_zero, List.set_cons_succ, i64_w, i32_w]
            rfl
           refine take_ (i := 7) (N := some 36) (v := ?_) (a' := ?_) #[true, true, true, true, false, false, false, true, false] rfl rfl (take_ofW HT_.out HW_.out (by kernel_rfl)) (fun _ _ _ h => h) (Or.inl ⟨by rfl, ?_⟩) hHeld ?_ ?_
           rotate_left
           ·rintro w' ⟨s0, s1, s2, s3, s4, s5, s6, s7, s8, s9⟩
            go_simp
            with_reducible rfl
           rotate_left
           ·simp only [Act.put, List.setIfInBounds_toArray, List.set_cons_zero, List.set_cons_succ, i64_w, i32_w]
            rfl
           refine one_ (i := 4) (N := some 33) #[true, true, true, true, true, false, false, true, false] rfl rfl (one_of HT_.out (by kernel_rfl)) (by decide) (fun K hK => ?_)
           refine goes_ Try.func18 (by kernel_rfl) rfl #[.slice A0 l0.length c0, .string ((rd_T43 l2 x25_1).f0)] (by rfl) rfl rfl (by (try simp only [List.map_toArray, List.map_cons, List.map_nil]); first | done | rfl | (simp only [List.length_drop, List.length_take]; rfl)) ?_
           with_reducible refine (pred_of.calls _ _ l0 ((rd_T43 l2 x25_1).f0) t179 _ ?side1 ?side2 A11.out).mono ?_
           (case side1 => repeat (first | exact (Kd.C_below HR0.out HB.out) | (with_reducible refine Kd.C_alloc ?_ _) | (with_reducible refine Kd.C_drewN ?_ _) | (with_reducible refine Kd.C_drew ?_)))
           (case side2 => exact HC0.out)
           rintro e w20 ⟨rfl, hb⟩
           refine ⟨_, rfl, ?_⟩
           have n0_ := Aside0.mk (yB (g := gb178) (o := .cells #[.string ((rd_T43 l2 x25_1).f0), .int .i64 ((rd_T43 l2 x25_1).f1), .int .i64 ((rd_T43 l2 x25_1).f2.f0), .int .i64 ((rd_T43 l2 x25_1).f2.f1), .int .u64 ((rd_T43 l2 x25_1).f2.f2), .string ((rd_T43 l2 x25_1).f2.f3)] 43 (0, 0)) (by (with_reducible repeat (first | refine yN ?_ _ | refine yD ?_ | refine yA ?_ _)); exact BK178.out) hb)
           have n1_ := Aside0.mk (zS (by repeat (first | (with_reducible first | exact HB.out | apply zA | apply zN | apply zD | refine below_set ?_ GE178.out) | exact HB.out)) hb)
           clear BK178
           clear HB
           have BK178 := n0_
           have HB := n1_
           clear n0_ n1_
           (try clear hb)
           (try clear hb2)
           (try clear hk)
           (try clear hi)
           refine hK.out _ _ ⟨(blk_cell BK178.out 0).trans rfl, (blk_cell BK178.out 1).trans rfl, (blk_cell BK178.out 2).trans rfl, (blk_cell BK178.out 3).trans rfl, (blk_cell BK178.out 4).trans rfl, (blk_cell BK178.out 5).trans rfl, (pw_cell_below HB.out hw180_0), (pw_cell_below HB.out hw180_1), (pw_cell_below HB.out hw180_2), (pw_cell_below HB.out hw180_3)⟩ (fun hHeld => ?_)
           clear hK K
           refine norm_ (a' := ?_) ?_ ?_
           rotate_left
           ·show Act.put _ (some 33) _ = _
            simp only [Act.put, List.setIfInBounds_toArray, List.set_cons_zero, List.set_cons_succ, i64_w, i32_w]
            rfl
           refine pure_ (i := 5) (N := some 34) (v := ?_) (a' := ?_) #[true, true, true, true, true, true, false, true, false] rfl rfl (any_of HT_.out (by kernel_rfl)) (fun _ _ _ h => h) (Or.inl ⟨by rfl, ?_⟩) ?_ ?_
           rotate_left
           ·intro w'
            go_simp
            with_reducible rfl
           rotate_left
           ·simp only [Act.put, List.setIfInBounds_toArray, List.set_cons_zero, List.set_cons_succ, i64_w, i32_w]
            rfl
           refine take_ (i := 6) (N := some 35) (v := ?_) (a' := ?_) #[true, true, true, true, true, true, true, true, false] rfl rfl (take_ofW HT_.out HW_.out (by kernel_rfl)) (fun _ _ _ h => h) (Or.inl ⟨by rfl, ?_⟩) hHeld ?_ ?_
           rotate_left
           ·rintro w' ⟨s0, s1, s2, s3, s4, s5, s6, s7, s8, s9⟩
            go_simp
            with_reducible rfl
           rotate_left
           ·simp only [Act.put, List.setIfInBounds_toArray, List.set_cons_zero, List.set_cons_succ, i64_w, i32_w]
            rfl
           refine one_ (i := 8) (N := some 37) #[true, true, true, true, true, true, true, true, true] rfl rfl (one_of HT_.out (by kernel_rfl)) (by decide) (fun K hK => ?_)
           refine goes_ Try.func22 (by kernel_rfl) rfl #[.agg #[.int .i64 ((rd_T40 l1 t179).f0), .int .i64 ((rd_T40 l1 t179).f1), .int .u64 ((rd_T40 l1 t179).f2), .string ((rd_T40 l1 t179).f3)], .agg #[.string ((rd_T43 l2 x25_1).f0), .int .i64 ((rd_T43 l2 x25_1).f1), .int .i64 ((rd_T43 l2 x25_1).f2.f0), .int .i64 ((rd_T43 l2 x25_1).f2.f1), .int .u64 ((rd_T43 l2 x25_1).f2.f2), .string ((rd_T43 l2 x25_1).f2.f3)]] (by rfl) rfl rfl (by (try simp only [List.map_toArray, List.map_cons, List.map_nil]); first | done | rfl | (simp only [List.length_drop, List.length_take]; rfl)) ?_
           with_reducible refine (pred_one.calls k1 ((rd_T40 l1 t179).f0) ((rd_T40 l1 t179).f1) ((rd_T40 l1 t179).f2) ((rd_T40 l1 t179).f3) ((rd_T43 l2 x25_1).f0) ((rd_T43 l2 x25_1).f1) ((rd_T43 l2 x25_1).f2.f0) ((rd_T43 l2 x25_1).f2.f1) ((rd_T43 l2 x25_1).f2.f2) ((rd_T43 l2 x25_1).f2.f3) t181 _ A14.out).mono ?_
           rintro e w21 ⟨rfl, hb⟩
           refine ⟨_, rfl, ?_⟩
           have n0_ := Aside0.mk (yB (g := gb178) (o := .cells #[.string ((rd_T43 l2 x25_1).f0), .int .i64 ((rd_T43 l2 x25_1).f1), .int .i64 ((rd_T43 l2 x25_1).f2.f0), .int .i64 ((rd_T43 l2 x25_1).f2.f1), .int .u64 ((rd_T43 l2 x25_1).f2.f2), .string ((rd_T43 l2 x25_1).f2.f3)] 43 (0, 0)) (by (with_reducible repeat (first | refine yN ?_ _ | refine yD ?_ | refine yA ?_ _)); exact BK178.out) hb)
           have n1_ := Aside0.mk (zS (by repeat (first | (with_reducible first | exact HB.out | apply zA | apply zN | apply zD | refine below_set ?_ GE178.out) | exact HB.out)) hb)
           clear BK178
           clear HB
           have BK178 := n0_
           have HB := n1_
           clear n0_ n1_
           (try clear hb)
           (try clear hb2)
           (try clear hk)
           (try clear hi)
           refine hK.out _ _ ⟨(blk_cell BK178.out 0).trans rfl, (blk_cell BK178.out 1).trans rfl, (blk_cell BK178.out 2).trans rfl, (blk_cell BK178.out 3).trans rfl, (blk_cell BK178.out 4).trans rfl, (blk_cell BK178.out 5).trans rfl, (pw_cell_below HB.out hw180_0), (pw_cell_below HB.out hw180_1), (pw_cell_below HB.out hw180_2), (pw_cell_below HB.out hw180_3)⟩ (fun hHeld => ?_)
           clear hK K
           refine norm_ (a' := ?_) ?_ ?_
           rotate_left
           ·show Act.put _ (some 37) _ = _
            simp only [Act.put, List.setIfInBounds_toArray, List.set_cons_zero, List.set_cons_succ, i64_w, i32_w]
            rfl
           refine done_ (done_of HT_.out (by kernel_rfl)) ?_
           try go_wp2
           go_roundg k1
           case measure => have := HK1.out; omega
           case rel => exact ⟨(0), (wrap64 (x25_1 + 1)), (by first | rfl | (simp; done) | (simp [*]; done)), (by first | rfl | (simp; done) | (simp [*]; done)), H', ⟨by have := HK1.out; omega⟩, ⟨by repeat (first | (with_reducible first | exact HB.out | apply zA | apply zN | apply zD | refine below_set ?_ GE178.out) | exact HB.out)⟩⟩
          ·rw [if_neg c15] at H
           have c15b0 : (t181 == 0) = false := beq_eq_false_iff_ne.mpr c15
           have c15b1 : (t181 != 0) = true := bne_iff_ne.mpr c15
           by_cases c22 : t181 = 1
           ·rw [if_pos c22] at H
            have c22b0 : (t181 == 1) = true := beq_iff_eq.mpr c22
            have c22b1 : (t181 != 1) = false := bne_eq_false_iff_eq.mpr c22
            clear c22
            have H' := Aside0.mk H
            clear H
            have p177 : 0 ≤ (x25_1 : Int) := of_decide_eq_true (by first | (with_reducible assumption) | assumption)
            have q177 : x25_1 < (l2.length : Int) := of_decide_eq_true (by first | (with_reducible assumption) | assumption)
            obtain ⟨ad177, e177, hx177_0, hx177_1, hx177_2, hx177_3, hx177_4, hx177_5⟩ := at_T43 HR2.out x25_1 p177 q177
            cases e177
            replace hx177_0 := pw_cell_below HB.out hx177_0
            replace hx177_1 := pw_cell_below HB.out hx177_1
            replace hx177_2 := pw_cell_below HB.out hx177_2
            replace hx177_3 := pw_cell_below HB.out hx177_3
            replace hx177_4 := pw_cell_below HB.out hx177_4
            replace hx177_5 := pw_cell_below HB.out hx177_5
            replace p177 := eq_true p177
            replace q177 := eq_true q177
            try go_wp2_with (first | ((with_reducible refine gate_dst (N := 11) rfl ?_); refine box_event ?hg (N := 11) ?hd (cs := #[.string (⟨#[]⟩ : ByteArray), .int .i64 0, .int .i64 0, .int .i64 0, .int .u64 0, .string (⟨#[]⟩ : ByteArray)]) (t := 43) ?hr ?_; (case hd => rfl); (case hg => rfl); (case hr => first | (go_simp; done) | (go_simp; rfl)); intro gb178 hg w23 hbox hb; have n0_ := Aside0.mk (zS (by repeat (first | (with_reducible first | exact HB.out | apply zA | apply zN | apply zD) | exact HB.out)) hb); have n1_ := Aside0.mk (hbox); have n2_ := Aside0.mk ((by rw [hg]; exact (zZ (by repeat (first | (with_reducible first | exact HB.out | apply zA | apply zN | apply zD) | exact HB.out))) : w.heap.size ≤ gb178)); have n3_ := Aside0.mk ((by rw [hg]; exact (zZ (by repeat (first | (with_reducible first | exact HB.out | apply zA | apply zN | apply zD) | exact HB.out))) : w.heap.size ≤ gb178)); clear HB; have HB := n0_; have BK178 := n1_; have GW178 := n2_; have GE178 := n3_; clear n0_ n1_ n2_ n3_; clear hb hbox hg; obtain ⟨hcz24_0, hcz24_1, hcz24_2, hcz24_3, hcz24_4, hcz24_5⟩ := blkc6 BK178.out; obtain ⟨hfz24_0, hfz24_1, hfz24_2, hfz24_3, hfz24_4, hfz24_5⟩ := blkf6 BK178.out))
            have n0_ : Aside0 (((((((w23.setCell ⟨gb178, 0, none⟩ (.string ((rd_T43 l2 x25_1).f0))).setCell ⟨gb178, 1, none⟩ (.int .i64 ((rd_T43 l2 x25_1).f1))).setCell ⟨gb178, 2, none⟩ (.int .i64 ((rd_T43 l2 x25_1).f2.f0))).setCell ⟨gb178, 3, none⟩ (.int .i64 ((rd_T43 l2 x25_1).f2.f1))).setCell ⟨gb178, 4, none⟩ (.int .u64 ((rd_T43 l2 x25_1).f2.f2))).setCell ⟨gb178, 5, none⟩ (.string ((rd_T43 l2 x25_1).f2.f3))).heap[gb178]? = some (.cells #[.string ((rd_T43 l2 x25_1).f0), .int .i64 ((rd_T43 l2 x25_1).f1), .int .i64 ((rd_T43 l2 x25_1).f2.f0), .int .i64 ((rd_T43 l2 x25_1).f2.f1), .int .u64 ((rd_T43 l2 x25_1).f2.f2), .string ((rd_T43 l2 x25_1).f2.f3)] 43 (0, 0))) := ⟨by (with_reducible repeat (first | refine yN ?_ _ | refine yD ?_ | refine yA ?_ _)); refine blk_put (cs := #[.string ((rd_T43 l2 x25_1).f0), .int .i64 ((rd_T43 l2 x25_1).f1), .int .i64 ((rd_T43 l2 x25_1).f2.f0), .int .i64 ((rd_T43 l2 x25_1).f2.f1), .int .u64 ((rd_T43 l2 x25_1).f2.f2), .string (⟨#[]⟩ : ByteArray)]) ?_ 5 _ rfl; (with_reducible repeat (first | refine yN ?_ _ | refine yD ?_ | refine yA ?_ _)); refine blk_put (cs := #[.string ((rd_T43 l2 x25_1).f0), .int .i64 ((rd_T43 l2 x25_1).f1), .int .i64 ((rd_T43 l2 x25_1).f2.f0), .int .i64 ((rd_T43 l2 x25_1).f2.f1), .int .u64 0, .string (⟨#[]⟩ : ByteArray)]) ?_ 4 _ rfl; (with_reducible repeat (first | refine yN ?_ _ | refine yD ?_ | refine yA ?_ _)); refine blk_put (cs := #[.string ((rd_T43 l2 x25_1).f0), .int .i64 ((rd_T43 l2 x25_1).f1), .int .i64 ((rd_T43 l2 x25_1).f2.f0), .int .i64 0, .int .u64 0, .string (⟨#[]⟩ : ByteArray)]) ?_ 3 _ rfl; (with_reducible repeat (first | refine yN ?_ _ | refine yD ?_ | refine yA ?_ _)); refine blk_put (cs := #[.string ((rd_T43 l2 x25_1).f0), .int .i64 ((rd_T43 l2 x25_1).f1), .int .i64 0, .int .i64 0, .int .u64 0, .string (⟨#[]⟩ : ByteArray)]) ?_ 2 _ rfl; (with_reducible repeat (first | refine yN ?_ _ | refine yD ?_ | refine yA ?_ _)); refine blk_put (cs := #[.string ((rd_T43 l2 x25_1).f0), .int .i64 0, .int .i64 0, .int .i64 0, .int .u64 0, .string (⟨#[]⟩ : ByteArray)]) ?_ 1 _ rfl; (with_reducible repeat (first | refine yN ?_ _ | refine yD ?_ | refine yA ?_ _)); refine blk_put (cs := #[.string (⟨#[]⟩ : ByteArray), .int .i64 0, .int .i64 0, .int .i64 0, .int .u64 0, .string (⟨#[]⟩ : ByteArray)]) ?_ 0 _ rfl; (with_reducible repeat (first | refine yN ?_ _ | refine yD ?_ | refine yA ?_ _)); exact BK178.out⟩
            have n1_ : Aside0 (Below w.heap.size w ((((((w23.setCell ⟨gb178, 0, none⟩ (.string ((rd_T43 l2 x25_1).f0))).setCell ⟨gb178, 1, none⟩ (.int .i64 ((rd_T43 l2 x25_1).f1))).setCell ⟨gb178, 2, none⟩ (.int .i64 ((rd_T43 l2 x25_1).f2.f0))).setCell ⟨gb178, 3, none⟩ (.int .i64 ((rd_T43 l2 x25_1).f2.f1))).setCell ⟨gb178, 4, none⟩ (.int .u64 ((rd_T43 l2 x25_1).f2.f2))).setCell ⟨gb178, 5, none⟩ (.string ((rd_T43 l2 x25_1).f2.f3)))) := ⟨by repeat (first | (with_reducible first | exact HB.out | apply zA | apply zN | apply zD | refine below_set ?_ GE178.out) | exact HB.out)⟩
            (try clear BK178)
            (try clear HB)
            generalize ((((((w23.setCell ⟨gb178, 0, none⟩ (.string ((rd_T43 l2 x25_1).f0))).setCell ⟨gb178, 1, none⟩ (.int .i64 ((rd_T43 l2 x25_1).f1))).setCell ⟨gb178, 2, none⟩ (.int .i64 ((rd_T43 l2 x25_1).f2.f0))).setCell ⟨gb178, 3, none⟩ (.int .i64 ((rd_T43 l2 x25_1).f2.f1))).setCell ⟨gb178, 4, none⟩ (.int .u64 ((rd_T43 l2 x25_1).f2.f2))).setCell ⟨gb178, 5, none⟩ (.string ((rd_T43 l2 x25_1).f2.f3))) = w25 at n0_ n1_ ⊢
            have BK178 := n0_
            have HB := n1_
            clear n0_ n1_
            have n0_ := Aside0.mk (yD BK178.out)
            have n1_ := Aside0.mk (zD HB.out)
            clear BK178
            clear HB
            have BK178 := n0_
            have HB := n1_
            clear n0_ n1_
            have p180 : 0 ≤ (t179 : Int) := of_decide_eq_true (by first | (with_reducible assumption) | assumption)
            have q180 : t179 < (l1.length : Int) := of_decide_eq_true (by first | (with_reducible assumption) | assumption)
            obtain ⟨ad180, e180, hx180_0, hx180_1, hx180_2, hx180_3⟩ := at_T40 HR1.out t179 p180 q180
            have hw180_3 := hx180_3
            have hw180_2 := hx180_2
            have hw180_1 := hx180_1
            have hw180_0 := hx180_0
            cases e180
            replace hx180_0 := pw_cell_below HB.out hx180_0
            replace hx180_1 := pw_cell_below HB.out hx180_1
            replace hx180_2 := pw_cell_below HB.out hx180_2
            replace hx180_3 := pw_cell_below HB.out hx180_3
            replace p180 := eq_true p180
            replace q180 := eq_true q180
            refine start_ (n := 9) (S := fun w' => w'.cell? ⟨gb178, 0, none⟩ = some (.string ((rd_T43 l2 x25_1).f0)) ∧ w'.cell? ⟨gb178, 1, none⟩ = some (.int .i64 ((rd_T43 l2 x25_1).f1)) ∧ w'.cell? ⟨gb178, 2, none⟩ = some (.int .i64 ((rd_T43 l2 x25_1).f2.f0)) ∧ w'.cell? ⟨gb178, 3, none⟩ = some (.int .i64 ((rd_T43 l2 x25_1).f2.f1)) ∧ w'.cell? ⟨gb178, 4, none⟩ = some (.int .u64 ((rd_T43 l2 x25_1).f2.f2)) ∧ w'.cell? ⟨gb178, 5, none⟩ = some (.string ((rd_T43 l2 x25_1).f2.f3)) ∧ w'.cell? (ad180.add ((t179).toNat * 4)) = some (.int .i64 ((rd_T40 l1 t179).f0)) ∧ w'.cell? ⟨(ad180.add ((t179).toNat * 4)).block, (ad180.add ((t179).toNat * 4)).off + 1, none⟩ = some (.int .i64 ((rd_T40 l1 t179).f1)) ∧ w'.cell? ⟨(ad180.add ((t179).toNat * 4)).block, (ad180.add ((t179).toNat * 4)).off + 2, none⟩ = some (.int .u64 ((rd_T40 l1 t179).f2)) ∧ w'.cell? ⟨(ad180.add ((t179).toNat * 4)).block, (ad180.add ((t179).toNat * 4)).off + 3, none⟩ = some (.string ((rd_T40 l1 t179).f3))) (ds := []) #[false, false, false, false, false, false, false, false, false] (by kernel_rfl) rfl rfl ⟨(blk_cell BK178.out 0).trans rfl, (blk_cell BK178.out 1).trans rfl, (blk_cell BK178.out 2).trans rfl, (blk_cell BK178.out 3).trans rfl, (blk_cell BK178.out 4).trans rfl, (blk_cell BK178.out 5).trans rfl, (pw_cell_below HB.out hw180_0), (pw_cell_below HB.out hw180_1), (pw_cell_below HB.out hw180_2), (pw_cell_below HB.out hw180_3)⟩ (fun hHeld => ?_); refine with_tabW pred_Test.tab10 pred_Test.bits10 (fun HT_ HW_ => ?_)
            generalize w25.drew = w26 at BK178 HB hx180_0 hx180_1 hx180_2 hx180_3 hHeld ⊢
            refine pure_ (i := 0) (N := some 29) (v := ?_) (a' := ?_) #[true, false, false, false, false, false, false, false, false] rfl rfl (any_of HT_.out (by kernel_rfl)) (fun _ _ _ h => h) (Or.inl ⟨by rfl, ?_⟩) ?_ ?_
            rotate_left
            ·intro w'
             go_simp
             with_reducible rfl
            rotate_left
            ·simp only [Act.put, List.setIfInBounds_toArray, List.set_cons_zero, List.set_cons_succ, i64_w, i32_w]
             rfl
            refine pure_ (i := 1) (N := some 30) (v := ?_) (a' := ?_) #[true, true, false, false, false, false, false, false, false] rfl rfl (any_of HT_.out (by kernel_rfl)) (fun _ _ _ h => h) (Or.inl ⟨by rfl, ?_⟩) ?_ ?_
            rotate_left
            ·intro w'
             go_simp
             with_reducible rfl
            rotate_left
            ·simp only [Act.put, List.setIfInBounds_toArray, List.set_cons_zero, List.set_cons_succ, i64_w, i32_w]
             rfl
            refine pure_ (i := 2) (N := some 31) (v := ?_) (a' := ?_) #[true, true, true, false, false, false, false, false, false] rfl rfl (any_of HT_.out (by kernel_rfl)) (fun _ _ _ h => h) (Or.inl ⟨by rfl, ?_⟩) ?_ ?_
            rotate_left
            ·intro w'
             go_simp
             with_reducible rfl
            rotate_left
            ·simp only [Act.put, List.setIfInBounds_toArray, List.set_cons_zero, List.set_cons_succ, i64_w, i32_w]
             rfl
            refine take_ (i := 3) (N := some 32) (v := ?_) (a' := ?_) #[true, true, true, true, false, false, false, false, false] rfl rfl (take_ofW HT_.out HW_.out (by kernel_rfl)) (fun _ _ _ h => h) (Or.inl ⟨by rfl, ?_⟩) hHeld ?_ ?_
            rotate_left
            ·rintro w' ⟨s0, s1, s2, s3, s4, s5, s6, s7, s8, s9⟩
             go_simp
             with_reducible rfl
            rotate_left
            ·simp only [Act.put, List.setIfInBounds_toArray, List.set_cons_zero, List.set_cons_succ, i64_w, i32_w]
             rfl
            refine take_ (i := 7) (N := some 36) (v := ?_) (a' := ?_) #[true, true, true, true, false, false, false, true, false] rfl rfl (take_ofW HT_.out HW_.out (by kernel_rfl)) (fun _ _ _ h => h) (Or.inl ⟨by rfl, ?_⟩) hHeld ?_ ?_
            rotate_left
            ·rintro w' ⟨s0, s1, s2, s3, s4, s5, s6, s7, s8, s9⟩
             go_simp
             with_reducible rfl
            rotate_left
            ·simp only [Act.put, List.setIfInBounds_toArray, List.set_cons_zero, List.set_cons_succ, i64_w, i32_w]
             rfl
            refine one_ (i := 4) (N := some 33) #[true, true, true, true, true, false, false, true, false] rfl rfl (one_of HT_.out (by kernel_rfl)) (by decide) (fun K hK => ?_)
            refine goes_ Try.func18 (by kernel_rfl) rfl #[.slice A0 l0.length c0, .string ((rd_T43 l2 x25_1).f0)] (by rfl) rfl rfl (by (try simp only [List.map_toArray, List.map_cons, List.map_nil]); first | done | rfl | (simp only [List.length_drop, List.length_take]; rfl)) ?_
            with_reducible refine (pred_of.calls _ _ l0 ((rd_T43 l2 x25_1).f0) t179 _ ?side1 ?side2 A11.out).mono ?_
            (case side1 => repeat (first | exact (Kd.C_below HR0.out HB.out) | (with_reducible refine Kd.C_alloc ?_ _) | (with_reducible refine Kd.C_drewN ?_ _) | (with_reducible refine Kd.C_drew ?_)))
            (case side2 => exact HC0.out)
            rintro e w27 ⟨rfl, hb⟩
            refine ⟨_, rfl, ?_⟩
            have n0_ := Aside0.mk (yB (g := gb178) (o := .cells #[.string ((rd_T43 l2 x25_1).f0), .int .i64 ((rd_T43 l2 x25_1).f1), .int .i64 ((rd_T43 l2 x25_1).f2.f0), .int .i64 ((rd_T43 l2 x25_1).f2.f1), .int .u64 ((rd_T43 l2 x25_1).f2.f2), .string ((rd_T43 l2 x25_1).f2.f3)] 43 (0, 0)) (by (with_reducible repeat (first | refine yN ?_ _ | refine yD ?_ | refine yA ?_ _)); exact BK178.out) hb)
            have n1_ := Aside0.mk (zS (by repeat (first | (with_reducible first | exact HB.out | apply zA | apply zN | apply zD | refine below_set ?_ GE178.out) | exact HB.out)) hb)
            clear BK178
            clear HB
            have BK178 := n0_
            have HB := n1_
            clear n0_ n1_
            (try clear hb)
            (try clear hb2)
            (try clear hk)
            (try clear hi)
            refine hK.out _ _ ⟨(blk_cell BK178.out 0).trans rfl, (blk_cell BK178.out 1).trans rfl, (blk_cell BK178.out 2).trans rfl, (blk_cell BK178.out 3).trans rfl, (blk_cell BK178.out 4).trans rfl, (blk_cell BK178.out 5).trans rfl, (pw_cell_below HB.out hw180_0), (pw_cell_below HB.out hw180_1), (pw_cell_below HB.out hw180_2), (pw_cell_below HB.out hw180_3)⟩ (fun hHeld => ?_)
            clear hK K
            refine norm_ (a' := ?_) ?_ ?_
            rotate_left
            ·show Act.put _ (some 33) _ = _
             simp only [Act.put, List.setIfInBounds_toArray, List.set_cons_zero, List.set_cons_succ, i64_w, i32_w]
             rfl
            refine pure_ (i := 5) (N := some 34) (v := ?_) (a' := ?_) #[true, true, true, true, true, true, false, true, false] rfl rfl (any_of HT_.out (by kernel_rfl)) (fun _ _ _ h => h) (Or.inl ⟨by rfl, ?_⟩) ?_ ?_
            rotate_left
            ·intro w'
             go_simp
             with_reducible rfl
            rotate_left
            ·simp only [Act.put, List.setIfInBounds_toArray, List.set_cons_zero, List.set_cons_succ, i64_w, i32_w]
             rfl
            refine take_ (i := 6) (N := some 35) (v := ?_) (a' := ?_) #[true, true, true, true, true, true, true, true, false] rfl rfl (take_ofW HT_.out HW_.out (by kernel_rfl)) (fun _ _ _ h => h) (Or.inl ⟨by rfl, ?_⟩) hHeld ?_ ?_
            rotate_left
            ·rintro w' ⟨s0, s1, s2, s3, s4, s5, s6, s7, s8, s9⟩
             go_simp
             with_reducible rfl
            rotate_left
            ·simp only [Act.put, List.setIfInBounds_toArray, List.set_cons_zero, List.set_cons_succ, i64_w, i32_w]
             rfl
            refine one_ (i := 8) (N := some 37) #[true, true, true, true, true, true, true, true, true] rfl rfl (one_of HT_.out (by kernel_rfl)) (by decide) (fun K hK => ?_)
            refine goes_ Try.func22 (by kernel_rfl) rfl #[.agg #[.int .i64 ((rd_T40 l1 t179).f0), .int .i64 ((rd_T40 l1 t179).f1), .int .u64 ((rd_T40 l1 t179).f2), .string ((rd_T40 l1 t179).f3)], .agg #[.string ((rd_T43 l2 x25_1).f0), .int .i64 ((rd_T43 l2 x25_1).f1), .int .i64 ((rd_T43 l2 x25_1).f2.f0), .int .i64 ((rd_T43 l2 x25_1).f2.f1), .int .u64 ((rd_T43 l2 x25_1).f2.f2), .string ((rd_T43 l2 x25_1).f2.f3)]] (by rfl) rfl rfl (by (try simp only [List.map_toArray, List.map_cons, List.map_nil]); first | done | rfl | (simp only [List.length_drop, List.length_take]; rfl)) ?_
            with_reducible refine (pred_one.calls k1 ((rd_T40 l1 t179).f0) ((rd_T40 l1 t179).f1) ((rd_T40 l1 t179).f2) ((rd_T40 l1 t179).f3) ((rd_T43 l2 x25_1).f0) ((rd_T43 l2 x25_1).f1) ((rd_T43 l2 x25_1).f2.f0) ((rd_T43 l2 x25_1).f2.f1) ((rd_T43 l2 x25_1).f2.f2) ((rd_T43 l2 x25_1).f2.f3) t181 _ A14.out).mono ?_
            rintro e w28 ⟨rfl, hb⟩
            refine ⟨_, rfl, ?_⟩
            have n0_ := Aside0.mk (yB (g := gb178) (o := .cells #[.string ((rd_T43 l2 x25_1).f0), .int .i64 ((rd_T43 l2 x25_1).f1), .int .i64 ((rd_T43 l2 x25_1).f2.f0), .int .i64 ((rd_T43 l2 x25_1).f2.f1), .int .u64 ((rd_T43 l2 x25_1).f2.f2), .string ((rd_T43 l2 x25_1).f2.f3)] 43 (0, 0)) (by (with_reducible repeat (first | refine yN ?_ _ | refine yD ?_ | refine yA ?_ _)); exact BK178.out) hb)
            have n1_ := Aside0.mk (zS (by repeat (first | (with_reducible first | exact HB.out | apply zA | apply zN | apply zD | refine below_set ?_ GE178.out) | exact HB.out)) hb)
            clear BK178
            clear HB
            have BK178 := n0_
            have HB := n1_
            clear n0_ n1_
            (try clear hb)
            (try clear hb2)
            (try clear hk)
            (try clear hi)
            refine hK.out _ _ ⟨(blk_cell BK178.out 0).trans rfl, (blk_cell BK178.out 1).trans rfl, (blk_cell BK178.out 2).trans rfl, (blk_cell BK178.out 3).trans rfl, (blk_cell BK178.out 4).trans rfl, (blk_cell BK178.out 5).trans rfl, (pw_cell_below HB.out hw180_0), (pw_cell_below HB.out hw180_1), (pw_cell_below HB.out hw180_2), (pw_cell_below HB.out hw180_3)⟩ (fun hHeld => ?_)
            clear hK K
            refine norm_ (a' := ?_) ?_ ?_
            rotate_left
            ·show Act.put _ (some 37) _ = _
             simp only [Act.put, List.setIfInBounds_toArray, List.set_cons_zero, List.set_cons_succ, i64_w, i32_w]
             rfl
            refine done_ (done_of HT_.out (by kernel_rfl)) ?_
            try go_wp2
            go_roundg k1
            case measure => have := HK1.out; omega
            case rel => exact ⟨(x9_1), (wrap64 (x25_1 + 1)), (by first | rfl | (simp; done) | (simp [*]; done)), (by first | rfl | (simp; done) | (simp [*]; done)), H', ⟨by have := HK1.out; omega⟩, ⟨by repeat (first | (with_reducible first | exact HB.out | apply zA | apply zN | apply zD | refine below_set ?_ GE178.out) | exact HB.out)⟩⟩
           ·rw [if_neg c22] at H
            have c22b0 : (t181 == 1) = false := beq_eq_false_iff_ne.mpr c22
            have c22b1 : (t181 != 1) = true := bne_iff_ne.mpr c22
            by_cases c29 : x9_1 = 1
            ·rw [if_pos c29] at H
             have c29b0 : (x9_1 == 1) = true := beq_iff_eq.mpr c29
             have c29b1 : (x9_1 != 1) = false := bne_eq_false_iff_eq.mpr c29
             clear c29
             have H' := Aside0.mk H
             clear H
             have p177 : 0 ≤ (x25_1 : Int) := of_decide_eq_true (by first | (with_reducible assumption) | assumption)
             have q177 : x25_1 < (l2.length : Int) := of_decide_eq_true (by first | (with_reducible assumption) | assumption)
             obtain ⟨ad177, e177, hx177_0, hx177_1, hx177_2, hx177_3, hx177_4, hx177_5⟩ := at_T43 HR2.out x25_1 p177 q177
             cases e177
             replace hx177_0 := pw_cell_below HB.out hx177_0
             replace hx177_1 := pw_cell_below HB.out hx177_1
             replace hx177_2 := pw_cell_below HB.out hx177_2
             replace hx177_3 := pw_cell_below HB.out hx177_3
             replace hx177_4 := pw_cell_below HB.out hx177_4
             replace hx177_5 := pw_cell_below HB.out hx177_5
             replace p177 := eq_true p177
             replace q177 := eq_true q177
             try go_wp2_with (first | ((with_reducible refine gate_dst (N := 11) rfl ?_); refine box_event ?hg (N := 11) ?hd (cs := #[.string (⟨#[]⟩ : ByteArray), .int .i64 0, .int .i64 0, .int .i64 0, .int .u64 0, .string (⟨#[]⟩ : ByteArray)]) (t := 43) ?hr ?_; (case hd => rfl); (case hg => rfl); (case hr => first | (go_simp; done) | (go_simp; rfl)); intro gb178 hg w30 hbox hb; have n0_ := Aside0.mk (zS (by repeat (first | (with_reducible first | exact HB.out | apply zA | apply zN | apply zD) | exact HB.out)) hb); have n1_ := Aside0.mk (hbox); have n2_ := Aside0.mk ((by rw [hg]; exact (zZ (by repeat (first | (with_reducible first | exact HB.out | apply zA | apply zN | apply zD) | exact HB.out))) : w.heap.size ≤ gb178)); have n3_ := Aside0.mk ((by rw [hg]; exact (zZ (by repeat (first | (with_reducible first | exact HB.out | apply zA | apply zN | apply zD) | exact HB.out))) : w.heap.size ≤ gb178)); clear HB; have HB := n0_; have BK178 := n1_; have GW178 := n2_; have GE178 := n3_; clear n0_ n1_ n2_ n3_; clear hb hbox hg; obtain ⟨hcz31_0, hcz31_1, hcz31_2, hcz31_3, hcz31_4, hcz31_5⟩ := blkc6 BK178.out; obtain ⟨hfz31_0, hfz31_1, hfz31_2, hfz31_3, hfz31_4, hfz31_5⟩ := blkf6 BK178.out))
             have n0_ : Aside0 (((((((w30.setCell ⟨gb178, 0, none⟩ (.string ((rd_T43 l2 x25_1).f0))).setCell ⟨gb178, 1, none⟩ (.int .i64 ((rd_T43 l2 x25_1).f1))).setCell ⟨gb178, 2, none⟩ (.int .i64 ((rd_T43 l2 x25_1).f2.f0))).setCell ⟨gb178, 3, none⟩ (.int .i64 ((rd_T43 l2 x25_1).f2.f1))).setCell ⟨gb178, 4, none⟩ (.int .u64 ((rd_T43 l2 x25_1).f2.f2))).setCell ⟨gb178, 5, none⟩ (.string ((rd_T43 l2 x25_1).f2.f3))).heap[gb178]? = some (.cells #[.string ((rd_T43 l2 x25_1).f0), .int .i64 ((rd_T43 l2 x25_1).f1), .int .i64 ((rd_T43 l2 x25_1).f2.f0), .int .i64 ((rd_T43 l2 x25_1).f2.f1), .int .u64 ((rd_T43 l2 x25_1).f2.f2), .string ((rd_T43 l2 x25_1).f2.f3)] 43 (0, 0))) := ⟨by (with_reducible repeat (first | refine yN ?_ _ | refine yD ?_ | refine yA ?_ _)); refine blk_put (cs := #[.string ((rd_T43 l2 x25_1).f0), .int .i64 ((rd_T43 l2 x25_1).f1), .int .i64 ((rd_T43 l2 x25_1).f2.f0), .int .i64 ((rd_T43 l2 x25_1).f2.f1), .int .u64 ((rd_T43 l2 x25_1).f2.f2), .string (⟨#[]⟩ : ByteArray)]) ?_ 5 _ rfl; (with_reducible repeat (first | refine yN ?_ _ | refine yD ?_ | refine yA ?_ _)); refine blk_put (cs := #[.string ((rd_T43 l2 x25_1).f0), .int .i64 ((rd_T43 l2 x25_1).f1), .int .i64 ((rd_T43 l2 x25_1).f2.f0), .int .i64 ((rd_T43 l2 x25_1).f2.f1), .int .u64 0, .string (⟨#[]⟩ : ByteArray)]) ?_ 4 _ rfl; (with_reducible repeat (first | refine yN ?_ _ | refine yD ?_ | refine yA ?_ _)); refine blk_put (cs := #[.string ((rd_T43 l2 x25_1).f0), .int .i64 ((rd_T43 l2 x25_1).f1), .int .i64 ((rd_T43 l2 x25_1).f2.f0), .int .i64 0, .int .u64 0, .string (⟨#[]⟩ : ByteArray)]) ?_ 3 _ rfl; (with_reducible repeat (first | refine yN ?_ _ | refine yD ?_ | refine yA ?_ _)); refine blk_put (cs := #[.string ((rd_T43 l2 x25_1).f0), .int .i64 ((rd_T43 l2 x25_1).f1), .int .i64 0, .int .i64 0, .int .u64 0, .string (⟨#[]⟩ : ByteArray)]) ?_ 2 _ rfl; (with_reducible repeat (first | refine yN ?_ _ | refine yD ?_ | refine yA ?_ _)); refine blk_put (cs := #[.string ((rd_T43 l2 x25_1).f0), .int .i64 0, .int .i64 0, .int .i64 0, .int .u64 0, .string (⟨#[]⟩ : ByteArray)]) ?_ 1 _ rfl; (with_reducible repeat (first | refine yN ?_ _ | refine yD ?_ | refine yA ?_ _)); refine blk_put (cs := #[.string (⟨#[]⟩ : ByteArray), .int .i64 0, .int .i64 0, .int .i64 0, .int .u64 0, .string (⟨#[]⟩ : ByteArray)]) ?_ 0 _ rfl; (with_reducible repeat (first | refine yN ?_ _ | refine yD ?_ | refine yA ?_ _)); exact BK178.out⟩
             have n1_ : Aside0 (Below w.heap.size w ((((((w30.setCell ⟨gb178, 0, none⟩ (.string ((rd_T43 l2 x25_1).f0))).setCell ⟨gb178, 1, none⟩ (.int .i64 ((rd_T43 l2 x25_1).f1))).setCell ⟨gb178, 2, none⟩ (.int .i64 ((rd_T43 l2 x25_1).f2.f0))).setCell ⟨gb178, 3, none⟩ (.int .i64 ((rd_T43 l2 x25_1).f2.f1))).setCell ⟨gb178, 4, none⟩ (.int .u64 ((rd_T43 l2 x25_1).f2.f2))).setCell ⟨gb178, 5, none⟩ (.string ((rd_T43 l2 x25_1).f2.f3)))) := ⟨by repeat (first | (with_reducible first | exact HB.out | apply zA | apply zN | apply zD | refine below_set ?_ GE178.out) | exact HB.out)⟩
             (try clear BK178)
             (try clear HB)
             generalize ((((((w30.setCell ⟨gb178, 0, none⟩ (.string ((rd_T43 l2 x25_1).f0))).setCell ⟨gb178, 1, none⟩ (.int .i64 ((rd_T43 l2 x25_1).f1))).setCell ⟨gb178, 2, none⟩ (.int .i64 ((rd_T43 l2 x25_1).f2.f0))).setCell ⟨gb178, 3, none⟩ (.int .i64 ((rd_T43 l2 x25_1).f2.f1))).setCell ⟨gb178, 4, none⟩ (.int .u64 ((rd_T43 l2 x25_1).f2.f2))).setCell ⟨gb178, 5, none⟩ (.string ((rd_T43 l2 x25_1).f2.f3))) = w32 at n0_ n1_ ⊢
             have BK178 := n0_
             have HB := n1_
             clear n0_ n1_
             have n0_ := Aside0.mk (yD BK178.out)
             have n1_ := Aside0.mk (zD HB.out)
             clear BK178
             clear HB
             have BK178 := n0_
             have HB := n1_
             clear n0_ n1_
             have p180 : 0 ≤ (t179 : Int) := of_decide_eq_true (by first | (with_reducible assumption) | assumption)
             have q180 : t179 < (l1.length : Int) := of_decide_eq_true (by first | (with_reducible assumption) | assumption)
             obtain ⟨ad180, e180, hx180_0, hx180_1, hx180_2, hx180_3⟩ := at_T40 HR1.out t179 p180 q180
             have hw180_3 := hx180_3
             have hw180_2 := hx180_2
             have hw180_1 := hx180_1
             have hw180_0 := hx180_0
             cases e180
             replace hx180_0 := pw_cell_below HB.out hx180_0
             replace hx180_1 := pw_cell_below HB.out hx180_1
             replace hx180_2 := pw_cell_below HB.out hx180_2
             replace hx180_3 := pw_cell_below HB.out hx180_3
             replace p180 := eq_true p180
             replace q180 := eq_true q180
             refine start_ (n := 9) (S := fun w' => w'.cell? ⟨gb178, 0, none⟩ = some (.string ((rd_T43 l2 x25_1).f0)) ∧ w'.cell? ⟨gb178, 1, none⟩ = some (.int .i64 ((rd_T43 l2 x25_1).f1)) ∧ w'.cell? ⟨gb178, 2, none⟩ = some (.int .i64 ((rd_T43 l2 x25_1).f2.f0)) ∧ w'.cell? ⟨gb178, 3, none⟩ = some (.int .i64 ((rd_T43 l2 x25_1).f2.f1)) ∧ w'.cell? ⟨gb178, 4, none⟩ = some (.int .u64 ((rd_T43 l2 x25_1).f2.f2)) ∧ w'.cell? ⟨gb178, 5, none⟩ = some (.string ((rd_T43 l2 x25_1).f2.f3)) ∧ w'.cell? (ad180.add ((t179).toNat * 4)) = some (.int .i64 ((rd_T40 l1 t179).f0)) ∧ w'.cell? ⟨(ad180.add ((t179).toNat * 4)).block, (ad180.add ((t179).toNat * 4)).off + 1, none⟩ = some (.int .i64 ((rd_T40 l1 t179).f1)) ∧ w'.cell? ⟨(ad180.add ((t179).toNat * 4)).block, (ad180.add ((t179).toNat * 4)).off + 2, none⟩ = some (.int .u64 ((rd_T40 l1 t179).f2)) ∧ w'.cell? ⟨(ad180.add ((t179).toNat * 4)).block, (ad180.add ((t179).toNat * 4)).off + 3, none⟩ = some (.string ((rd_T40 l1 t179).f3))) (ds := []) #[false, false, false, false, false, false, false, false, false] (by kernel_rfl) rfl rfl ⟨(blk_cell BK178.out 0).trans rfl, (blk_cell BK178.out 1).trans rfl, (blk_cell BK178.out 2).trans rfl, (blk_cell BK178.out 3).trans rfl, (blk_cell BK178.out 4).trans rfl, (blk_cell BK178.out 5).trans rfl, (pw_cell_below HB.out hw180_0), (pw_cell_below HB.out hw180_1), (pw_cell_below HB.out hw180_2), (pw_cell_below HB.out hw180_3)⟩ (fun hHeld => ?_); refine with_tabW pred_Test.tab10 pred_Test.bits10 (fun HT_ HW_ => ?_)
             generalize w32.drew = w33 at BK178 HB hx180_0 hx180_1 hx180_2 hx180_3 hHeld ⊢
             refine pure_ (i := 0) (N := some 29) (v := ?_) (a' := ?_) #[true, false, false, false, false, false, false, false, false] rfl rfl (any_of HT_.out (by kernel_rfl)) (fun _ _ _ h => h) (Or.inl ⟨by rfl, ?_⟩) ?_ ?_
             rotate_left
             ·intro w'
              go_simp
              with_reducible rfl
             rotate_left
             ·simp only [Act.put, List.setIfInBounds_toArray, List.set_cons_zero, List.set_cons_succ, i64_w, i32_w]
              rfl
             refine pure_ (i := 1) (N := some 30) (v := ?_) (a' := ?_) #[true, true, false, false, false, false, false, false, false] rfl rfl (any_of HT_.out (by kernel_rfl)) (fun _ _ _ h => h) (Or.inl ⟨by rfl, ?_⟩) ?_ ?_
             rotate_left
             ·intro w'
              go_simp
              with_reducible rfl
             rotate_left
             ·simp only [Act.put, List.setIfInBounds_toArray, List.set_cons_zero, List.set_cons_succ, i64_w, i32_w]
              rfl
             refine pure_ (i := 2) (N := some 31) (v := ?_) (a' := ?_) #[true, true, true, false, false, false, false, false, false] rfl rfl (any_of HT_.out (by kernel_rfl)) (fun _ _ _ h => h) (Or.inl ⟨by rfl, ?_⟩) ?_ ?_
             rotate_left
             ·intro w'
              go_simp
              with_reducible rfl
             rotate_left
             ·simp only [Act.put, List.setIfInBounds_toArray, List.set_cons_zero, List.set_cons_succ, i64_w, i32_w]
              rfl
             refine take_ (i := 3) (N := some 32) (v := ?_) (a' := ?_) #[true, true, true, true, false, false, false, false, false] rfl rfl (take_ofW HT_.out HW_.out (by kernel_rfl)) (fun _ _ _ h => h) (Or.inl ⟨by rfl, ?_⟩) hHeld ?_ ?_
             rotate_left
             ·rintro w' ⟨s0, s1, s2, s3, s4, s5, s6, s7, s8, s9⟩
              go_simp
              with_reducible rfl
             rotate_left
             ·simp only [Act.put, List.setIfInBounds_toArray, List.set_cons_zero, List.set_cons_succ, i64_w, i32_w]
              rfl
             refine take_ (i := 7) (N := some 36) (v := ?_) (a' := ?_) #[true, true, true, true, false, false, false, true, false] rfl rfl (take_ofW HT_.out HW_.out (by kernel_rfl)) (fun _ _ _ h => h) (Or.inl ⟨by rfl, ?_⟩) hHeld ?_ ?_
             rotate_left
             ·rintro w' ⟨s0, s1, s2, s3, s4, s5, s6, s7, s8, s9⟩
              go_simp
              with_reducible rfl
             rotate_left
             ·simp only [Act.put, List.setIfInBounds_toArray, List.set_cons_zero, List.set_cons_succ, i64_w, i32_w]
              rfl
             refine one_ (i := 4) (N := some 33) #[true, true, true, true, true, false, false, true, false] rfl rfl (one_of HT_.out (by kernel_rfl)) (by decide) (fun K hK => ?_)
             refine goes_ Try.func18 (by kernel_rfl) rfl #[.slice A0 l0.length c0, .string ((rd_T43 l2 x25_1).f0)] (by rfl) rfl rfl (by (try simp only [List.map_toArray, List.map_cons, List.map_nil]); first | done | rfl | (simp only [List.length_drop, List.length_take]; rfl)) ?_
             with_reducible refine (pred_of.calls _ _ l0 ((rd_T43 l2 x25_1).f0) t179 _ ?side1 ?side2 A11.out).mono ?_
             (case side1 => repeat (first | exact (Kd.C_below HR0.out HB.out) | (with_reducible refine Kd.C_alloc ?_ _) | (with_reducible refine Kd.C_drewN ?_ _) | (with_reducible refine Kd.C_drew ?_)))
             (case side2 => exact HC0.out)
             rintro e w34 ⟨rfl, hb⟩
             refine ⟨_, rfl, ?_⟩
             have n0_ := Aside0.mk (yB (g := gb178) (o := .cells #[.string ((rd_T43 l2 x25_1).f0), .int .i64 ((rd_T43 l2 x25_1).f1), .int .i64 ((rd_T43 l2 x25_1).f2.f0), .int .i64 ((rd_T43 l2 x25_1).f2.f1), .int .u64 ((rd_T43 l2 x25_1).f2.f2), .string ((rd_T43 l2 x25_1).f2.f3)] 43 (0, 0)) (by (with_reducible repeat (first | refine yN ?_ _ | refine yD ?_ | refine yA ?_ _)); exact BK178.out) hb)
             have n1_ := Aside0.mk (zS (by repeat (first | (with_reducible first | exact HB.out | apply zA | apply zN | apply zD | refine below_set ?_ GE178.out) | exact HB.out)) hb)
             clear BK178
             clear HB
             have BK178 := n0_
             have HB := n1_
             clear n0_ n1_
             (try clear hb)
             (try clear hb2)
             (try clear hk)
             (try clear hi)
             refine hK.out _ _ ⟨(blk_cell BK178.out 0).trans rfl, (blk_cell BK178.out 1).trans rfl, (blk_cell BK178.out 2).trans rfl, (blk_cell BK178.out 3).trans rfl, (blk_cell BK178.out 4).trans rfl, (blk_cell BK178.out 5).trans rfl, (pw_cell_below HB.out hw180_0), (pw_cell_below HB.out hw180_1), (pw_cell_below HB.out hw180_2), (pw_cell_below HB.out hw180_3)⟩ (fun hHeld => ?_)
             clear hK K
             refine norm_ (a' := ?_) ?_ ?_
             rotate_left
             ·show Act.put _ (some 33) _ = _
              simp only [Act.put, List.setIfInBounds_toArray, List.set_cons_zero, List.set_cons_succ, i64_w, i32_w]
              rfl
             refine pure_ (i := 5) (N := some 34) (v := ?_) (a' := ?_) #[true, true, true, true, true, true, false, true, false] rfl rfl (any_of HT_.out (by kernel_rfl)) (fun _ _ _ h => h) (Or.inl ⟨by rfl, ?_⟩) ?_ ?_
             rotate_left
             ·intro w'
              go_simp
              with_reducible rfl
             rotate_left
             ·simp only [Act.put, List.setIfInBounds_toArray, List.set_cons_zero, List.set_cons_succ, i64_w, i32_w]
              rfl
             refine take_ (i := 6) (N := some 35) (v := ?_) (a' := ?_) #[true, true, true, true, true, true, true, true, false] rfl rfl (take_ofW HT_.out HW_.out (by kernel_rfl)) (fun _ _ _ h => h) (Or.inl ⟨by rfl, ?_⟩) hHeld ?_ ?_
             rotate_left
             ·rintro w' ⟨s0, s1, s2, s3, s4, s5, s6, s7, s8, s9⟩
              go_simp
              with_reducible rfl
             rotate_left
             ·simp only [Act.put, List.setIfInBounds_toArray, List.set_cons_zero, List.set_cons_succ, i64_w, i32_w]
              rfl
             refine one_ (i := 8) (N := some 37) #[true, true, true, true, true, true, true, true, true] rfl rfl (one_of HT_.out (by kernel_rfl)) (by decide) (fun K hK => ?_)
             refine goes_ Try.func22 (by kernel_rfl) rfl #[.agg #[.int .i64 ((rd_T40 l1 t179).f0), .int .i64 ((rd_T40 l1 t179).f1), .int .u64 ((rd_T40 l1 t179).f2), .string ((rd_T40 l1 t179).f3)], .agg #[.string ((rd_T43 l2 x25_1).f0), .int .i64 ((rd_T43 l2 x25_1).f1), .int .i64 ((rd_T43 l2 x25_1).f2.f0), .int .i64 ((rd_T43 l2 x25_1).f2.f1), .int .u64 ((rd_T43 l2 x25_1).f2.f2), .string ((rd_T43 l2 x25_1).f2.f3)]] (by rfl) rfl rfl (by (try simp only [List.map_toArray, List.map_cons, List.map_nil]); first | done | rfl | (simp only [List.length_drop, List.length_take]; rfl)) ?_
             with_reducible refine (pred_one.calls k1 ((rd_T40 l1 t179).f0) ((rd_T40 l1 t179).f1) ((rd_T40 l1 t179).f2) ((rd_T40 l1 t179).f3) ((rd_T43 l2 x25_1).f0) ((rd_T43 l2 x25_1).f1) ((rd_T43 l2 x25_1).f2.f0) ((rd_T43 l2 x25_1).f2.f1) ((rd_T43 l2 x25_1).f2.f2) ((rd_T43 l2 x25_1).f2.f3) t181 _ A14.out).mono ?_
             rintro e w35 ⟨rfl, hb⟩
             refine ⟨_, rfl, ?_⟩
             have n0_ := Aside0.mk (yB (g := gb178) (o := .cells #[.string ((rd_T43 l2 x25_1).f0), .int .i64 ((rd_T43 l2 x25_1).f1), .int .i64 ((rd_T43 l2 x25_1).f2.f0), .int .i64 ((rd_T43 l2 x25_1).f2.f1), .int .u64 ((rd_T43 l2 x25_1).f2.f2), .string ((rd_T43 l2 x25_1).f2.f3)] 43 (0, 0)) (by (with_reducible repeat (first | refine yN ?_ _ | refine yD ?_ | refine yA ?_ _)); exact BK178.out) hb)
             have n1_ := Aside0.mk (zS (by repeat (first | (with_reducible first | exact HB.out | apply zA | apply zN | apply zD | refine below_set ?_ GE178.out) | exact HB.out)) hb)
             clear BK178
             clear HB
             have BK178 := n0_
             have HB := n1_
             clear n0_ n1_
             (try clear hb)
             (try clear hb2)
             (try clear hk)
             (try clear hi)
             refine hK.out _ _ ⟨(blk_cell BK178.out 0).trans rfl, (blk_cell BK178.out 1).trans rfl, (blk_cell BK178.out 2).trans rfl, (blk_cell BK178.out 3).trans rfl, (blk_cell BK178.out 4).trans rfl, (blk_cell BK178.out 5).trans rfl, (pw_cell_below HB.out hw180_0), (pw_cell_below HB.out hw180_1), (pw_cell_below HB.out hw180_2), (pw_cell_below HB.out hw180_3)⟩ (fun hHeld => ?_)
             clear hK K
             refine norm_ (a' := ?_) ?_ ?_
             rotate_left
             ·show Act.put _ (some 37) _ = _
              simp only [Act.put, List.setIfInBounds_toArray, List.set_cons_zero, List.set_cons_succ, i64_w, i32_w]
              rfl
             refine done_ (done_of HT_.out (by kernel_rfl)) ?_
             try go_wp2
             go_roundg k1
             case measure => have := HK1.out; omega
             case rel => exact ⟨((-1)), (wrap64 (x25_1 + 1)), (by first | rfl | (simp; done) | (simp [*]; done)), (by first | rfl | (simp; done) | (simp [*]; done)), H', ⟨by have := HK1.out; omega⟩, ⟨by repeat (first | (with_reducible first | exact HB.out | apply zA | apply zN | apply zD | refine below_set ?_ GE178.out) | exact HB.out)⟩⟩
            ·rw [if_neg c29] at H
             have c29b0 : (x9_1 == 1) = false := beq_eq_false_iff_ne.mpr c29
             have c29b1 : (x9_1 != 1) = true := bne_iff_ne.mpr c29
             have H' := Aside0.mk H
             clear H
             have p177 : 0 ≤ (x25_1 : Int) := of_decide_eq_true (by first | (with_reducible assumption) | assumption)
             have q177 : x25_1 < (l2.length : Int) := of_decide_eq_true (by first | (with_reducible assumption) | assumption)
             obtain ⟨ad177, e177, hx177_0, hx177_1, hx177_2, hx177_3, hx177_4, hx177_5⟩ := at_T43 HR2.out x25_1 p177 q177
             cases e177
             replace hx177_0 := pw_cell_below HB.out hx177_0
             replace hx177_1 := pw_cell_below HB.out hx177_1
             replace hx177_2 := pw_cell_below HB.out hx177_2
             replace hx177_3 := pw_cell_below HB.out hx177_3
             replace hx177_4 := pw_cell_below HB.out hx177_4
             replace hx177_5 := pw_cell_below HB.out hx177_5
             replace p177 := eq_true p177
             replace q177 := eq_true q177
             try go_wp2_with (first | ((with_reducible refine gate_dst (N := 11) rfl ?_); refine box_event ?hg (N := 11) ?hd (cs := #[.string (⟨#[]⟩ : ByteArray), .int .i64 0, .int .i64 0, .int .i64 0, .int .u64 0, .string (⟨#[]⟩ : ByteArray)]) (t := 43) ?hr ?_; (case hd => rfl); (case hg => rfl); (case hr => first | (go_simp; done) | (go_simp; rfl)); intro gb178 hg w36 hbox hb; have n0_ := Aside0.mk (zS (by repeat (first | (with_reducible first | exact HB.out | apply zA | apply zN | apply zD) | exact HB.out)) hb); have n1_ := Aside0.mk (hbox); have n2_ := Aside0.mk ((by rw [hg]; exact (zZ (by repeat (first | (with_reducible first | exact HB.out | apply zA | apply zN | apply zD) | exact HB.out))) : w.heap.size ≤ gb178)); have n3_ := Aside0.mk ((by rw [hg]; exact (zZ (by repeat (first | (with_reducible first | exact HB.out | apply zA | apply zN | apply zD) | exact HB.out))) : w.heap.size ≤ gb178)); clear HB; have HB := n0_; have BK178 := n1_; have GW178 := n2_; have GE178 := n3_; clear n0_ n1_ n2_ n3_; clear hb hbox hg; obtain ⟨hcz37_0, hcz37_1, hcz37_2, hcz37_3, hcz37_4, hcz37_5⟩ := blkc6 BK178.out; obtain ⟨hfz37_0, hfz37_1, hfz37_2, hfz37_3, hfz37_4, hfz37_5⟩ := blkf6 BK178.out))
             have n0_ : Aside0 (((((((w36.setCell ⟨gb178, 0, none⟩ (.string ((rd_T43 l2 x25_1).f0))).setCell ⟨gb178, 1, none⟩ (.int .i64 ((rd_T43 l2 x25_1).f1))).setCell ⟨gb178, 2, none⟩ (.int .i64 ((rd_T43 l2 x25_1).f2.f0))).setCell ⟨gb178, 3, none⟩ (.int .i64 ((rd_T43 l2 x25_1).f2.f1))).setCell ⟨gb178, 4, none⟩ (.int .u64 ((rd_T43 l2 x25_1).f2.f2))).setCell ⟨gb178, 5, none⟩ (.string ((rd_T43 l2 x25_1).f2.f3))).heap[gb178]? = some (.cells #[.string ((rd_T43 l2 x25_1).f0), .int .i64 ((rd_T43 l2 x25_1).f1), .int .i64 ((rd_T43 l2 x25_1).f2.f0), .int .i64 ((rd_T43 l2 x25_1).f2.f1), .int .u64 ((rd_T43 l2 x25_1).f2.f2), .string ((rd_T43 l2 x25_1).f2.f3)] 43 (0, 0))) := ⟨by (with_reducible repeat (first | refine yN ?_ _ | refine yD ?_ | refine yA ?_ _)); refine blk_put (cs := #[.string ((rd_T43 l2 x25_1).f0), .int .i64 ((rd_T43 l2 x25_1).f1), .int .i64 ((rd_T43 l2 x25_1).f2.f0), .int .i64 ((rd_T43 l2 x25_1).f2.f1), .int .u64 ((rd_T43 l2 x25_1).f2.f2), .string (⟨#[]⟩ : ByteArray)]) ?_ 5 _ rfl; (with_reducible repeat (first | refine yN ?_ _ | refine yD ?_ | refine yA ?_ _)); refine blk_put (cs := #[.string ((rd_T43 l2 x25_1).f0), .int .i64 ((rd_T43 l2 x25_1).f1), .int .i64 ((rd_T43 l2 x25_1).f2.f0), .int .i64 ((rd_T43 l2 x25_1).f2.f1), .int .u64 0, .string (⟨#[]⟩ : ByteArray)]) ?_ 4 _ rfl; (with_reducible repeat (first | refine yN ?_ _ | refine yD ?_ | refine yA ?_ _)); refine blk_put (cs := #[.string ((rd_T43 l2 x25_1).f0), .int .i64 ((rd_T43 l2 x25_1).f1), .int .i64 ((rd_T43 l2 x25_1).f2.f0), .int .i64 0, .int .u64 0, .string (⟨#[]⟩ : ByteArray)]) ?_ 3 _ rfl; (with_reducible repeat (first | refine yN ?_ _ | refine yD ?_ | refine yA ?_ _)); refine blk_put (cs := #[.string ((rd_T43 l2 x25_1).f0), .int .i64 ((rd_T43 l2 x25_1).f1), .int .i64 0, .int .i64 0, .int .u64 0, .string (⟨#[]⟩ : ByteArray)]) ?_ 2 _ rfl; (with_reducible repeat (first | refine yN ?_ _ | refine yD ?_ | refine yA ?_ _)); refine blk_put (cs := #[.string ((rd_T43 l2 x25_1).f0), .int .i64 0, .int .i64 0, .int .i64 0, .int .u64 0, .string (⟨#[]⟩ : ByteArray)]) ?_ 1 _ rfl; (with_reducible repeat (first | refine yN ?_ _ | refine yD ?_ | refine yA ?_ _)); refine blk_put (cs := #[.string (⟨#[]⟩ : ByteArray), .int .i64 0, .int .i64 0, .int .i64 0, .int .u64 0, .string (⟨#[]⟩ : ByteArray)]) ?_ 0 _ rfl; (with_reducible repeat (first | refine yN ?_ _ | refine yD ?_ | refine yA ?_ _)); exact BK178.out⟩
             have n1_ : Aside0 (Below w.heap.size w ((((((w36.setCell ⟨gb178, 0, none⟩ (.string ((rd_T43 l2 x25_1).f0))).setCell ⟨gb178, 1, none⟩ (.int .i64 ((rd_T43 l2 x25_1).f1))).setCell ⟨gb178, 2, none⟩ (.int .i64 ((rd_T43 l2 x25_1).f2.f0))).setCell ⟨gb178, 3, none⟩ (.int .i64 ((rd_T43 l2 x25_1).f2.f1))).setCell ⟨gb178, 4, none⟩ (.int .u64 ((rd_T43 l2 x25_1).f2.f2))).setCell ⟨gb178, 5, none⟩ (.string ((rd_T43 l2 x25_1).f2.f3)))) := ⟨by repeat (first | (with_reducible first | exact HB.out | apply zA | apply zN | apply zD | refine below_set ?_ GE178.out) | exact HB.out)⟩
             (try clear BK178)
             (try clear HB)
             generalize ((((((w36.setCell ⟨gb178, 0, none⟩ (.string ((rd_T43 l2 x25_1).f0))).setCell ⟨gb178, 1, none⟩ (.int .i64 ((rd_T43 l2 x25_1).f1))).setCell ⟨gb178, 2, none⟩ (.int .i64 ((rd_T43 l2 x25_1).f2.f0))).setCell ⟨gb178, 3, none⟩ (.int .i64 ((rd_T43 l2 x25_1).f2.f1))).setCell ⟨gb178, 4, none⟩ (.int .u64 ((rd_T43 l2 x25_1).f2.f2))).setCell ⟨gb178, 5, none⟩ (.string ((rd_T43 l2 x25_1).f2.f3))) = w38 at n0_ n1_ ⊢
             have BK178 := n0_
             have HB := n1_
             clear n0_ n1_
             have n0_ := Aside0.mk (yD BK178.out)
             have n1_ := Aside0.mk (zD HB.out)
             clear BK178
             clear HB
             have BK178 := n0_
             have HB := n1_
             clear n0_ n1_
             have p180 : 0 ≤ (t179 : Int) := of_decide_eq_true (by first | (with_reducible assumption) | assumption)
             have q180 : t179 < (l1.length : Int) := of_decide_eq_true (by first | (with_reducible assumption) | assumption)
             obtain ⟨ad180, e180, hx180_0, hx180_1, hx180_2, hx180_3⟩ := at_T40 HR1.out t179 p180 q180
             have hw180_3 := hx180_3
             have hw180_2 := hx180_2
             have hw180_1 := hx180_1
             have hw180_0 := hx180_0
             cases e180
             replace hx180_0 := pw_cell_below HB.out hx180_0
             replace hx180_1 := pw_cell_below HB.out hx180_1
             replace hx180_2 := pw_cell_below HB.out hx180_2
             replace hx180_3 := pw_cell_below HB.out hx180_3
             replace p180 := eq_true p180
             replace q180 := eq_true q180
             refine start_ (n := 9) (S := fun w' => w'.cell? ⟨gb178, 0, none⟩ = some (.string ((rd_T43 l2 x25_1).f0)) ∧ w'.cell? ⟨gb178, 1, none⟩ = some (.int .i64 ((rd_T43 l2 x25_1).f1)) ∧ w'.cell? ⟨gb178, 2, none⟩ = some (.int .i64 ((rd_T43 l2 x25_1).f2.f0)) ∧ w'.cell? ⟨gb178, 3, none⟩ = some (.int .i64 ((rd_T43 l2 x25_1).f2.f1)) ∧ w'.cell? ⟨gb178, 4, none⟩ = some (.int .u64 ((rd_T43 l2 x25_1).f2.f2)) ∧ w'.cell? ⟨gb178, 5, none⟩ = some (.string ((rd_T43 l2 x25_1).f2.f3)) ∧ w'.cell? (ad180.add ((t179).toNat * 4)) = some (.int .i64 ((rd_T40 l1 t179).f0)) ∧ w'.cell? ⟨(ad180.add ((t179).toNat * 4)).block, (ad180.add ((t179).toNat * 4)).off + 1, none⟩ = some (.int .i64 ((rd_T40 l1 t179).f1)) ∧ w'.cell? ⟨(ad180.add ((t179).toNat * 4)).block, (ad180.add ((t179).toNat * 4)).off + 2, none⟩ = some (.int .u64 ((rd_T40 l1 t179).f2)) ∧ w'.cell? ⟨(ad180.add ((t179).toNat * 4)).block, (ad180.add ((t179).toNat * 4)).off + 3, none⟩ = some (.string ((rd_T40 l1 t179).f3))) (ds := []) #[false, false, false, false, false, false, false, false, false] (by kernel_rfl) rfl rfl ⟨(blk_cell BK178.out 0).trans rfl, (blk_cell BK178.out 1).trans rfl, (blk_cell BK178.out 2).trans rfl, (blk_cell BK178.out 3).trans rfl, (blk_cell BK178.out 4).trans rfl, (blk_cell BK178.out 5).trans rfl, (pw_cell_below HB.out hw180_0), (pw_cell_below HB.out hw180_1), (pw_cell_below HB.out hw180_2), (pw_cell_below HB.out hw180_3)⟩ (fun hHeld => ?_); refine with_tabW pred_Test.tab10 pred_Test.bits10 (fun HT_ HW_ => ?_)
             generalize w38.drew = w39 at BK178 HB hx180_0 hx180_1 hx180_2 hx180_3 hHeld ⊢
             refine pure_ (i := 0) (N := some 29) (v := ?_) (a' := ?_) #[true, false, false, false, false, false, false, false, false] rfl rfl (any_of HT_.out (by kernel_rfl)) (fun _ _ _ h => h) (Or.inl ⟨by rfl, ?_⟩) ?_ ?_
             rotate_left
             ·intro w'
              go_simp
              with_reducible rfl
             rotate_left
             ·simp only [Act.put, List.setIfInBounds_toArray, List.set_cons_zero, List.set_cons_succ, i64_w, i32_w]
              rfl
             refine pure_ (i := 1) (N := some 30) (v := ?_) (a' := ?_) #[true, true, false, false, false, false, false, false, false] rfl rfl (any_of HT_.out (by kernel_rfl)) (fun _ _ _ h => h) (Or.inl ⟨by rfl, ?_⟩) ?_ ?_
             rotate_left
             ·intro w'
              go_simp
              with_reducible rfl
             rotate_left
             ·simp only [Act.put, List.setIfInBounds_toArray, List.set_cons_zero, List.set_cons_succ, i64_w, i32_w]
              rfl
             refine pure_ (i := 2) (N := some 31) (v := ?_) (a' := ?_) #[true, true, true, false, false, false, false, false, false] rfl rfl (any_of HT_.out (by kernel_rfl)) (fun _ _ _ h => h) (Or.inl ⟨by rfl, ?_⟩) ?_ ?_
             rotate_left
             ·intro w'
              go_simp
              with_reducible rfl
             rotate_left
             ·simp only [Act.put, List.setIfInBounds_toArray, List.set_cons_zero, List.set_cons_succ, i64_w, i32_w]
              rfl
             refine take_ (i := 3) (N := some 32) (v := ?_) (a' := ?_) #[true, true, true, true, false, false, false, false, false] rfl rfl (take_ofW HT_.out HW_.out (by kernel_rfl)) (fun _ _ _ h => h) (Or.inl ⟨by rfl, ?_⟩) hHeld ?_ ?_
             rotate_left
             ·rintro w' ⟨s0, s1, s2, s3, s4, s5, s6, s7, s8, s9⟩
              go_simp
              with_reducible rfl
             rotate_left
             ·simp only [Act.put, List.setIfInBounds_toArray, List.set_cons_zero, List.set_cons_succ, i64_w, i32_w]
              rfl
             refine take_ (i := 7) (N := some 36) (v := ?_) (a' := ?_) #[true, true, true, true, false, false, false, true, false] rfl rfl (take_ofW HT_.out HW_.out (by kernel_rfl)) (fun _ _ _ h => h) (Or.inl ⟨by rfl, ?_⟩) hHeld ?_ ?_
             rotate_left
             ·rintro w' ⟨s0, s1, s2, s3, s4, s5, s6, s7, s8, s9⟩
              go_simp
              with_reducible rfl
             rotate_left
             ·simp only [Act.put, List.setIfInBounds_toArray, List.set_cons_zero, List.set_cons_succ, i64_w, i32_w]
              rfl
             refine one_ (i := 4) (N := some 33) #[true, true, true, true, true, false, false, true, false] rfl rfl (one_of HT_.out (by kernel_rfl)) (by decide) (fun K hK => ?_)
             refine goes_ Try.func18 (by kernel_rfl) rfl #[.slice A0 l0.length c0, .string ((rd_T43 l2 x25_1).f0)] (by rfl) rfl rfl (by (try simp only [List.map_toArray, List.map_cons, List.map_nil]); first | done | rfl | (simp only [List.length_drop, List.length_take]; rfl)) ?_
             with_reducible refine (pred_of.calls _ _ l0 ((rd_T43 l2 x25_1).f0) t179 _ ?side1 ?side2 A11.out).mono ?_
             (case side1 => repeat (first | exact (Kd.C_below HR0.out HB.out) | (with_reducible refine Kd.C_alloc ?_ _) | (with_reducible refine Kd.C_drewN ?_ _) | (with_reducible refine Kd.C_drew ?_)))
             (case side2 => exact HC0.out)
             rintro e w40 ⟨rfl, hb⟩
             refine ⟨_, rfl, ?_⟩
             have n0_ := Aside0.mk (yB (g := gb178) (o := .cells #[.string ((rd_T43 l2 x25_1).f0), .int .i64 ((rd_T43 l2 x25_1).f1), .int .i64 ((rd_T43 l2 x25_1).f2.f0), .int .i64 ((rd_T43 l2 x25_1).f2.f1), .int .u64 ((rd_T43 l2 x25_1).f2.f2), .string ((rd_T43 l2 x25_1).f2.f3)] 43 (0, 0)) (by (with_reducible repeat (first | refine yN ?_ _ | refine yD ?_ | refine yA ?_ _)); exact BK178.out) hb)
             have n1_ := Aside0.mk (zS (by repeat (first | (with_reducible first | exact HB.out | apply zA | apply zN | apply zD | refine below_set ?_ GE178.out) | exact HB.out)) hb)
             clear BK178
             clear HB
             have BK178 := n0_
             have HB := n1_
             clear n0_ n1_
             (try clear hb)
             (try clear hb2)
             (try clear hk)
             (try clear hi)
             refine hK.out _ _ ⟨(blk_cell BK178.out 0).trans rfl, (blk_cell BK178.out 1).trans rfl, (blk_cell BK178.out 2).trans rfl, (blk_cell BK178.out 3).trans rfl, (blk_cell BK178.out 4).trans rfl, (blk_cell BK178.out 5).trans rfl, (pw_cell_below HB.out hw180_0), (pw_cell_below HB.out hw180_1), (pw_cell_below HB.out hw180_2), (pw_cell_below HB.out hw180_3)⟩ (fun hHeld => ?_)
             clear hK K
             refine norm_ (a' := ?_) ?_ ?_
             rotate_left
             ·show Act.put _ (some 33) _ = _
              simp only [Act.put, List.setIfInBounds_toArray, List.set_cons_zero, List.set_cons_succ, i64_w, i32_w]
              rfl
             refine pure_ (i := 5) (N := some 34) (v := ?_) (a' := ?_) #[true, true, true, true, true, true, false, true, false] rfl rfl (any_of HT_.out (by kernel_rfl)) (fun _ _ _ h => h) (Or.inl ⟨by rfl, ?_⟩) ?_ ?_
             rotate_left
             ·intro w'
              go_simp
              with_reducible rfl
             rotate_left
             ·simp only [Act.put, List.setIfInBounds_toArray, List.set_cons_zero, List.set_cons_succ, i64_w, i32_w]
              rfl
             refine take_ (i := 6) (N := some 35) (v := ?_) (a' := ?_) #[true, true, true, true, true, true, true, true, false] rfl rfl (take_ofW HT_.out HW_.out (by kernel_rfl)) (fun _ _ _ h => h) (Or.inl ⟨by rfl, ?_⟩) hHeld ?_ ?_
             rotate_left
             ·rintro w' ⟨s0, s1, s2, s3, s4, s5, s6, s7, s8, s9⟩
              go_simp
              with_reducible rfl
             rotate_left
             ·simp only [Act.put, List.setIfInBounds_toArray, List.set_cons_zero, List.set_cons_succ, i64_w, i32_w]
              rfl
             refine one_ (i := 8) (N := some 37) #[true, true, true, true, true, true, true, true, true] rfl rfl (one_of HT_.out (by kernel_rfl)) (by decide) (fun K hK => ?_)
             refine goes_ Try.func22 (by kernel_rfl) rfl #[.agg #[.int .i64 ((rd_T40 l1 t179).f0), .int .i64 ((rd_T40 l1 t179).f1), .int .u64 ((rd_T40 l1 t179).f2), .string ((rd_T40 l1 t179).f3)], .agg #[.string ((rd_T43 l2 x25_1).f0), .int .i64 ((rd_T43 l2 x25_1).f1), .int .i64 ((rd_T43 l2 x25_1).f2.f0), .int .i64 ((rd_T43 l2 x25_1).f2.f1), .int .u64 ((rd_T43 l2 x25_1).f2.f2), .string ((rd_T43 l2 x25_1).f2.f3)]] (by rfl) rfl rfl (by (try simp only [List.map_toArray, List.map_cons, List.map_nil]); first | done | rfl | (simp only [List.length_drop, List.length_take]; rfl)) ?_
             with_reducible refine (pred_one.calls k1 ((rd_T40 l1 t179).f0) ((rd_T40 l1 t179).f1) ((rd_T40 l1 t179).f2) ((rd_T40 l1 t179).f3) ((rd_T43 l2 x25_1).f0) ((rd_T43 l2 x25_1).f1) ((rd_T43 l2 x25_1).f2.f0) ((rd_T43 l2 x25_1).f2.f1) ((rd_T43 l2 x25_1).f2.f2) ((rd_T43 l2 x25_1).f2.f3) t181 _ A14.out).mono ?_
             rintro e w41 ⟨rfl, hb⟩
             refine ⟨_, rfl, ?_⟩
             have n0_ := Aside0.mk (yB (g := gb178) (o := .cells #[.string ((rd_T43 l2 x25_1).f0), .int .i64 ((rd_T43 l2 x25_1).f1), .int .i64 ((rd_T43 l2 x25_1).f2.f0), .int .i64 ((rd_T43 l2 x25_1).f2.f1), .int .u64 ((rd_T43 l2 x25_1).f2.f2), .string ((rd_T43 l2 x25_1).f2.f3)] 43 (0, 0)) (by (with_reducible repeat (first | refine yN ?_ _ | refine yD ?_ | refine yA ?_ _)); exact BK178.out) hb)
             have n1_ := Aside0.mk (zS (by repeat (first | (with_reducible first | exact HB.out | apply zA | apply zN | apply zD | refine below_set ?_ GE178.out) | exact HB.out)) hb)
             clear BK178
             clear HB
             have BK178 := n0_
             have HB := n1_
             clear n0_ n1_
             (try clear hb)
             (try clear hb2)
             (try clear hk)
             (try clear hi)
             refine hK.out _ _ ⟨(blk_cell BK178.out 0).trans rfl, (blk_cell BK178.out 1).trans rfl, (blk_cell BK178.out 2).trans rfl, (blk_cell BK178.out 3).trans rfl, (blk_cell BK178.out 4).trans rfl, (blk_cell BK178.out 5).trans rfl, (pw_cell_below HB.out hw180_0), (pw_cell_below HB.out hw180_1), (pw_cell_below HB.out hw180_2), (pw_cell_below HB.out hw180_3)⟩ (fun hHeld => ?_)
             clear hK K
             refine norm_ (a' := ?_) ?_ ?_
             rotate_left
             ·show Act.put _ (some 37) _ = _
              simp only [Act.put, List.setIfInBounds_toArray, List.set_cons_zero, List.set_cons_succ, i64_w, i32_w]
              rfl
             refine done_ (done_of HT_.out (by kernel_rfl)) ?_
             try go_wp2
             go_roundg k1
             case measure => have := HK1.out; omega
             case rel => exact ⟨(x9_1), (wrap64 (x25_1 + 1)), (by first | rfl | (simp; done) | (simp [*]; done)), (by first | rfl | (simp; done) | (simp [*]; done)), H', ⟨by have := HK1.out; omega⟩, ⟨by repeat (first | (with_reducible first | exact HB.out | apply zA | apply zN | apply zD | refine below_set ?_ GE178.out) | exact HB.out)⟩⟩
         ·rw [if_neg c13] at H
          exact absurd H (by simp)
        ·rw [if_neg c12] at H
         exact absurd H (by simp)
       ·rw [if_neg c10] at H
        exact absurd H (by simp)
      ·rw [if_neg c9] at H
       exact absurd H (by simp)
     ·rw [if_neg c8] at H
      have c8b0 : decide (x25_1 < (l2.length : Int)) = false := decide_eq_false c8
      clear c8
      simp only [Option.some.injEq, Prod.mk.injEq] at H
      obtain ⟨rfl, rfl⟩ := H
      go_wp2
      go_ret2
      exact ⟨by first | rfl | (simp [errW_none, errW_some] <;> rfl) | (simp [*, errW_none, errW_some] <;> rfl), by repeat (first | (with_reducible first | exact HB.out | apply zA | apply zN | apply zD) | exact HB.out)⟩
  ·rw [if_neg c6] at H
   have c6b0 : ((l1.length : Int) == (l0.length : Int)) = false := beq_eq_false_iff_ne.mpr c6
   have c6b1 : ((l1.length : Int) != (l0.length : Int)) = true := bne_iff_ne.mpr c6
   have c6b2 : (l1.length == l0.length) = false := by first | simpa using c6 | (simp at c6 ⊢; omega)
   simp only [Option.some.injEq, Prod.mk.injEq] at H
   obtain ⟨rfl, rfl⟩ := H
   go_enter Try.func13, Try.ntmps13
   go_wp2_with (first | ((with_reducible refine gate_callee (f := 10) rfl ?_); refine goesL_ (some 14) rfl rfl Try.func10 (by kernel_rfl) rfl #[.slice A0 l0.length c0, .slice A2 l2.length c2] rfl (by (try simp only [List.map_toArray, List.map_cons, List.map_nil]); first | done | rfl | (simp only [List.length_drop, List.length_take]; rfl)) ?_; (with_reducible refine (pred_Check.calls k _ _ l0 _ _ l2 t176 _ ?side1 ?side2 ?side3 ?side4 A4.out).mono ?_); (case side1 => repeat (first | exact HR0.out | (with_reducible refine Kd.C_alloc ?_ _) | (with_reducible refine Kd.C_drewN ?_ _) | (with_reducible refine Kd.C_drew ?_))); (case side2 => exact HC0.out); (case side3 => repeat (first | exact HR2.out | (with_reducible refine Kd.C_alloc ?_ _) | (with_reducible refine Kd.C_drewN ?_ _) | (with_reducible refine Kd.C_drew ?_))); (case side4 => exact HC2.out); rintro e w42 ⟨rfl, hb⟩; refine ⟨_, rfl, ?_⟩; have n0_ := Aside0.mk (zS (by repeat (first | (with_reducible first | exact HB.out | apply zA | apply zN | apply zD) | exact HB.out)) hb); clear HB; have HB := n0_; clear n0_; (try clear hb); (try clear hb2); (try clear hk); (try clear hi)))
   go_ret2
   exact ⟨by first | rfl | (simp [errW_none, errW_some] <;> rfl) | (simp [*, errW_none, errW_some] <;> rfl), by repeat (first | (with_reducible first | exact HB.out | apply zA | apply zN | apply zD) | exact HB.out)⟩
 ·rw [if_neg c5] at H
  have c5b0 : (t176 == 0) = false := beq_eq_false_iff_ne.mpr c5
  have c5b1 : (t176 != 0) = true := bne_iff_ne.mpr c5
  simp only [Option.some.injEq, Prod.mk.injEq] at H
  obtain ⟨rfl, rfl⟩ := H
  go_enter Try.func13, Try.ntmps13
  go_wp2_with (first | ((with_reducible refine gate_callee (f := 10) rfl ?_); refine goesL_ (some 14) rfl rfl Try.func10 (by kernel_rfl) rfl #[.slice A0 l0.length c0, .slice A2 l2.length c2] rfl (by (try simp only [List.map_toArray, List.map_cons, List.map_nil]); first | done | rfl | (simp only [List.length_drop, List.length_take]; rfl)) ?_; (with_reducible refine (pred_Check.calls k _ _ l0 _ _ l2 t176 _ ?side1 ?side2 ?side3 ?side4 A4.out).mono ?_); (case side1 => repeat (first | exact HR0.out | (with_reducible refine Kd.C_alloc ?_ _) | (with_reducible refine Kd.C_drewN ?_ _) | (with_reducible refine Kd.C_drew ?_))); (case side2 => exact HC0.out); (case side3 => repeat (first | exact HR2.out | (with_reducible refine Kd.C_alloc ?_ _) | (with_reducible refine Kd.C_drewN ?_ _) | (with_reducible refine Kd.C_drew ?_))); (case side4 => exact HC2.out); rintro e w43 ⟨rfl, hb⟩; refine ⟨_, rfl, ?_⟩; have n0_ := Aside0.mk (zS (by repeat (first | (with_reducible first | exact HB.out | apply zA | apply zN | apply zD) | exact HB.out)) hb); clear HB; have HB := n0_; clear n0_; (try clear hb); (try clear hb2); (try clear hk); (try clear hi)))
  go_ret2
  exact ⟨by first | rfl | (simp [errW_none, errW_some] <;> rfl) | (simp [*, errW_none, errW_some] <;> rfl), by repeat (first | (with_reducible first | exact HB.out | apply zA | apply zN | apply zD) | exact HB.out)⟩

end Go.Proofs.Ytcjnmnelhpjhfaa.PA
