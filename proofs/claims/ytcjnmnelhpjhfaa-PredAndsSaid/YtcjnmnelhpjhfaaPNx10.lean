/- Contracts of the Go functions of this seat: what each call returns is what a Lean function of its arguments says; each theorem bears its own conditions. Written by a program of this session (wip/tools/mkprint.py). -/
import Derived.Test.YtcjnmnelhpjhfaaPNx0
import Derived.Test.YtcjnmnelhpjhfaaPNx2
import Derived.Test.YtcjnmnelhpjhfaaPNx8
import Derived.Test.YtcjnmnelhpjhfaaPNx9
-- squeezed
namespace Go.Proofs.Ytcjnmnelhpjhfaa.PA
open Go.RowKit Go.Proofs.YtcjnmnelhpjhfaaW.PrintWords Go.Proofs.YtcjnmnelhpjhfaaW.PrintLast Go.Proofs.YtcjnmnelhpjhfaaW.PrintMore
attribute [local go_sem] max2_int min2_int max_two min_two max_three min_three max_four min_four   -- for this text's walks alone
set_option linter.unusedVariables false
set_option linter.unusedSimpArgs false

attribute [local go_sem ↓ high] unary_xor_u64 ux_if_u64
attribute [local go_sem] str_gtr str_leq str_geq
/-! ### falseworklaw18_PredAnds: function 5 -/
mutual
def falseworklaw18_PredAnds.j0 : Nat → List (S51) → List (S40) → List (S43) → List (S43) → Bool → Option (Bool)
 | 0, _, _, _, _, _ => none
 | k + 1, x0, x1, x2, x3, x29 => if x29 = true then ((falseworklaw18_awake.f k).bind fun t211 => (some t211)) else ((pred_Test.f k x0 x1 x2).bind fun bt212 => ((pred_Test.f k x0 x1 x3).bind fun bt214 => ((some (([] : List (S43)) : List (S43))).bind fun y216 => (if y216.length + x2.length < 2199023255552 then ((some (y216 ++ x2 : List (S43))).bind fun y219 => (if y219.length + x3.length < 2199023255552 then ((some (([] : List (S43)) : List (S43))).bind fun y225 => (if y225.length + x3.length < 2199023255552 then ((some (y225 ++ x3 : List (S43))).bind fun y228 => (if y228.length + x2.length < 2199023255552 then ((pred_Test.f k x0 x1 (y219 ++ x3)).bind fun bt234 => ((pred_Test.f k x0 x1 (y228 ++ x2)).bind fun bt236 => ((falseworklaw18_num.f bt212.2).bind fun t238 => (if t238 = 0 then ((falseworklaw18_num.f bt214.2).bind fun t239 => (falseworklaw18_PredAnds.j1 k bt212.1 bt214.1 bt234.1 bt234.2 bt236.1 bt236.2 (t239 != 0))) else (falseworklaw18_PredAnds.j1 k bt212.1 bt214.1 bt234.1 bt234.2 bt236.1 bt236.2 true))))) else (none))) else (none))) else (none))) else (none)))))
def falseworklaw18_PredAnds.j1 : Nat → Int → Int → Int → Int → Int → Int → Bool → Option (Bool)
 | 0, _, _, _, _, _, _, _ => none
 | k + 1, x9, x11, x15, x16, x17, x18, x78 => if x78 = true then ((falseworklaw18_num.f x16).bind fun t240 => (if t240 = 0 then (some false) else ((falseworklaw18_num.f x18).bind fun t241 => (if t241 = 0 then (some false) else ((falseworklaw18_awake.f k).bind fun t242 => (some t242)))))) else (if x9 < 0 then (falseworklaw18_PredAnds.j2 k x9 x11 x15 x16 x17 x18 1 true) else (falseworklaw18_PredAnds.j2 k x9 x11 x15 x16 x17 x18 1 (decide (x11 < 0))))
def falseworklaw18_PredAnds.j2 : Nat → Int → Int → Int → Int → Int → Int → Int → Bool → Option (Bool)
 | 0, _, _, _, _, _, _, _, _ => none
 | k + 1, x9, x11, x15, x16, x17, x18, x19, x95 => if x95 = true then (falseworklaw18_PredAnds.j3 k x9 x11 x15 x16 x17 x18 (-1)) else (falseworklaw18_PredAnds.j3 k x9 x11 x15 x16 x17 x18 x19)
def falseworklaw18_PredAnds.j3 : Nat → Int → Int → Int → Int → Int → Int → Int → Option (Bool)
 | 0, _, _, _, _, _, _, _ => none
 | k + 1, x9, x11, x15, x16, x17, x18, x19 => if x9 = 0 then (falseworklaw18_PredAnds.j4 k x15 x16 x17 x18 x19 true) else (falseworklaw18_PredAnds.j4 k x15 x16 x17 x18 x19 (x11 == 0))
def falseworklaw18_PredAnds.j4 : Nat → Int → Int → Int → Int → Int → Bool → Option (Bool)
 | 0, _, _, _, _, _, _ => none
 | k + 1, x15, x16, x17, x18, x19, x101 => if x101 = true then (if x15 = 0 then (if x17 = 0 then ((falseworklaw18_num.f x16).bind fun t243 => (if t243 = 0 then ((falseworklaw18_num.f x18).bind fun t244 => (if t244 = 0 then ((falseworklaw18_awake.f k).bind fun t245 => (some t245)) else (some false))) else (some false))) else (some false)) else (some false)) else (if x15 = x19 then (if x17 = x19 then ((falseworklaw18_num.f x16).bind fun t246 => (if t246 = 0 then ((falseworklaw18_num.f x18).bind fun t247 => (if t247 = 0 then ((falseworklaw18_awake.f k).bind fun t248 => (some t248)) else (some false))) else (some false))) else (some false)) else (some false))
end
def falseworklaw18_PredAnds.f (k : Nat) (l0 : List (S51)) (l1 : List (S40)) (l2 : List (S43)) (l3 : List (S43)) : Option (Bool) := (falseworklaw18_heavy.f k l2 l1 l0).bind fun t209 => (if t209 = true then (falseworklaw18_PredAnds.j0 k l0 l1 l2 l3 true) else ((falseworklaw18_heavy.f k l3 l1 l0).bind fun t210 => (falseworklaw18_PredAnds.j0 k l0 l1 l2 l3 t210)))
theorem falseworklaw18_PredAnds.mono_l : ∀ k, (∀ y0 y1 y2 y3 y4, LeO (falseworklaw18_PredAnds.j0 k y0 y1 y2 y3 y4) (falseworklaw18_PredAnds.j0 (k + 1) y0 y1 y2 y3 y4)) ∧ (∀ y0 y1 y2 y3 y4 y5 y6, LeO (falseworklaw18_PredAnds.j1 k y0 y1 y2 y3 y4 y5 y6) (falseworklaw18_PredAnds.j1 (k + 1) y0 y1 y2 y3 y4 y5 y6)) ∧ (∀ y0 y1 y2 y3 y4 y5 y6 y7, LeO (falseworklaw18_PredAnds.j2 k y0 y1 y2 y3 y4 y5 y6 y7) (falseworklaw18_PredAnds.j2 (k + 1) y0 y1 y2 y3 y4 y5 y6 y7)) ∧ (∀ y0 y1 y2 y3 y4 y5 y6, LeO (falseworklaw18_PredAnds.j3 k y0 y1 y2 y3 y4 y5 y6) (falseworklaw18_PredAnds.j3 (k + 1) y0 y1 y2 y3 y4 y5 y6)) ∧ (∀ y0 y1 y2 y3 y4 y5, LeO (falseworklaw18_PredAnds.j4 k y0 y1 y2 y3 y4 y5) (falseworklaw18_PredAnds.j4 (k + 1) y0 y1 y2 y3 y4 y5))
 | 0 => ⟨fun _ _ _ _ _ r h => by simp [falseworklaw18_PredAnds.j0] at h, fun _ _ _ _ _ _ _ r h => by simp [falseworklaw18_PredAnds.j1] at h, fun _ _ _ _ _ _ _ _ r h => by simp [falseworklaw18_PredAnds.j2] at h, fun _ _ _ _ _ _ _ r h => by simp [falseworklaw18_PredAnds.j3] at h, fun _ _ _ _ _ _ r h => by simp [falseworklaw18_PredAnds.j4] at h⟩
 | k + 1 => by
  obtain ⟨ih0, ih1, ih2, ih3, ih4⟩ := falseworklaw18_PredAnds.mono_l k
  refine ⟨?_, ?_, ?_, ?_, ?_⟩
  ·intro y0 y1 y2 y3 y4
   unfold falseworklaw18_PredAnds.j0
   repeat' first
   | (with_reducible exact ih0 _ _ _ _ _)
   | (with_reducible exact ih1 _ _ _ _ _ _ _)
   | (with_reducible exact ih2 _ _ _ _ _ _ _ _)
   | (with_reducible exact ih3 _ _ _ _ _ _ _)
   | (with_reducible exact ih4 _ _ _ _ _ _)
   | (with_reducible exact falseworklaw18_awake.mono _)
   | (with_reducible exact falseworklaw18_heavy.mono _ _ _ _)
   | (with_reducible exact pred_Test.mono _ _ _ _)
   | (with_reducible exact LeO.refl _)
   | (with_reducible exact LeO.none _)
   | (with_reducible refine LeO.ite ?_ ?_)
   | (with_reducible refine LeO.bind ?_ (fun _ => ?_))
   | exact ih0 _ _ _ _ _
   | exact ih1 _ _ _ _ _ _ _
   | exact ih2 _ _ _ _ _ _ _ _
   | exact ih3 _ _ _ _ _ _ _
   | exact ih4 _ _ _ _ _ _
   | exact falseworklaw18_awake.mono _
   | exact falseworklaw18_heavy.mono _ _ _ _
   | exact pred_Test.mono _ _ _ _
   | exact LeO.none _
   | refine LeO.ite ?_ ?_
   | refine LeO.bind ?_ (fun _ => ?_)
  ·intro y0 y1 y2 y3 y4 y5 y6
   unfold falseworklaw18_PredAnds.j1
   repeat' first
   | (with_reducible exact ih0 _ _ _ _ _)
   | (with_reducible exact ih1 _ _ _ _ _ _ _)
   | (with_reducible exact ih2 _ _ _ _ _ _ _ _)
   | (with_reducible exact ih3 _ _ _ _ _ _ _)
   | (with_reducible exact ih4 _ _ _ _ _ _)
   | (with_reducible exact falseworklaw18_awake.mono _)
   | (with_reducible exact falseworklaw18_heavy.mono _ _ _ _)
   | (with_reducible exact pred_Test.mono _ _ _ _)
   | (with_reducible exact LeO.refl _)
   | (with_reducible exact LeO.none _)
   | (with_reducible refine LeO.ite ?_ ?_)
   | (with_reducible refine LeO.bind ?_ (fun _ => ?_))
   | exact ih0 _ _ _ _ _
   | exact ih1 _ _ _ _ _ _ _
   | exact ih2 _ _ _ _ _ _ _ _
   | exact ih3 _ _ _ _ _ _ _
   | exact ih4 _ _ _ _ _ _
   | exact falseworklaw18_awake.mono _
   | exact falseworklaw18_heavy.mono _ _ _ _
   | exact pred_Test.mono _ _ _ _
   | exact LeO.none _
   | refine LeO.ite ?_ ?_
   | refine LeO.bind ?_ (fun _ => ?_)
  ·intro y0 y1 y2 y3 y4 y5 y6 y7
   unfold falseworklaw18_PredAnds.j2
   repeat' first
   | (with_reducible exact ih0 _ _ _ _ _)
   | (with_reducible exact ih1 _ _ _ _ _ _ _)
   | (with_reducible exact ih2 _ _ _ _ _ _ _ _)
   | (with_reducible exact ih3 _ _ _ _ _ _ _)
   | (with_reducible exact ih4 _ _ _ _ _ _)
   | (with_reducible exact falseworklaw18_awake.mono _)
   | (with_reducible exact falseworklaw18_heavy.mono _ _ _ _)
   | (with_reducible exact pred_Test.mono _ _ _ _)
   | (with_reducible exact LeO.refl _)
   | (with_reducible exact LeO.none _)
   | (with_reducible refine LeO.ite ?_ ?_)
   | (with_reducible refine LeO.bind ?_ (fun _ => ?_))
   | exact ih0 _ _ _ _ _
   | exact ih1 _ _ _ _ _ _ _
   | exact ih2 _ _ _ _ _ _ _ _
   | exact ih3 _ _ _ _ _ _ _
   | exact ih4 _ _ _ _ _ _
   | exact falseworklaw18_awake.mono _
   | exact falseworklaw18_heavy.mono _ _ _ _
   | exact pred_Test.mono _ _ _ _
   | exact LeO.none _
   | refine LeO.ite ?_ ?_
   | refine LeO.bind ?_ (fun _ => ?_)
  ·intro y0 y1 y2 y3 y4 y5 y6
   unfold falseworklaw18_PredAnds.j3
   repeat' first
   | (with_reducible exact ih0 _ _ _ _ _)
   | (with_reducible exact ih1 _ _ _ _ _ _ _)
   | (with_reducible exact ih2 _ _ _ _ _ _ _ _)
   | (with_reducible exact ih3 _ _ _ _ _ _ _)
   | (with_reducible exact ih4 _ _ _ _ _ _)
   | (with_reducible exact falseworklaw18_awake.mono _)
   | (with_reducible exact falseworklaw18_heavy.mono _ _ _ _)
   | (with_reducible exact pred_Test.mono _ _ _ _)
   | (with_reducible exact LeO.refl _)
   | (with_reducible exact LeO.none _)
   | (with_reducible refine LeO.ite ?_ ?_)
   | (with_reducible refine LeO.bind ?_ (fun _ => ?_))
   | exact ih0 _ _ _ _ _
   | exact ih1 _ _ _ _ _ _ _
   | exact ih2 _ _ _ _ _ _ _ _
   | exact ih3 _ _ _ _ _ _ _
   | exact ih4 _ _ _ _ _ _
   | exact falseworklaw18_awake.mono _
   | exact falseworklaw18_heavy.mono _ _ _ _
   | exact pred_Test.mono _ _ _ _
   | exact LeO.none _
   | refine LeO.ite ?_ ?_
   | refine LeO.bind ?_ (fun _ => ?_)
  ·intro y0 y1 y2 y3 y4 y5
   unfold falseworklaw18_PredAnds.j4
   repeat' first
   | (with_reducible exact ih0 _ _ _ _ _)
   | (with_reducible exact ih1 _ _ _ _ _ _ _)
   | (with_reducible exact ih2 _ _ _ _ _ _ _ _)
   | (with_reducible exact ih3 _ _ _ _ _ _ _)
   | (with_reducible exact ih4 _ _ _ _ _ _)
   | (with_reducible exact falseworklaw18_awake.mono _)
   | (with_reducible exact falseworklaw18_heavy.mono _ _ _ _)
   | (with_reducible exact pred_Test.mono _ _ _ _)
   | (with_reducible exact LeO.refl _)
   | (with_reducible exact LeO.none _)
   | (with_reducible refine LeO.ite ?_ ?_)
   | (with_reducible refine LeO.bind ?_ (fun _ => ?_))
   | exact ih0 _ _ _ _ _
   | exact ih1 _ _ _ _ _ _ _
   | exact ih2 _ _ _ _ _ _ _ _
   | exact ih3 _ _ _ _ _ _ _
   | exact ih4 _ _ _ _ _ _
   | exact falseworklaw18_awake.mono _
   | exact falseworklaw18_heavy.mono _ _ _ _
   | exact pred_Test.mono _ _ _ _
   | exact LeO.none _
   | refine LeO.ite ?_ ?_
   | refine LeO.bind ?_ (fun _ => ?_)
theorem falseworklaw18_PredAnds.mono : ∀ a0 a1 a2 a3 k, LeO (falseworklaw18_PredAnds.f k a0 a1 a2 a3) (falseworklaw18_PredAnds.f (k + 1) a0 a1 a2 a3) := by
 intro a0 a1 a2 a3 k
 obtain ⟨ih0, ih1, ih2, ih3, ih4⟩ := falseworklaw18_PredAnds.mono_l k
 unfold falseworklaw18_PredAnds.f
 repeat' first
   | (with_reducible exact ih0 _ _ _ _ _)
   | (with_reducible exact ih1 _ _ _ _ _ _ _)
   | (with_reducible exact ih2 _ _ _ _ _ _ _ _)
   | (with_reducible exact ih3 _ _ _ _ _ _ _)
   | (with_reducible exact ih4 _ _ _ _ _ _)
   | (with_reducible exact falseworklaw18_awake.mono _)
   | (with_reducible exact falseworklaw18_heavy.mono _ _ _ _)
   | (with_reducible exact pred_Test.mono _ _ _ _)
   | (with_reducible exact LeO.refl _)
   | (with_reducible exact LeO.none _)
   | (with_reducible refine LeO.ite ?_ ?_)
   | (with_reducible refine LeO.bind ?_ (fun _ => ?_))
   | exact ih0 _ _ _ _ _
   | exact ih1 _ _ _ _ _ _ _
   | exact ih2 _ _ _ _ _ _ _ _
   | exact ih3 _ _ _ _ _ _ _
   | exact ih4 _ _ _ _ _ _
   | exact falseworklaw18_awake.mono _
   | exact falseworklaw18_heavy.mono _ _ _ _
   | exact pred_Test.mono _ _ _ _
   | exact LeO.none _
   | refine LeO.ite ?_ ?_
   | refine LeO.bind ?_ (fun _ => ?_)
set_option maxHeartbeats 8000000 in
set_option maxRecDepth 100000 in
theorem falseworklaw18_PredAnds.calls (k : Nat) (A0 : Option Addr) (c0 : Nat) (l0 : List (S51)) (A1 : Option Addr) (c1 : Nat) (l1 : List (S40)) (A2 : Option Addr) (c2 : Nat) (l2 : List (S43)) (A3 : Option Addr) (c3 : Nat) (l3 : List (S43)) (r : Bool) (w : World) (hr0 : Kd.C k51 w A0 l0.length l0) (hc0 : l0.length ≤ c0) (hr1 : Kd.C k40 w A1 l1.length l1) (hc1 : l1.length ≤ c1) (hr2 : Kd.C k43 w A2 l2.length l2) (hc2 : l2.length ≤ c2) (hr3 : Kd.C k43 w A3 l3.length l3) (hc3 : l3.length ≤ c3) (h : falseworklaw18_PredAnds.f k l0 l1 l2 l3 = some r) :
  Calls Try.prog 5 #[.slice A0 l0.length c0, .slice A1 l1.length c1, .slice A2 l2.length c2, .slice A3 l3.length c3] w fun e w' => e = .returned (.bool r) ∧ Below w.heap.size w w' := by
 have HR0 := Aside0.mk hr0
 have HC0 := Aside0.mk hc0
 clear hr0 hc0
 have HR1 := Aside0.mk hr1
 have HC1 := Aside0.mk hc1
 clear hr1 hc1
 have HR2 := Aside0.mk hr2
 have HC2 := Aside0.mk hc2
 clear hr2 hc2
 have HR3 := Aside0.mk hr3
 have HC3 := Aside0.mk hc3
 clear hr3 hc3
 have HB := Aside0.mk (Below.refl w.heap.size w)
 have H : ((falseworklaw18_heavy.f k l2 l1 l0).bind fun t209 => (if t209 = true then (falseworklaw18_PredAnds.j0 k l0 l1 l2 l3 true) else ((falseworklaw18_heavy.f k l3 l1 l0).bind fun t210 => (falseworklaw18_PredAnds.j0 k l0 l1 l2 l3 t210)))) = some r := h
 clear h
 have HC5 := Aside0.mk H
 clear H
 go_enter Try.func5, Try.ntmps5
 go_upto_region 1 with (fail)
 go_cut [29] (fun v29 wc => ∃ (kq : Nat) (x29_4 : Bool), v29 = .bool x29_4 ∧ Aside0 (falseworklaw18_PredAnds.j0 kq l0 l1 l2 l3 x29_4 = some r) ∧ Aside0 (kq ≤ k) ∧ Aside0 (Below w.heap.size w wc))
 case first =>
  have H := HC5.out
  clear HC5
  replace H := Option.bind_eq_some_iff.mp H
  obtain ⟨t209, A60, H⟩ := H
  replace H : (if t209 = true then (falseworklaw18_PredAnds.j0 k l0 l1 l2 l3 true) else ((falseworklaw18_heavy.f k l3 l1 l0).bind fun t210 => (falseworklaw18_PredAnds.j0 k l0 l1 l2 l3 t210))) = some r := H
  have A6 := Aside0.mk A60
  clear A60
  by_cases c7 : t209 = true
  ·subst c7
   have H1 : (falseworklaw18_PredAnds.j0 k l0 l1 l2 l3 true) = some r := by rw [if_pos rfl] at H; exact H
   clear H
   have H := H1
   clear H1
   have H' := Aside0.mk H
   clear H
   go_wp2_with (first | ((with_reducible refine gate_callee (f := 8) rfl ?_); refine goesL_ (some 23) rfl rfl Try.func8 (by kernel_rfl) rfl #[.slice A2 l2.length c2, .slice A1 l1.length c1, .slice A0 l0.length c0] rfl (by (try simp only [List.map_toArray, List.map_cons, List.map_nil]); first | done | rfl | (simp only [List.length_drop, List.length_take]; rfl)) ?_; (with_reducible refine (falseworklaw18_heavy.calls k _ _ l2 _ _ l1 _ _ l0 true _ ?side1 ?side2 ?side3 ?side4 ?side5 ?side6 A6.out).mono ?_); (case side1 => repeat (first | exact (Kd.C_below HR2.out HB.out) | (with_reducible refine Kd.C_alloc ?_ _) | (with_reducible refine Kd.C_drewN ?_ _) | (with_reducible refine Kd.C_drew ?_))); (case side2 => exact HC2.out); (case side3 => repeat (first | exact (Kd.C_below HR1.out HB.out) | (with_reducible refine Kd.C_alloc ?_ _) | (with_reducible refine Kd.C_drewN ?_ _) | (with_reducible refine Kd.C_drew ?_))); (case side4 => exact HC1.out); (case side5 => repeat (first | exact (Kd.C_below HR0.out HB.out) | (with_reducible refine Kd.C_alloc ?_ _) | (with_reducible refine Kd.C_drewN ?_ _) | (with_reducible refine Kd.C_drew ?_))); (case side6 => exact HC0.out); rintro e w8 ⟨rfl, hb⟩; refine ⟨_, rfl, ?_⟩; have n0_ := Aside0.mk (zS (by repeat (first | (with_reducible first | exact HB.out | apply zA | apply zN | apply zD) | exact HB.out)) hb); clear HB; have HB := n0_; clear n0_; (try clear hb); (try clear hb2); (try clear hk); (try clear hi)))
   go_meet
   case rel => exact ⟨_, (true), (by first | rfl | (simp; done) | (simp [*]; done)), H', ⟨by first | omega | exact Nat.le_refl _⟩, ⟨by repeat (first | (with_reducible first | exact HB.out | apply zA | apply zN | apply zD) | exact HB.out)⟩⟩
  ·replace c7 := Bool.eq_false_iff.mpr c7
   subst c7
   have H1 : ((falseworklaw18_heavy.f k l3 l1 l0).bind fun t210 => (falseworklaw18_PredAnds.j0 k l0 l1 l2 l3 t210)) = some r := by rw [if_neg (show ¬ (false = true) by decide)] at H; exact H
   clear H
   have H := H1
   clear H1
   replace H := Option.bind_eq_some_iff.mp H
   obtain ⟨t210, A90, H⟩ := H
   replace H : (falseworklaw18_PredAnds.j0 k l0 l1 l2 l3 t210) = some r := H
   have A9 := Aside0.mk A90
   clear A90
   have H' := Aside0.mk H
   clear H
   go_wp2_with (first | ((with_reducible refine gate_callee (f := 8) rfl ?_); refine goesL_ (some 23) rfl rfl Try.func8 (by kernel_rfl) rfl #[.slice A2 l2.length c2, .slice A1 l1.length c1, .slice A0 l0.length c0] rfl (by (try simp only [List.map_toArray, List.map_cons, List.map_nil]); first | done | rfl | (simp only [List.length_drop, List.length_take]; rfl)) ?_; (with_reducible refine (falseworklaw18_heavy.calls k _ _ l2 _ _ l1 _ _ l0 false _ ?side1 ?side2 ?side3 ?side4 ?side5 ?side6 A6.out).mono ?_); (case side1 => repeat (first | exact (Kd.C_below HR2.out HB.out) | (with_reducible refine Kd.C_alloc ?_ _) | (with_reducible refine Kd.C_drewN ?_ _) | (with_reducible refine Kd.C_drew ?_))); (case side2 => exact HC2.out); (case side3 => repeat (first | exact (Kd.C_below HR1.out HB.out) | (with_reducible refine Kd.C_alloc ?_ _) | (with_reducible refine Kd.C_drewN ?_ _) | (with_reducible refine Kd.C_drew ?_))); (case side4 => exact HC1.out); (case side5 => repeat (first | exact (Kd.C_below HR0.out HB.out) | (with_reducible refine Kd.C_alloc ?_ _) | (with_reducible refine Kd.C_drewN ?_ _) | (with_reducible refine Kd.C_drew ?_))); (case side6 => exact HC0.out); rintro e w10 ⟨rfl, hb⟩; refine ⟨_, rfl, ?_⟩; have n0_ := Aside0.mk (zS (by repeat (first | (with_reducible first | exact HB.out | apply zA | apply zN | apply zD) | exact HB.out)) hb); clear HB; have HB := n0_; clear n0_; (try clear hb); (try clear hb2); (try clear hk); (try clear hi)) | (go_at_call 8; (with_reducible refine (falseworklaw18_heavy.calls k _ _ l3 _ _ l1 _ _ l0 t210 _ ?side1 ?side2 ?side3 ?side4 ?side5 ?side6 A9.out).mono ?_); (case side1 => repeat (first | exact (Kd.C_below HR3.out HB.out) | (with_reducible refine Kd.C_alloc ?_ _) | (with_reducible refine Kd.C_drewN ?_ _) | (with_reducible refine Kd.C_drew ?_))); (case side2 => exact HC3.out); (case side3 => repeat (first | exact (Kd.C_below HR1.out HB.out) | (with_reducible refine Kd.C_alloc ?_ _) | (with_reducible refine Kd.C_drewN ?_ _) | (with_reducible refine Kd.C_drew ?_))); (case side4 => exact HC1.out); (case side5 => repeat (first | exact (Kd.C_below HR0.out HB.out) | (with_reducible refine Kd.C_alloc ?_ _) | (with_reducible refine Kd.C_drewN ?_ _) | (with_reducible refine Kd.C_drew ?_))); (case side6 => exact HC0.out); rintro e w11 ⟨rfl, hb⟩; have n0_ := Aside0.mk (zS (by repeat (first | (with_reducible first | exact HB.out | apply zA | apply zN | apply zD) | exact HB.out)) hb); clear HB; have HB := n0_; clear n0_; (try clear hb); (try clear hb2); (try clear hk); (try clear hi)))
   go_meet
   case rel => exact ⟨_, (t210), (by first | rfl | (simp; done) | (simp [*]; done)), H', ⟨by first | omega | exact Nat.le_refl _⟩, ⟨by repeat (first | (with_reducible first | exact HB.out | apply zA | apply zN | apply zD) | exact HB.out)⟩⟩
 case rest =>
  clear HC5
  try clear c1
  try clear c2
  try clear p2
  try clear c3
  try clear c5
  try clear c7
  try clear c8
  obtain ⟨kq, x29_4, rfl, HA, HJ4, HB⟩ := hcut
  cases kq with
  | zero => exact absurd HA.out (by simp [falseworklaw18_PredAnds.j0])
  | succ kj4 =>
   have H := HA.out
   clear HA
   simp only [falseworklaw18_PredAnds.j0] at H
   by_cases c12 : x29_4 = true
   ·subst c12
    have H1 : ((falseworklaw18_awake.f kj4).bind fun t211 => (some t211)) = some r := by rw [if_pos rfl] at H; exact H
    clear H
    have H := H1
    clear H1
    replace H := Option.bind_eq_some_iff.mp H
    obtain ⟨t211, A130, H⟩ := H
    replace H : (some t211) = some r := H
    have A13 := Aside0.mk A130
    clear A130
    obtain rfl := Option.some.inj H
    go_wp2_with (first | ((with_reducible refine gate_callee (f := 12) rfl ?_); refine goesL_ (some 30) rfl rfl Try.func12 (by kernel_rfl) rfl #[] rfl (by (try simp only [List.map_toArray, List.map_cons, List.map_nil]); first | done | rfl | (simp only [List.length_drop, List.length_take]; rfl)) ?_; (with_reducible refine (falseworklaw18_awake.calls kj4  t211 _ A13.out).mono ?_); rintro e w14 ⟨rfl, hb⟩; refine ⟨_, rfl, ?_⟩; have n0_ := Aside0.mk (zS (by repeat (first | (with_reducible first | exact HB.out | apply zA | apply zN | apply zD) | exact HB.out)) hb); clear HB; have HB := n0_; clear n0_; (try clear hb); (try clear hb2); (try clear hk); (try clear hi)))
    go_ret
    exact ⟨by first | rfl | (simp [errW_none, errW_some] <;> rfl) | (simp [*, errW_none, errW_some] <;> rfl), by repeat (first | (with_reducible first | exact HB.out | apply zA | apply zN | apply zD) | exact HB.out)⟩
   ·replace c12 := Bool.eq_false_iff.mpr c12
    subst c12
    have H1 : ((pred_Test.f kj4 l0 l1 l2).bind fun bt212 => ((pred_Test.f kj4 l0 l1 l3).bind fun bt214 => ((some (([] : List (S43)) : List (S43))).bind fun y216 => (if y216.length + l2.length < 2199023255552 then ((some (y216 ++ l2 : List (S43))).bind fun y219 => (if y219.length + l3.length < 2199023255552 then ((some (([] : List (S43)) : List (S43))).bind fun y225 => (if y225.length + l3.length < 2199023255552 then ((some (y225 ++ l3 : List (S43))).bind fun y228 => (if y228.length + l2.length < 2199023255552 then ((pred_Test.f kj4 l0 l1 (y219 ++ l3)).bind fun bt234 => ((pred_Test.f kj4 l0 l1 (y228 ++ l2)).bind fun bt236 => ((falseworklaw18_num.f bt212.2).bind fun t238 => (if t238 = 0 then ((falseworklaw18_num.f bt214.2).bind fun t239 => (falseworklaw18_PredAnds.j1 kj4 bt212.1 bt214.1 bt234.1 bt234.2 bt236.1 bt236.2 (t239 != 0))) else (falseworklaw18_PredAnds.j1 kj4 bt212.1 bt214.1 bt234.1 bt234.2 bt236.1 bt236.2 true))))) else (none))) else (none))) else (none))) else (none))))) = some r := by rw [if_neg (show ¬ (false = true) by decide)] at H; exact H
    clear H
    have H := H1
    clear H1
    replace H := Option.bind_eq_some_iff.mp H
    obtain ⟨⟨t212, t213⟩, A150, H⟩ := H
    replace H : ((pred_Test.f kj4 l0 l1 l3).bind fun bt214 => ((some (([] : List (S43)) : List (S43))).bind fun y216 => (if y216.length + l2.length < 2199023255552 then ((some (y216 ++ l2 : List (S43))).bind fun y219 => (if y219.length + l3.length < 2199023255552 then ((some (([] : List (S43)) : List (S43))).bind fun y225 => (if y225.length + l3.length < 2199023255552 then ((some (y225 ++ l3 : List (S43))).bind fun y228 => (if y228.length + l2.length < 2199023255552 then ((pred_Test.f kj4 l0 l1 (y219 ++ l3)).bind fun bt234 => ((pred_Test.f kj4 l0 l1 (y228 ++ l2)).bind fun bt236 => ((falseworklaw18_num.f t213).bind fun t238 => (if t238 = 0 then ((falseworklaw18_num.f bt214.2).bind fun t239 => (falseworklaw18_PredAnds.j1 kj4 t212 bt214.1 bt234.1 bt234.2 bt236.1 bt236.2 (t239 != 0))) else (falseworklaw18_PredAnds.j1 kj4 t212 bt214.1 bt234.1 bt234.2 bt236.1 bt236.2 true))))) else (none))) else (none))) else (none))) else (none)))) = some r := H
    have A15 := Aside0.mk A150
    clear A150
    replace H := Option.bind_eq_some_iff.mp H
    obtain ⟨⟨t214, t215⟩, A160, H⟩ := H
    replace H : ((some (([] : List (S43)) : List (S43))).bind fun y216 => (if y216.length + l2.length < 2199023255552 then ((some (y216 ++ l2 : List (S43))).bind fun y219 => (if y219.length + l3.length < 2199023255552 then ((some (([] : List (S43)) : List (S43))).bind fun y225 => (if y225.length + l3.length < 2199023255552 then ((some (y225 ++ l3 : List (S43))).bind fun y228 => (if y228.length + l2.length < 2199023255552 then ((pred_Test.f kj4 l0 l1 (y219 ++ l3)).bind fun bt234 => ((pred_Test.f kj4 l0 l1 (y228 ++ l2)).bind fun bt236 => ((falseworklaw18_num.f t213).bind fun t238 => (if t238 = 0 then ((falseworklaw18_num.f t215).bind fun t239 => (falseworklaw18_PredAnds.j1 kj4 t212 t214 bt234.1 bt234.2 bt236.1 bt236.2 (t239 != 0))) else (falseworklaw18_PredAnds.j1 kj4 t212 t214 bt234.1 bt234.2 bt236.1 bt236.2 true))))) else (none))) else (none))) else (none))) else (none))) = some r := H
    have A16 := Aside0.mk A160
    clear A160
    obtain ⟨y216, hy216⟩ : ∃ y_ : List (S43), y_ = (([] : List (S43))) := ⟨_, rfl⟩
    replace H : (if y216.length + l2.length < 2199023255552 then ((some (y216 ++ l2 : List (S43))).bind fun y219 => (if y219.length + l3.length < 2199023255552 then ((some (([] : List (S43)) : List (S43))).bind fun y225 => (if y225.length + l3.length < 2199023255552 then ((some (y225 ++ l3 : List (S43))).bind fun y228 => (if y228.length + l2.length < 2199023255552 then ((pred_Test.f kj4 l0 l1 (y219 ++ l3)).bind fun bt234 => ((pred_Test.f kj4 l0 l1 (y228 ++ l2)).bind fun bt236 => ((falseworklaw18_num.f t213).bind fun t238 => (if t238 = 0 then ((falseworklaw18_num.f t215).bind fun t239 => (falseworklaw18_PredAnds.j1 kj4 t212 t214 bt234.1 bt234.2 bt236.1 bt236.2 (t239 != 0))) else (falseworklaw18_PredAnds.j1 kj4 t212 t214 bt234.1 bt234.2 bt236.1 bt236.2 true))))) else (none))) else (none))) else (none))) else (none)) = some r := by first | (rw [hy216]; with_reducible exact H) | (have H2_ := (Option.bind_some _ _).symm.trans H; rw [hy216]; with_reducible exact H2_) | (have H2_ := (Option.bind_some _ _).symm.trans H; with_reducible exact H2_) | with_reducible exact H | (rw [hy216]; exact H) | exact H
    have Ny216 := Aside0.mk hy216
    clear hy216
    by_cases c17 : y216.length + l2.length < 2199023255552
    ·rw [if_pos c17] at H
     have LMc17 := Aside0.mk c17
     clear c17
     obtain ⟨y219, hy219⟩ : ∃ y_ : List (S43), y_ = (y216 ++ l2) := ⟨_, rfl⟩
     replace H : (if y219.length + l3.length < 2199023255552 then ((some (([] : List (S43)) : List (S43))).bind fun y225 => (if y225.length + l3.length < 2199023255552 then ((some (y225 ++ l3 : List (S43))).bind fun y228 => (if y228.length + l2.length < 2199023255552 then ((pred_Test.f kj4 l0 l1 (y219 ++ l3)).bind fun bt234 => ((pred_Test.f kj4 l0 l1 (y228 ++ l2)).bind fun bt236 => ((falseworklaw18_num.f t213).bind fun t238 => (if t238 = 0 then ((falseworklaw18_num.f t215).bind fun t239 => (falseworklaw18_PredAnds.j1 kj4 t212 t214 bt234.1 bt234.2 bt236.1 bt236.2 (t239 != 0))) else (falseworklaw18_PredAnds.j1 kj4 t212 t214 bt234.1 bt234.2 bt236.1 bt236.2 true))))) else (none))) else (none))) else (none)) = some r := by first | (rw [hy219]; with_reducible exact H) | (have H2_ := (Option.bind_some _ _).symm.trans H; rw [hy219]; with_reducible exact H2_) | (have H2_ := (Option.bind_some _ _).symm.trans H; with_reducible exact H2_) | with_reducible exact H | (rw [hy219]; exact H) | exact H
     have Ny219 := Aside0.mk hy219
     clear hy219
     by_cases c18 : y219.length + l3.length < 2199023255552
     ·rw [if_pos c18] at H
      have LMc18 := Aside0.mk c18
      clear c18
      obtain ⟨y222, hy222⟩ : ∃ y_ : List (S43), y_ = (y219 ++ l3) := ⟨_, rfl⟩
      replace H : ((some (([] : List (S43)) : List (S43))).bind fun y225 => (if y225.length + l3.length < 2199023255552 then ((some (y225 ++ l3 : List (S43))).bind fun y228 => (if y228.length + l2.length < 2199023255552 then ((pred_Test.f kj4 l0 l1 y222).bind fun bt234 => ((pred_Test.f kj4 l0 l1 (y228 ++ l2)).bind fun bt236 => ((falseworklaw18_num.f t213).bind fun t238 => (if t238 = 0 then ((falseworklaw18_num.f t215).bind fun t239 => (falseworklaw18_PredAnds.j1 kj4 t212 t214 bt234.1 bt234.2 bt236.1 bt236.2 (t239 != 0))) else (falseworklaw18_PredAnds.j1 kj4 t212 t214 bt234.1 bt234.2 bt236.1 bt236.2 true))))) else (none))) else (none))) = some r := by first | (rw [hy222]; with_reducible exact H) | (have H2_ := (Option.bind_some _ _).symm.trans H; rw [hy222]; with_reducible exact H2_) | (have H2_ := (Option.bind_some _ _).symm.trans H; with_reducible exact H2_) | with_reducible exact H | (rw [hy222]; exact H) | exact H
      have Ny222 := Aside0.mk hy222
      clear hy222
      obtain ⟨y225, hy225⟩ : ∃ y_ : List (S43), y_ = (([] : List (S43))) := ⟨_, rfl⟩
      replace H : (if y225.length + l3.length < 2199023255552 then ((some (y225 ++ l3 : List (S43))).bind fun y228 => (if y228.length + l2.length < 2199023255552 then ((pred_Test.f kj4 l0 l1 y222).bind fun bt234 => ((pred_Test.f kj4 l0 l1 (y228 ++ l2)).bind fun bt236 => ((falseworklaw18_num.f t213).bind fun t238 => (if t238 = 0 then ((falseworklaw18_num.f t215).bind fun t239 => (falseworklaw18_PredAnds.j1 kj4 t212 t214 bt234.1 bt234.2 bt236.1 bt236.2 (t239 != 0))) else (falseworklaw18_PredAnds.j1 kj4 t212 t214 bt234.1 bt234.2 bt236.1 bt236.2 true))))) else (none))) else (none)) = some r := by first | (rw [hy225]; with_reducible exact H) | (have H2_ := (Option.bind_some _ _).symm.trans H; rw [hy225]; with_reducible exact H2_) | (have H2_ := (Option.bind_some _ _).symm.trans H; with_reducible exact H2_) | with_reducible exact H | (rw [hy225]; exact H) | exact H
      have Ny225 := Aside0.mk hy225
      clear hy225
      by_cases c19 : y225.length + l3.length < 2199023255552
      ·rw [if_pos c19] at H
       have LMc19 := Aside0.mk c19
       clear c19
       obtain ⟨y228, hy228⟩ : ∃ y_ : List (S43), y_ = (y225 ++ l3) := ⟨_, rfl⟩
       replace H : (if y228.length + l2.length < 2199023255552 then ((pred_Test.f kj4 l0 l1 y222).bind fun bt234 => ((pred_Test.f kj4 l0 l1 (y228 ++ l2)).bind fun bt236 => ((falseworklaw18_num.f t213).bind fun t238 => (if t238 = 0 then ((falseworklaw18_num.f t215).bind fun t239 => (falseworklaw18_PredAnds.j1 kj4 t212 t214 bt234.1 bt234.2 bt236.1 bt236.2 (t239 != 0))) else (falseworklaw18_PredAnds.j1 kj4 t212 t214 bt234.1 bt234.2 bt236.1 bt236.2 true))))) else (none)) = some r := by first | (rw [hy228]; with_reducible exact H) | (have H2_ := (Option.bind_some _ _).symm.trans H; rw [hy228]; with_reducible exact H2_) | (have H2_ := (Option.bind_some _ _).symm.trans H; with_reducible exact H2_) | with_reducible exact H | (rw [hy228]; exact H) | exact H
       have Ny228 := Aside0.mk hy228
       clear hy228
       by_cases c20 : y228.length + l2.length < 2199023255552
       ·rw [if_pos c20] at H
        have LMc20 := Aside0.mk c20
        clear c20
        obtain ⟨y231, hy231⟩ : ∃ y_ : List (S43), y_ = (y228 ++ l2) := ⟨_, rfl⟩
        replace H : ((pred_Test.f kj4 l0 l1 y222).bind fun bt234 => ((pred_Test.f kj4 l0 l1 y231).bind fun bt236 => ((falseworklaw18_num.f t213).bind fun t238 => (if t238 = 0 then ((falseworklaw18_num.f t215).bind fun t239 => (falseworklaw18_PredAnds.j1 kj4 t212 t214 bt234.1 bt234.2 bt236.1 bt236.2 (t239 != 0))) else (falseworklaw18_PredAnds.j1 kj4 t212 t214 bt234.1 bt234.2 bt236.1 bt236.2 true))))) = some r := by first | (rw [hy231]; with_reducible exact H) | (have H2_ := (Option.bind_some _ _).symm.trans H; rw [hy231]; with_reducible exact H2_) | (have H2_ := (Option.bind_some _ _).symm.trans H; with_reducible exact H2_) | with_reducible exact H | (rw [hy231]; exact H) | exact H
        have Ny231 := Aside0.mk hy231
        clear hy231
        replace H := Option.bind_eq_some_iff.mp H
        obtain ⟨⟨t234, t235⟩, A210, H⟩ := H
        replace H : ((pred_Test.f kj4 l0 l1 y231).bind fun bt236 => ((falseworklaw18_num.f t213).bind fun t238 => (if t238 = 0 then ((falseworklaw18_num.f t215).bind fun t239 => (falseworklaw18_PredAnds.j1 kj4 t212 t214 t234 t235 bt236.1 bt236.2 (t239 != 0))) else (falseworklaw18_PredAnds.j1 kj4 t212 t214 t234 t235 bt236.1 bt236.2 true)))) = some r := H
        have A21 := Aside0.mk A210
        clear A210
        replace H := Option.bind_eq_some_iff.mp H
        obtain ⟨⟨t236, t237⟩, A220, H⟩ := H
        replace H : ((falseworklaw18_num.f t213).bind fun t238 => (if t238 = 0 then ((falseworklaw18_num.f t215).bind fun t239 => (falseworklaw18_PredAnds.j1 kj4 t212 t214 t234 t235 t236 t237 (t239 != 0))) else (falseworklaw18_PredAnds.j1 kj4 t212 t214 t234 t235 t236 t237 true))) = some r := H
        have A22 := Aside0.mk A220
        clear A220
        have HC23 := Aside0.mk H
        clear H
        go_upto_region 11 with (first | ((with_reducible refine gate_callee (f := 13) rfl ?_); refine goesL_ (some 35) rfl rfl Try.func13 (by kernel_rfl) rfl #[.slice A0 l0.length c0, .slice A1 l1.length c1, .slice A2 l2.length c2] rfl (by (try simp only [List.map_toArray, List.map_cons, List.map_nil]); first | done | rfl | (simp only [List.length_drop, List.length_take]; rfl)) ?_; (with_reducible refine (pred_Test.calls kj4 _ _ l0 _ _ l1 _ _ l2 t212 t213 _ ?side1 ?side2 ?side3 ?side4 ?side5 ?side6 A15.out).mono ?_); (case side1 => repeat (first | exact (Kd.C_below HR0.out HB.out) | (with_reducible refine Kd.C_alloc ?_ _) | (with_reducible refine Kd.C_drewN ?_ _) | (with_reducible refine Kd.C_drew ?_))); (case side2 => exact HC0.out); (case side3 => repeat (first | exact (Kd.C_below HR1.out HB.out) | (with_reducible refine Kd.C_alloc ?_ _) | (with_reducible refine Kd.C_drewN ?_ _) | (with_reducible refine Kd.C_drew ?_))); (case side4 => exact HC1.out); (case side5 => repeat (first | exact (Kd.C_below HR2.out HB.out) | (with_reducible refine Kd.C_alloc ?_ _) | (with_reducible refine Kd.C_drewN ?_ _) | (with_reducible refine Kd.C_drew ?_))); (case side6 => exact HC2.out); rintro e w24 ⟨rfl, hb⟩; refine ⟨_, rfl, ?_⟩; have n0_ := Aside0.mk (zS (by repeat (first | (with_reducible first | exact HB.out | apply zA | apply zN | apply zD) | exact HB.out)) hb); clear HB; have HB := n0_; clear n0_; (try clear hb); (try clear hb2); (try clear hk); (try clear hi)) | ((with_reducible refine gate_callee (f := 13) rfl ?_); refine goesL_ (some 42) rfl rfl Try.func13 (by kernel_rfl) rfl #[.slice A0 l0.length c0, .slice A1 l1.length c1, .slice A3 l3.length c3] rfl (by (try simp only [List.map_toArray, List.map_cons, List.map_nil]); first | done | rfl | (simp only [List.length_drop, List.length_take]; rfl)) ?_; (with_reducible refine (pred_Test.calls kj4 _ _ l0 _ _ l1 _ _ l3 t214 t215 _ ?side1 ?side2 ?side3 ?side4 ?side5 ?side6 A16.out).mono ?_); (case side1 => repeat (first | exact (Kd.C_below HR0.out HB.out) | (with_reducible refine Kd.C_alloc ?_ _) | (with_reducible refine Kd.C_drewN ?_ _) | (with_reducible refine Kd.C_drew ?_))); (case side2 => exact HC0.out); (case side3 => repeat (first | exact (Kd.C_below HR1.out HB.out) | (with_reducible refine Kd.C_alloc ?_ _) | (with_reducible refine Kd.C_drewN ?_ _) | (with_reducible refine Kd.C_drew ?_))); (case side4 => exact HC1.out); (case side5 => repeat (first | exact (Kd.C_below HR3.out HB.out) | (with_reducible refine Kd.C_alloc ?_ _) | (with_reducible refine Kd.C_drewN ?_ _) | (with_reducible refine Kd.C_drew ?_))); (case side6 => exact HC3.out); rintro e w25 ⟨rfl, hb⟩; refine ⟨_, rfl, ?_⟩; have n0_ := Aside0.mk (zS (by repeat (first | (with_reducible first | exact HB.out | apply zA | apply zN | apply zD) | exact HB.out)) hb); clear HB; have HB := n0_; clear n0_; (try clear hb); (try clear hb2); (try clear hk); (try clear hi)) | ((with_reducible refine gate_dst (N := 45) rfl ?_); refine Kd.R_lit k43 _ 43 ?hg (N := 45) ?hd (xs := ([] : List (S43))) (inner := []) (ok := fun _ => True) (okp := fun _ => True) ?hr ?hp (fun _ hk => hk) trivial (Below.refl _ _) (Nat.le_refl _) (by simp) ?_; (case hd => rfl); (case hg => rfl); (case hr => first | (go_simp; done) | (go_simp; rfl)); (case hp => exact (Reps.none _ _)); intro v217 w26 ho27 hb hg_ hnew_; clear hg_ hnew_; (first | rw [← Ny216.out] at ho27 | (simp only [Int.reduceToNat] at ho27; rw [← Ny216.out] at ho27)); have n0_ := Aside0.mk (Kd.R_lower ho27 (zZ (by repeat (first | (with_reducible first | exact HB.out | apply zA | apply zN | apply zD) | exact HB.out)))); have n1_ := Aside0.mk (zS (by repeat (first | (with_reducible first | exact HB.out | apply zA | apply zN | apply zD) | exact HB.out)) hb); clear HB; have HO218 := n0_; have HB := n1_; clear n0_ n1_; clear hb ho27) | ((with_reducible refine gate_builtin (b := .append) (xs := #[.tmp 45, .tmp 46]) rfl ?_); at_builtin; refine Kd.R_append_rows k43 (w0 := w) w.heap.size rfl (.tmp 45) (.tmp 46) 23 43 (.agg #[(.string ⟨#[]⟩), (.int .i64 0), (.int .i64 0), (.int .i64 0), (.int .u64 0), (.string ⟨#[]⟩)]) 64 rfl Try.underlying23 info43 rfl (by decide) (by omega) v217 y216 l2 _ _ _ (fun _ => True) (fun _ => False) rfl rfl ?aO ?aR (fun _ _ h => h) (fun _ h => h.elim) ?aF ?aB ?aS ?aL ?_; (case aR => repeat (first | exact (Kd.C_below HR2.out HB.out) | (with_reducible refine Kd.C_alloc ?_ _) | (with_reducible refine Kd.C_drewN ?_ _) | (with_reducible refine Kd.C_drew ?_))); (case aB => exact (by repeat (first | (with_reducible first | exact HB.out | apply zA | apply zN | apply zD) | exact HB.out))); (case aF => exact (fun _ _ => trivial)); (case aO => exact (by (with_reducible repeat (first | apply Kd.R_alloc | apply Kd.R_drewN | apply Kd.R_drew)); exact HO218.out)); (case aS => exact (zZ (by repeat (first | (with_reducible first | exact HB.out | apply zA | apply zN | apply zD) | exact HB.out)))); (case aL => have := LMc17.out; omega); intro v220 w28 ho hb hg hat; rw [← Ny219.out] at ho; have n0_ := Aside0.mk (hb); have n1_ := Aside0.mk (ho); clear HB; clear HO218; have HB := n0_; have HO221 := n1_; clear n0_ n1_; clear ho hb hg hat) | ((with_reducible refine gate_builtin (b := .append) (xs := #[.tmp 48, .tmp 49]) rfl ?_); at_builtin; refine Kd.R_append_rows k43 (w0 := w) w.heap.size rfl (.tmp 48) (.tmp 49) 23 43 (.agg #[(.string ⟨#[]⟩), (.int .i64 0), (.int .i64 0), (.int .i64 0), (.int .u64 0), (.string ⟨#[]⟩)]) 64 rfl Try.underlying23 info43 rfl (by decide) (by omega) v220 y219 l3 _ _ _ (fun _ => True) (fun _ => False) rfl rfl ?aO ?aR (fun _ _ h => h) (fun _ h => h.elim) ?aF ?aB ?aS ?aL ?_; (case aR => repeat (first | exact (Kd.C_below HR3.out HB.out) | (with_reducible refine Kd.C_alloc ?_ _) | (with_reducible refine Kd.C_drewN ?_ _) | (with_reducible refine Kd.C_drew ?_))); (case aB => exact (by repeat (first | (with_reducible first | exact HB.out | apply zA | apply zN | apply zD) | exact HB.out))); (case aF => exact (fun _ _ => trivial)); (case aO => exact (by (with_reducible repeat (first | apply Kd.R_alloc | apply Kd.R_drewN | apply Kd.R_drew)); exact HO221.out)); (case aS => exact (zZ (by repeat (first | (with_reducible first | exact HB.out | apply zA | apply zN | apply zD) | exact HB.out)))); (case aL => have := LMc18.out; omega); intro v223 w29 ho hb hg hat; rw [← Ny222.out] at ho; have n0_ := Aside0.mk (hb); have n1_ := Aside0.mk (ho); clear HB; clear HO221; have HB := n0_; have HO224 := n1_; clear n0_ n1_; clear ho hb hg hat) | ((with_reducible refine gate_dst (N := 51) rfl ?_); refine Kd.R_lit k43 _ 43 ?hg (N := 51) ?hd (xs := ([] : List (S43))) (inner := []) (ok := fun _ => True) (okp := fun _ => True) ?hr ?hp (fun _ hk => hk) trivial (Below.refl _ _) (Nat.le_refl _) (by simp) ?_; (case hd => rfl); (case hg => rfl); (case hr => first | (go_simp; done) | (go_simp; rfl)); (case hp => exact (Reps.none _ _)); intro v226 w30 ho31 hb hg_ hnew_; clear hg_ hnew_; (first | rw [← Ny225.out] at ho31 | (simp only [Int.reduceToNat] at ho31; rw [← Ny225.out] at ho31)); have n0_ := Aside0.mk (Kd.R_elder' (by (with_reducible repeat (first | apply Kd.R_alloc | apply Kd.R_drewN | apply Kd.R_drew)); exact HO224.out) (Kd.R_base ho31) hb); have n1_ := Aside0.mk (Kd.R_lower (Kd.R_new' ho31 (Kd.R_lt (by (with_reducible repeat (first | apply Kd.R_alloc | apply Kd.R_drewN | apply Kd.R_drew)); exact HO224.out))) (zZ (by repeat (first | (with_reducible first | exact HB.out | apply zA | apply zN | apply zD) | exact HB.out)))); have n2_ := Aside0.mk (zS (by repeat (first | (with_reducible first | exact HB.out | apply zA | apply zN | apply zD) | exact HB.out)) hb); clear HO224; clear HB; have HO224 := n0_; have HO227 := n1_; have HB := n2_; clear n0_ n1_ n2_; clear hb ho31) | ((with_reducible refine gate_builtin (b := .append) (xs := #[.tmp 51, .tmp 52]) rfl ?_); at_builtin; refine Kd.R_append_rows k43 (w0 := w) w.heap.size rfl (.tmp 51) (.tmp 52) 23 43 (.agg #[(.string ⟨#[]⟩), (.int .i64 0), (.int .i64 0), (.int .i64 0), (.int .u64 0), (.string ⟨#[]⟩)]) 64 rfl Try.underlying23 info43 rfl (by decide) (by omega) v226 y225 l3 _ _ _ (fun k_ => some k_ ≠ (v223 : Value).ownBlock) (fun _ => False) rfl rfl ?aO ?aR (fun _ _ h => h) (fun _ h => h.elim) ?aF ?aB ?aS ?aL ?_; (case aR => repeat (first | exact (Kd.C_below HR3.out HB.out) | (with_reducible refine Kd.C_alloc ?_ _) | (with_reducible refine Kd.C_drewN ?_ _) | (with_reducible refine Kd.C_drew ?_))); (case aB => exact (by repeat (first | (with_reducible first | exact HB.out | apply zA | apply zN | apply zD) | exact HB.out))); (case aF => exact (fun k_ hk => Kd.fresh' (Kd.R_lt (by (with_reducible repeat (first | apply Kd.R_alloc | apply Kd.R_drewN | apply Kd.R_drew)); exact HO224.out)) k_ hk)); (case aO => exact (by (with_reducible repeat (first | apply Kd.R_alloc | apply Kd.R_drewN | apply Kd.R_drew)); exact Kd.R_mono HO227.out (fun _ hk => hk.2))); (case aS => exact (zZ (by repeat (first | (with_reducible first | exact HB.out | apply zA | apply zN | apply zD) | exact HB.out)))); (case aL => have := LMc19.out; omega); intro v229 w32 ho hb hg hat; rw [← Ny228.out] at ho; have n0_ := Aside0.mk (Kd.R_after (ok := (fun _ => True)) (by (with_reducible repeat (first | apply Kd.R_alloc | apply Kd.R_drewN | apply Kd.R_drew)); exact HO224.out) hg hat); have n1_ := Aside0.mk (hb); have n2_ := Aside0.mk (ho); clear HO224; clear HB; clear HO227; have HO224 := n0_; have HB := n1_; have HO230 := n2_; clear n0_ n1_ n2_; clear ho hb hg hat) | ((with_reducible refine gate_builtin (b := .append) (xs := #[.tmp 54, .tmp 55]) rfl ?_); at_builtin; refine Kd.R_append_rows k43 (w0 := w) w.heap.size rfl (.tmp 54) (.tmp 55) 23 43 (.agg #[(.string ⟨#[]⟩), (.int .i64 0), (.int .i64 0), (.int .i64 0), (.int .u64 0), (.string ⟨#[]⟩)]) 64 rfl Try.underlying23 info43 rfl (by decide) (by omega) v229 y228 l2 _ _ _ (fun k_ => some k_ ≠ (v223 : Value).ownBlock) (fun _ => False) rfl rfl ?aO ?aR (fun _ _ h => h) (fun _ h => h.elim) ?aF ?aB ?aS ?aL ?_; (case aR => repeat (first | exact (Kd.C_below HR2.out HB.out) | (with_reducible refine Kd.C_alloc ?_ _) | (with_reducible refine Kd.C_drewN ?_ _) | (with_reducible refine Kd.C_drew ?_))); (case aB => exact (by repeat (first | (with_reducible first | exact HB.out | apply zA | apply zN | apply zD) | exact HB.out))); (case aF => exact (fun k_ hk => Kd.fresh' (Kd.R_lt (by (with_reducible repeat (first | apply Kd.R_alloc | apply Kd.R_drewN | apply Kd.R_drew)); exact HO224.out)) k_ hk)); (case aO => exact (by (with_reducible repeat (first | apply Kd.R_alloc | apply Kd.R_drewN | apply Kd.R_drew)); exact HO230.out)); (case aS => exact (zZ (by repeat (first | (with_reducible first | exact HB.out | apply zA | apply zN | apply zD) | exact HB.out)))); (case aL => have := LMc20.out; omega); intro v232 w33 ho hb hg hat; rw [← Ny231.out] at ho; have n0_ := Aside0.mk (Kd.R_after (ok := (fun _ => True)) (by (with_reducible repeat (first | apply Kd.R_alloc | apply Kd.R_drewN | apply Kd.R_drew)); exact HO224.out) hg hat); have n1_ := Aside0.mk (hb); have n2_ := Aside0.mk (ho); clear HO224; clear HB; clear HO230; have HO224 := n0_; have HB := n1_; have HO233 := n2_; clear n0_ n1_ n2_; clear ho hb hg hat; obtain ⟨Ao34, co34, eo34⟩ := Kd.R_slice HO224.out; subst eo34) | ((with_reducible refine gate_callee (f := 13) rfl ?_); refine goesL_ (some 61) rfl rfl Try.func13 (by kernel_rfl) rfl #[.slice A0 l0.length c0, .slice A1 l1.length c1, .slice Ao34 y222.length co34] rfl (by (try simp only [List.map_toArray, List.map_cons, List.map_nil]); first | done | rfl | (simp only [List.length_drop, List.length_take]; rfl)) ?_; (with_reducible refine (pred_Test.calls kj4 _ _ l0 _ _ l1 _ _ y222 t234 t235 _ ?side1 ?side2 ?side3 ?side4 ?side5 ?side6 A21.out).mono ?_); (case side1 => repeat (first | exact (Kd.C_below HR0.out HB.out) | (with_reducible refine Kd.C_alloc ?_ _) | (with_reducible refine Kd.C_drewN ?_ _) | (with_reducible refine Kd.C_drew ?_))); (case side2 => exact HC0.out); (case side3 => repeat (first | exact (Kd.C_below HR1.out HB.out) | (with_reducible refine Kd.C_alloc ?_ _) | (with_reducible refine Kd.C_drewN ?_ _) | (with_reducible refine Kd.C_drew ?_))); (case side4 => exact HC1.out); (case side5 => repeat (first | exact (Kd.R_reads' HO224.out).2.2 | (with_reducible refine Kd.C_alloc ?_ _) | (with_reducible refine Kd.C_drewN ?_ _) | (with_reducible refine Kd.C_drew ?_))); (case side6 => exact (Kd.R_reads' HO224.out).2.1); rintro e w35 ⟨rfl, hb⟩; refine ⟨_, rfl, ?_⟩; have n0_ := Aside0.mk (Kd.R_below (by (with_reducible repeat (first | apply Kd.R_alloc | apply Kd.R_drewN | apply Kd.R_drew)); exact HO224.out) hb); have n1_ := Aside0.mk (Kd.R_below (by (with_reducible repeat (first | apply Kd.R_alloc | apply Kd.R_drewN | apply Kd.R_drew)); exact HO233.out) hb); have n2_ := Aside0.mk (zS (by repeat (first | (with_reducible first | exact HB.out | apply zA | apply zN | apply zD) | exact HB.out)) hb); clear HO224; clear HO233; clear HB; have HO224 := n0_; have HO233 := n1_; have HB := n2_; clear n0_ n1_ n2_; (try clear hb); (try clear hb2); (try clear hk); (try clear hi); obtain ⟨Ao36, co36, eo36⟩ := Kd.R_slice HO233.out; subst eo36) | ((with_reducible refine gate_callee (f := 13) rfl ?_); refine goesL_ (some 68) rfl rfl Try.func13 (by kernel_rfl) rfl #[.slice A0 l0.length c0, .slice A1 l1.length c1, .slice Ao36 y231.length co36] rfl (by (try simp only [List.map_toArray, List.map_cons, List.map_nil]); first | done | rfl | (simp only [List.length_drop, List.length_take]; rfl)) ?_; (with_reducible refine (pred_Test.calls kj4 _ _ l0 _ _ l1 _ _ y231 t236 t237 _ ?side1 ?side2 ?side3 ?side4 ?side5 ?side6 A22.out).mono ?_); (case side1 => repeat (first | exact (Kd.C_below HR0.out HB.out) | (with_reducible refine Kd.C_alloc ?_ _) | (with_reducible refine Kd.C_drewN ?_ _) | (with_reducible refine Kd.C_drew ?_))); (case side2 => exact HC0.out); (case side3 => repeat (first | exact (Kd.C_below HR1.out HB.out) | (with_reducible refine Kd.C_alloc ?_ _) | (with_reducible refine Kd.C_drewN ?_ _) | (with_reducible refine Kd.C_drew ?_))); (case side4 => exact HC1.out); (case side5 => repeat (first | exact (Kd.R_reads' HO233.out).2.2 | (with_reducible refine Kd.C_alloc ?_ _) | (with_reducible refine Kd.C_drewN ?_ _) | (with_reducible refine Kd.C_drew ?_))); (case side6 => exact (Kd.R_reads' HO233.out).2.1); rintro e w37 ⟨rfl, hb⟩; refine ⟨_, rfl, ?_⟩; have n0_ := Aside0.mk (Kd.R_below (by (with_reducible repeat (first | apply Kd.R_alloc | apply Kd.R_drewN | apply Kd.R_drew)); exact HO224.out) hb); have n1_ := Aside0.mk (Kd.R_below (by (with_reducible repeat (first | apply Kd.R_alloc | apply Kd.R_drewN | apply Kd.R_drew)); exact HO233.out) hb); have n2_ := Aside0.mk (zS (by repeat (first | (with_reducible first | exact HB.out | apply zA | apply zN | apply zD) | exact HB.out)) hb); clear HO224; clear HO233; clear HB; have HO224 := n0_; have HO233 := n1_; have HB := n2_; clear n0_ n1_ n2_; (try clear hb); (try clear hb2); (try clear hk); (try clear hi)))
        (try simp only [Act.put, List.setIfInBounds_toArray, List.set_cons_zero, List.set_cons_succ])
        go_cut [78] (fun v78 wc => ∃ (kq : Nat) (x78_22 : Bool), v78 = .bool x78_22 ∧ Aside0 (falseworklaw18_PredAnds.j1 kq t212 t214 t234 t235 t236 t237 x78_22 = some r) ∧ Aside0 (kq ≤ kj4) ∧ Aside0 (Below w.heap.size w wc))
        case first =>
         have H := HC23.out
         clear HC23
         replace H := Option.bind_eq_some_iff.mp H
         obtain ⟨t238, A380, H⟩ := H
         replace H : (if t238 = 0 then ((falseworklaw18_num.f t215).bind fun t239 => (falseworklaw18_PredAnds.j1 kj4 t212 t214 t234 t235 t236 t237 (t239 != 0))) else (falseworklaw18_PredAnds.j1 kj4 t212 t214 t234 t235 t236 t237 true)) = some r := H
         have A38 := Aside0.mk A380
         clear A380
         by_cases c39 : t238 = 0
         ·rw [if_pos c39] at H
          have c39b0 : (t238 == 0) = true := beq_iff_eq.mpr c39
          have c39b1 : (t238 != 0) = false := bne_eq_false_iff_eq.mpr c39
          clear c39
          (first | rw [c39b0] | (simp only [i64_w, i32_w]; rw [c39b0]) | skip)
          replace H := Option.bind_eq_some_iff.mp H
          obtain ⟨t239, A400, H⟩ := H
          replace H : (falseworklaw18_PredAnds.j1 kj4 t212 t214 t234 t235 t236 t237 (t239 != 0)) = some r := H
          have A40 := Aside0.mk A400
          clear A400
          have H' := Aside0.mk H
          clear H
          go_wp2_with (first | ((with_reducible refine gate_callee (f := 9) rfl ?_); refine goesL_ (some 72) rfl rfl Try.func9 (by kernel_rfl) rfl #[.int .i64 t213] rfl (by (try simp only [List.map_toArray, List.map_cons, List.map_nil]); first | done | rfl | (simp only [List.length_drop, List.length_take]; rfl)) ?_; (with_reducible refine (falseworklaw18_num.calls t213 t238 _ A38.out).mono ?_); rintro e w' ⟨rfl, ⟨nd, rfl⟩⟩; refine ⟨_, rfl, ?_⟩) | (go_at_call 9; (with_reducible refine (falseworklaw18_num.calls t215 t239 _ A40.out).mono ?_); rintro e w' ⟨rfl, ⟨nd, rfl⟩⟩))
          go_meet
          case rel => exact ⟨_, ((t239 != 0)), (by first | rfl | (simp; done) | (simp [*]; done)), H', ⟨by have := HJ4.out; first | omega | exact Nat.le_refl _⟩, ⟨by repeat (first | (with_reducible first | exact HB.out | apply zA | apply zN | apply zD) | exact HB.out)⟩⟩
         ·rw [if_neg c39] at H
          have c39b0 : (t238 == 0) = false := beq_eq_false_iff_ne.mpr c39
          have c39b1 : (t238 != 0) = true := bne_iff_ne.mpr c39
          (first | rw [c39b0] | (simp only [i64_w, i32_w]; rw [c39b0]) | skip)
          have H' := Aside0.mk H
          clear H
          go_wp2_with (first | ((with_reducible refine gate_callee (f := 9) rfl ?_); refine goesL_ (some 72) rfl rfl Try.func9 (by kernel_rfl) rfl #[.int .i64 t213] rfl (by (try simp only [List.map_toArray, List.map_cons, List.map_nil]); first | done | rfl | (simp only [List.length_drop, List.length_take]; rfl)) ?_; (with_reducible refine (falseworklaw18_num.calls t213 t238 _ A38.out).mono ?_); rintro e w' ⟨rfl, ⟨nd, rfl⟩⟩; refine ⟨_, rfl, ?_⟩))
          go_meet
          case rel => exact ⟨_, (true), (by first | rfl | (simp; done) | (simp [*]; done)), H', ⟨by have := HJ4.out; first | omega | exact Nat.le_refl _⟩, ⟨by repeat (first | (with_reducible first | exact HB.out | apply zA | apply zN | apply zD) | exact HB.out)⟩⟩
        case rest =>
         clear HC23
         try clear c1
         try clear c2
         try clear p2
         try clear c3
         try clear c5
         try clear c7
         try clear c8
         try clear c9
         try clear c12
         try clear c13
         try clear c17
         try clear c18
         try clear c19
         try clear c20
         try clear c39
         try clear c39b0
         try clear c39b1
         try clear p2
         obtain ⟨kq, x78_22, rfl, HA, HJ22, HB⟩ := hcut
         cases kq with
         | zero => exact absurd HA.out (by simp [falseworklaw18_PredAnds.j1])
         | succ kj22 =>
          have H := HA.out
          clear HA
          simp only [falseworklaw18_PredAnds.j1] at H
          by_cases c41 : x78_22 = true
          ·subst c41
           have H1 : ((falseworklaw18_num.f t235).bind fun t240 => (if t240 = 0 then (some false) else ((falseworklaw18_num.f t237).bind fun t241 => (if t241 = 0 then (some false) else ((falseworklaw18_awake.f kj22).bind fun t242 => (some t242)))))) = some r := by rw [if_pos rfl] at H; exact H
           clear H
           have H := H1
           clear H1
           replace H := Option.bind_eq_some_iff.mp H
           obtain ⟨t240, A420, H⟩ := H
           replace H : (if t240 = 0 then (some false) else ((falseworklaw18_num.f t237).bind fun t241 => (if t241 = 0 then (some false) else ((falseworklaw18_awake.f kj22).bind fun t242 => (some t242))))) = some r := H
           have A42 := Aside0.mk A420
           clear A420
           by_cases c43 : t240 = 0
           ·rw [if_pos c43] at H
            have c43b0 : (t240 == 0) = true := beq_iff_eq.mpr c43
            have c43b1 : (t240 != 0) = false := bne_eq_false_iff_eq.mpr c43
            clear c43
            obtain rfl := Option.some.inj H
            go_wp2_with (first | ((with_reducible refine gate_callee (f := 9) rfl ?_); refine goesL_ (some 80) rfl rfl Try.func9 (by kernel_rfl) rfl #[.int .i64 t235] rfl (by (try simp only [List.map_toArray, List.map_cons, List.map_nil]); first | done | rfl | (simp only [List.length_drop, List.length_take]; rfl)) ?_; (with_reducible refine (falseworklaw18_num.calls t235 t240 _ A42.out).mono ?_); rintro e w' ⟨rfl, ⟨nd, rfl⟩⟩; refine ⟨_, rfl, ?_⟩))
            go_ret
            exact ⟨by first | rfl | (simp [errW_none, errW_some] <;> rfl) | (simp [*, errW_none, errW_some] <;> rfl), by repeat (first | (with_reducible first | exact HB.out | apply zA | apply zN | apply zD) | exact HB.out)⟩
           ·rw [if_neg c43] at H
            have c43b0 : (t240 == 0) = false := beq_eq_false_iff_ne.mpr c43
            have c43b1 : (t240 != 0) = true := bne_iff_ne.mpr c43
            replace H := Option.bind_eq_some_iff.mp H
            obtain ⟨t241, A440, H⟩ := H
            replace H : (if t241 = 0 then (some false) else ((falseworklaw18_awake.f kj22).bind fun t242 => (some t242))) = some r := H
            have A44 := Aside0.mk A440
            clear A440
            by_cases c45 : t241 = 0
            ·rw [if_pos c45] at H
             have c45b0 : (t241 == 0) = true := beq_iff_eq.mpr c45
             have c45b1 : (t241 != 0) = false := bne_eq_false_iff_eq.mpr c45
             clear c45
             obtain rfl := Option.some.inj H
             go_wp2_with (first | ((with_reducible refine gate_callee (f := 9) rfl ?_); refine goesL_ (some 80) rfl rfl Try.func9 (by kernel_rfl) rfl #[.int .i64 t235] rfl (by (try simp only [List.map_toArray, List.map_cons, List.map_nil]); first | done | rfl | (simp only [List.length_drop, List.length_take]; rfl)) ?_; (with_reducible refine (falseworklaw18_num.calls t235 t240 _ A42.out).mono ?_); rintro e w' ⟨rfl, ⟨nd, rfl⟩⟩; refine ⟨_, rfl, ?_⟩) | (go_at_call 9; (with_reducible refine (falseworklaw18_num.calls t237 t241 _ A44.out).mono ?_); rintro e w' ⟨rfl, ⟨nd, rfl⟩⟩))
             go_ret
             exact ⟨by first | rfl | (simp [errW_none, errW_some] <;> rfl) | (simp [*, errW_none, errW_some] <;> rfl), by repeat (first | (with_reducible first | exact HB.out | apply zA | apply zN | apply zD) | exact HB.out)⟩
            ·rw [if_neg c45] at H
             have c45b0 : (t241 == 0) = false := beq_eq_false_iff_ne.mpr c45
             have c45b1 : (t241 != 0) = true := bne_iff_ne.mpr c45
             replace H := Option.bind_eq_some_iff.mp H
             obtain ⟨t242, A460, H⟩ := H
             replace H : (some t242) = some r := H
             have A46 := Aside0.mk A460
             clear A460
             obtain rfl := Option.some.inj H
             go_wp2_with (first | ((with_reducible refine gate_callee (f := 9) rfl ?_); refine goesL_ (some 80) rfl rfl Try.func9 (by kernel_rfl) rfl #[.int .i64 t235] rfl (by (try simp only [List.map_toArray, List.map_cons, List.map_nil]); first | done | rfl | (simp only [List.length_drop, List.length_take]; rfl)) ?_; (with_reducible refine (falseworklaw18_num.calls t235 t240 _ A42.out).mono ?_); rintro e w' ⟨rfl, ⟨nd, rfl⟩⟩; refine ⟨_, rfl, ?_⟩) | (go_at_call 9; (with_reducible refine (falseworklaw18_num.calls t237 t241 _ A44.out).mono ?_); rintro e w' ⟨rfl, ⟨nd, rfl⟩⟩) | (go_at_call 12; (with_reducible refine (falseworklaw18_awake.calls kj22  t242 _ A46.out).mono ?_); rintro e w47 ⟨rfl, hb⟩; have n0_ := Aside0.mk (zS (by repeat (first | (with_reducible first | exact HB.out | apply zA | apply zN | apply zD) | exact HB.out)) hb); clear HB; have HB := n0_; clear n0_; (try clear hb); (try clear hb2); (try clear hk); (try clear hi)))
             go_ret
             exact ⟨by first | rfl | (simp [errW_none, errW_some] <;> rfl) | (simp [*, errW_none, errW_some] <;> rfl), by repeat (first | (with_reducible first | exact HB.out | apply zA | apply zN | apply zD) | exact HB.out)⟩
          ·replace c41 := Bool.eq_false_iff.mpr c41
           subst c41
           have H1 : (if t212 < 0 then (falseworklaw18_PredAnds.j2 kj22 t212 t214 t234 t235 t236 t237 1 true) else (falseworklaw18_PredAnds.j2 kj22 t212 t214 t234 t235 t236 t237 1 (decide (t214 < 0)))) = some r := by rw [if_neg (show ¬ (false = true) by decide)] at H; exact H
           clear H
           have H := H1
           clear H1
           have HC48 := Aside0.mk H
           clear H
           go_upto_region 14 with (fail)
           go_cut [95] (fun v95 wc => ∃ (kq : Nat) (x95_47 : Bool), v95 = .bool x95_47 ∧ Aside0 (falseworklaw18_PredAnds.j2 kq t212 t214 t234 t235 t236 t237 1 x95_47 = some r) ∧ Aside0 (kq ≤ kj22) ∧ Aside0 (Below w.heap.size w wc))
           case first =>
            have H := HC48.out
            clear HC48
            by_cases c49 : t212 < 0
            ·rw [if_pos c49] at H
             have c49b0 : decide (t212 < 0) = true := decide_eq_true c49
             clear c49
             (first | rw [c49b0] | (simp only [i64_w, i32_w]; rw [c49b0]) | skip)
             have H' := Aside0.mk H
             clear H
             go_wp2
             go_meet
             case rel => exact ⟨_, (true), (by first | rfl | (simp; done) | (simp [*]; done)), H', ⟨by have := HJ4.out; have := HJ22.out; first | omega | exact Nat.le_refl _⟩, ⟨by repeat (first | (with_reducible first | exact HB.out | apply zA | apply zN | apply zD) | exact HB.out)⟩⟩
            ·rw [if_neg c49] at H
             have c49b0 : decide (t212 < 0) = false := decide_eq_false c49
             clear c49
             (first | rw [c49b0] | (simp only [i64_w, i32_w]; rw [c49b0]) | skip)
             have H' := Aside0.mk H
             clear H
             go_wp2
             go_meet
             case rel => exact ⟨_, (decide (t214 < 0)), (by first | rfl | (simp; done) | (simp [*]; done)), H', ⟨by have := HJ4.out; have := HJ22.out; first | omega | exact Nat.le_refl _⟩, ⟨by repeat (first | (with_reducible first | exact HB.out | apply zA | apply zN | apply zD) | exact HB.out)⟩⟩
           case rest =>
            clear HC48
            try clear c1
            try clear c2
            try clear p2
            try clear c3
            try clear c4
            try clear c5
            try clear c7
            try clear c8
            try clear c9
            try clear c12
            try clear c13
            try clear c17
            try clear c18
            try clear c19
            try clear c20
            try clear c39
            try clear c39b0
            try clear c39b1
            try clear c41
            try clear c43
            try clear c43b0
            try clear c43b1
            try clear c45
            try clear c45b0
            try clear c45b1
            try clear c49
            try clear c49b0
            try clear p2
            obtain ⟨kq, x95_47, rfl, HA, HJ47, HB⟩ := hcut
            cases kq with
            | zero => exact absurd HA.out (by simp [falseworklaw18_PredAnds.j2])
            | succ kj47 =>
             have H := HA.out
             clear HA
             simp only [falseworklaw18_PredAnds.j2] at H
             have HC50 := Aside0.mk H
             clear H
             go_upto_if 95 with (fail)
             go_cut [19] (fun v19 wc => ∃ (kq : Nat) (x19_49 : Int), v19 = .int .i64 x19_49 ∧ Aside0 (falseworklaw18_PredAnds.j3 kq t212 t214 t234 t235 t236 t237 x19_49 = some r) ∧ Aside0 (kq ≤ kj47) ∧ Aside0 (Below w.heap.size w wc))
             case first =>
              have H := HC50.out
              clear HC50
              by_cases c51 : x95_47 = true
              ·subst c51
               have H1 : (falseworklaw18_PredAnds.j3 kj47 t212 t214 t234 t235 t236 t237 (-1)) = some r := by rw [if_pos rfl] at H; exact H
               clear H
               have H := H1
               clear H1
               have H' := Aside0.mk H
               clear H
               go_wp2
               go_meet
               case rel => exact ⟨_, ((-1)), (by first | rfl | (simp; done) | (simp [*]; done)), H', ⟨by have := HJ4.out; have := HJ22.out; have := HJ47.out; first | omega | exact Nat.le_refl _⟩, ⟨by repeat (first | (with_reducible first | exact HB.out | apply zA | apply zN | apply zD) | exact HB.out)⟩⟩
              ·replace c51 := Bool.eq_false_iff.mpr c51
               subst c51
               have H1 : (falseworklaw18_PredAnds.j3 kj47 t212 t214 t234 t235 t236 t237 1) = some r := by rw [if_neg (show ¬ (false = true) by decide)] at H; exact H
               clear H
               have H := H1
               clear H1
               have H' := Aside0.mk H
               clear H
               go_wp2
               go_meet
               case rel => exact ⟨_, (1), (by first | rfl | (simp; done) | (simp [*]; done)), H', ⟨by have := HJ4.out; have := HJ22.out; have := HJ47.out; first | omega | exact Nat.le_refl _⟩, ⟨by repeat (first | (with_reducible first | exact HB.out | apply zA | apply zN | apply zD) | exact HB.out)⟩⟩
             case rest =>
              clear HC50
              try clear c1
              try clear c2
              try clear p2
              try clear c3
              try clear c4
              try clear c5
              try clear c7
              try clear c8
              try clear c9
              try clear c12
              try clear c13
              try clear c17
              try clear c18
              try clear c19
              try clear c20
              try clear c39
              try clear c39b0
              try clear c39b1
              try clear c41
              try clear c43
              try clear c43b0
              try clear c43b1
              try clear c45
              try clear c45b0
              try clear c45b1
              try clear c49
              try clear c49b0
              try clear c51
              try clear p2
              obtain ⟨kq, x19_49, rfl, HA, HJ49, HB⟩ := hcut
              cases kq with
              | zero => exact absurd HA.out (by simp [falseworklaw18_PredAnds.j3])
              | succ kj49 =>
               have H := HA.out
               clear HA
               simp only [falseworklaw18_PredAnds.j3] at H
               have HC52 := Aside0.mk H
               clear H
               go_upto_region 16 with (fail)
               go_cut [101] (fun v101 wc => ∃ (kq : Nat) (x101_51 : Bool), v101 = .bool x101_51 ∧ Aside0 (falseworklaw18_PredAnds.j4 kq t234 t235 t236 t237 x19_49 x101_51 = some r) ∧ Aside0 (kq ≤ kj49) ∧ Aside0 (Below w.heap.size w wc))
               case first =>
                have H := HC52.out
                clear HC52
                by_cases c53 : t212 = 0
                ·rw [if_pos c53] at H
                 have c53b0 : (t212 == 0) = true := beq_iff_eq.mpr c53
                 have c53b1 : (t212 != 0) = false := bne_eq_false_iff_eq.mpr c53
                 clear c53
                 (first | rw [c53b0] | (simp only [i64_w, i32_w]; rw [c53b0]) | skip)
                 have H' := Aside0.mk H
                 clear H
                 go_wp2
                 go_meet
                 case rel => exact ⟨_, (true), (by first | rfl | (simp; done) | (simp [*]; done)), H', ⟨by have := HJ4.out; have := HJ22.out; have := HJ47.out; have := HJ49.out; first | omega | exact Nat.le_refl _⟩, ⟨by repeat (first | (with_reducible first | exact HB.out | apply zA | apply zN | apply zD) | exact HB.out)⟩⟩
                ·rw [if_neg c53] at H
                 have c53b0 : (t212 == 0) = false := beq_eq_false_iff_ne.mpr c53
                 have c53b1 : (t212 != 0) = true := bne_iff_ne.mpr c53
                 (first | rw [c53b0] | (simp only [i64_w, i32_w]; rw [c53b0]) | skip)
                 have H' := Aside0.mk H
                 clear H
                 go_wp2
                 go_meet
                 case rel => exact ⟨_, ((t214 == 0)), (by first | rfl | (simp; done) | (simp [*]; done)), H', ⟨by have := HJ4.out; have := HJ22.out; have := HJ47.out; have := HJ49.out; first | omega | exact Nat.le_refl _⟩, ⟨by repeat (first | (with_reducible first | exact HB.out | apply zA | apply zN | apply zD) | exact HB.out)⟩⟩
               case rest =>
                clear HC52
                try clear c1
                try clear c2
                try clear p2
                try clear c3
                try clear c4
                try clear c5
                try clear c7
                try clear c8
                try clear c9
                try clear c12
                try clear c13
                try clear c17
                try clear c18
                try clear c19
                try clear c20
                try clear c39
                try clear c39b0
                try clear c39b1
                try clear c41
                try clear c43
                try clear c43b0
                try clear c43b1
                try clear c45
                try clear c45b0
                try clear c45b1
                try clear c49
                try clear c49b0
                try clear c51
                try clear c53
                try clear c53b0
                try clear c53b1
                try clear p2
                obtain ⟨kq, x101_51, rfl, HA, HJ51, HB⟩ := hcut
                cases kq with
                | zero => exact absurd HA.out (by simp [falseworklaw18_PredAnds.j4])
                | succ kj51 =>
                 have H := HA.out
                 clear HA
                 simp only [falseworklaw18_PredAnds.j4] at H
                 by_cases c54 : x101_51 = true
                 ·subst c54
                  have H1 : (if t234 = 0 then (if t236 = 0 then ((falseworklaw18_num.f t235).bind fun t243 => (if t243 = 0 then ((falseworklaw18_num.f t237).bind fun t244 => (if t244 = 0 then ((falseworklaw18_awake.f kj51).bind fun t245 => (some t245)) else (some false))) else (some false))) else (some false)) else (some false)) = some r := by rw [if_pos rfl] at H; exact H
                  clear H
                  have H := H1
                  clear H1
                  by_cases c55 : t234 = 0
                  ·rw [if_pos c55] at H
                   have c55b0 : (t234 == 0) = true := beq_iff_eq.mpr c55
                   have c55b1 : (t234 != 0) = false := bne_eq_false_iff_eq.mpr c55
                   clear c55
                   by_cases c56 : t236 = 0
                   ·rw [if_pos c56] at H
                    have c56b0 : (t236 == 0) = true := beq_iff_eq.mpr c56
                    have c56b1 : (t236 != 0) = false := bne_eq_false_iff_eq.mpr c56
                    clear c56
                    replace H := Option.bind_eq_some_iff.mp H
                    obtain ⟨t243, A570, H⟩ := H
                    replace H : (if t243 = 0 then ((falseworklaw18_num.f t237).bind fun t244 => (if t244 = 0 then ((falseworklaw18_awake.f kj51).bind fun t245 => (some t245)) else (some false))) else (some false)) = some r := H
                    have A57 := Aside0.mk A570
                    clear A570
                    by_cases c58 : t243 = 0
                    ·rw [if_pos c58] at H
                     have c58b0 : (t243 == 0) = true := beq_iff_eq.mpr c58
                     have c58b1 : (t243 != 0) = false := bne_eq_false_iff_eq.mpr c58
                     clear c58
                     replace H := Option.bind_eq_some_iff.mp H
                     obtain ⟨t244, A590, H⟩ := H
                     replace H : (if t244 = 0 then ((falseworklaw18_awake.f kj51).bind fun t245 => (some t245)) else (some false)) = some r := H
                     have A59 := Aside0.mk A590
                     clear A590
                     by_cases c60 : t244 = 0
                     ·rw [if_pos c60] at H
                      have c60b0 : (t244 == 0) = true := beq_iff_eq.mpr c60
                      have c60b1 : (t244 != 0) = false := bne_eq_false_iff_eq.mpr c60
                      clear c60
                      replace H := Option.bind_eq_some_iff.mp H
                      obtain ⟨t245, A610, H⟩ := H
                      replace H : (some t245) = some r := H
                      have A61 := Aside0.mk A610
                      clear A610
                      obtain rfl := Option.some.inj H
                      go_wp2_with (first | (go_at_call 9; (with_reducible refine (falseworklaw18_num.calls t235 t243 _ A57.out).mono ?_); rintro e w' ⟨rfl, ⟨nd, rfl⟩⟩) | (go_at_call 9; (with_reducible refine (falseworklaw18_num.calls t237 t244 _ A59.out).mono ?_); rintro e w' ⟨rfl, ⟨nd, rfl⟩⟩) | (go_at_call 12; (with_reducible refine (falseworklaw18_awake.calls kj51  t245 _ A61.out).mono ?_); rintro e w62 ⟨rfl, hb⟩; have n0_ := Aside0.mk (zS (by repeat (first | (with_reducible first | exact HB.out | apply zA | apply zN | apply zD) | exact HB.out)) hb); clear HB; have HB := n0_; clear n0_; (try clear hb); (try clear hb2); (try clear hk); (try clear hi)))
                      go_ret
                      exact ⟨by first | rfl | (simp [errW_none, errW_some] <;> rfl) | (simp [*, errW_none, errW_some] <;> rfl), by repeat (first | (with_reducible first | exact HB.out | apply zA | apply zN | apply zD) | exact HB.out)⟩
                     ·rw [if_neg c60] at H
                      have c60b0 : (t244 == 0) = false := beq_eq_false_iff_ne.mpr c60
                      have c60b1 : (t244 != 0) = true := bne_iff_ne.mpr c60
                      obtain rfl := Option.some.inj H
                      go_wp2_with (first | (go_at_call 9; (with_reducible refine (falseworklaw18_num.calls t235 t243 _ A57.out).mono ?_); rintro e w' ⟨rfl, ⟨nd, rfl⟩⟩) | (go_at_call 9; (with_reducible refine (falseworklaw18_num.calls t237 t244 _ A59.out).mono ?_); rintro e w' ⟨rfl, ⟨nd, rfl⟩⟩))
                      go_ret
                      exact ⟨by first | rfl | (simp [errW_none, errW_some] <;> rfl) | (simp [*, errW_none, errW_some] <;> rfl), by repeat (first | (with_reducible first | exact HB.out | apply zA | apply zN | apply zD) | exact HB.out)⟩
                    ·rw [if_neg c58] at H
                     have c58b0 : (t243 == 0) = false := beq_eq_false_iff_ne.mpr c58
                     have c58b1 : (t243 != 0) = true := bne_iff_ne.mpr c58
                     obtain rfl := Option.some.inj H
                     go_wp2_with (first | (go_at_call 9; (with_reducible refine (falseworklaw18_num.calls t235 t243 _ A57.out).mono ?_); rintro e w' ⟨rfl, ⟨nd, rfl⟩⟩))
                     go_ret
                     exact ⟨by first | rfl | (simp [errW_none, errW_some] <;> rfl) | (simp [*, errW_none, errW_some] <;> rfl), by repeat (first | (with_reducible first | exact HB.out | apply zA | apply zN | apply zD) | exact HB.out)⟩
                   ·rw [if_neg c56] at H
                    have c56b0 : (t236 == 0) = false := beq_eq_false_iff_ne.mpr c56
                    have c56b1 : (t236 != 0) = true := bne_iff_ne.mpr c56
                    obtain rfl := Option.some.inj H
                    go_wp2
                    go_ret
                    exact ⟨by first | rfl | (simp [errW_none, errW_some] <;> rfl) | (simp [*, errW_none, errW_some] <;> rfl), by repeat (first | (with_reducible first | exact HB.out | apply zA | apply zN | apply zD) | exact HB.out)⟩
                  ·rw [if_neg c55] at H
                   have c55b0 : (t234 == 0) = false := beq_eq_false_iff_ne.mpr c55
                   have c55b1 : (t234 != 0) = true := bne_iff_ne.mpr c55
                   obtain rfl := Option.some.inj H
                   go_wp2
                   go_ret
                   exact ⟨by first | rfl | (simp [errW_none, errW_some] <;> rfl) | (simp [*, errW_none, errW_some] <;> rfl), by repeat (first | (with_reducible first | exact HB.out | apply zA | apply zN | apply zD) | exact HB.out)⟩
                 ·replace c54 := Bool.eq_false_iff.mpr c54
                  subst c54
                  have H1 : (if t234 = x19_49 then (if t236 = x19_49 then ((falseworklaw18_num.f t235).bind fun t246 => (if t246 = 0 then ((falseworklaw18_num.f t237).bind fun t247 => (if t247 = 0 then ((falseworklaw18_awake.f kj51).bind fun t248 => (some t248)) else (some false))) else (some false))) else (some false)) else (some false)) = some r := by rw [if_neg (show ¬ (false = true) by decide)] at H; exact H
                  clear H
                  have H := H1
                  clear H1
                  by_cases c63 : t234 = x19_49
                  ·rw [if_pos c63] at H
                   have c63b0 : (t234 == x19_49) = true := beq_iff_eq.mpr c63
                   have c63b1 : (t234 != x19_49) = false := bne_eq_false_iff_eq.mpr c63
                   clear c63
                   by_cases c64 : t236 = x19_49
                   ·rw [if_pos c64] at H
                    have c64b0 : (t236 == x19_49) = true := beq_iff_eq.mpr c64
                    have c64b1 : (t236 != x19_49) = false := bne_eq_false_iff_eq.mpr c64
                    clear c64
                    replace H := Option.bind_eq_some_iff.mp H
                    obtain ⟨t246, A650, H⟩ := H
                    replace H : (if t246 = 0 then ((falseworklaw18_num.f t237).bind fun t247 => (if t247 = 0 then ((falseworklaw18_awake.f kj51).bind fun t248 => (some t248)) else (some false))) else (some false)) = some r := H
                    have A65 := Aside0.mk A650
                    clear A650
                    by_cases c66 : t246 = 0
                    ·rw [if_pos c66] at H
                     have c66b0 : (t246 == 0) = true := beq_iff_eq.mpr c66
                     have c66b1 : (t246 != 0) = false := bne_eq_false_iff_eq.mpr c66
                     clear c66
                     replace H := Option.bind_eq_some_iff.mp H
                     obtain ⟨t247, A670, H⟩ := H
                     replace H : (if t247 = 0 then ((falseworklaw18_awake.f kj51).bind fun t248 => (some t248)) else (some false)) = some r := H
                     have A67 := Aside0.mk A670
                     clear A670
                     by_cases c68 : t247 = 0
                     ·rw [if_pos c68] at H
                      have c68b0 : (t247 == 0) = true := beq_iff_eq.mpr c68
                      have c68b1 : (t247 != 0) = false := bne_eq_false_iff_eq.mpr c68
                      clear c68
                      replace H := Option.bind_eq_some_iff.mp H
                      obtain ⟨t248, A690, H⟩ := H
                      replace H : (some t248) = some r := H
                      have A69 := Aside0.mk A690
                      clear A690
                      obtain rfl := Option.some.inj H
                      go_wp2_with (first | (go_at_call 9; (with_reducible refine (falseworklaw18_num.calls t235 t246 _ A65.out).mono ?_); rintro e w' ⟨rfl, ⟨nd, rfl⟩⟩) | (go_at_call 9; (with_reducible refine (falseworklaw18_num.calls t237 t247 _ A67.out).mono ?_); rintro e w' ⟨rfl, ⟨nd, rfl⟩⟩) | (go_at_call 12; (with_reducible refine (falseworklaw18_awake.calls kj51  t248 _ A69.out).mono ?_); rintro e w70 ⟨rfl, hb⟩; have n0_ := Aside0.mk (zS (by repeat (first | (with_reducible first | exact HB.out | apply zA | apply zN | apply zD) | exact HB.out)) hb); clear HB; have HB := n0_; clear n0_; (try clear hb); (try clear hb2); (try clear hk); (try clear hi)))
                      go_ret
                      exact ⟨by first | rfl | (simp [errW_none, errW_some] <;> rfl) | (simp [*, errW_none, errW_some] <;> rfl), by repeat (first | (with_reducible first | exact HB.out | apply zA | apply zN | apply zD) | exact HB.out)⟩
                     ·rw [if_neg c68] at H
                      have c68b0 : (t247 == 0) = false := beq_eq_false_iff_ne.mpr c68
                      have c68b1 : (t247 != 0) = true := bne_iff_ne.mpr c68
                      obtain rfl := Option.some.inj H
                      go_wp2_with (first | (go_at_call 9; (with_reducible refine (falseworklaw18_num.calls t235 t246 _ A65.out).mono ?_); rintro e w' ⟨rfl, ⟨nd, rfl⟩⟩) | (go_at_call 9; (with_reducible refine (falseworklaw18_num.calls t237 t247 _ A67.out).mono ?_); rintro e w' ⟨rfl, ⟨nd, rfl⟩⟩))
                      go_ret
                      exact ⟨by first | rfl | (simp [errW_none, errW_some] <;> rfl) | (simp [*, errW_none, errW_some] <;> rfl), by repeat (first | (with_reducible first | exact HB.out | apply zA | apply zN | apply zD) | exact HB.out)⟩
                    ·rw [if_neg c66] at H
                     have c66b0 : (t246 == 0) = false := beq_eq_false_iff_ne.mpr c66
                     have c66b1 : (t246 != 0) = true := bne_iff_ne.mpr c66
                     obtain rfl := Option.some.inj H
                     go_wp2_with (first | (go_at_call 9; (with_reducible refine (falseworklaw18_num.calls t235 t246 _ A65.out).mono ?_); rintro e w' ⟨rfl, ⟨nd, rfl⟩⟩))
                     go_ret
                     exact ⟨by first | rfl | (simp [errW_none, errW_some] <;> rfl) | (simp [*, errW_none, errW_some] <;> rfl), by repeat (first | (with_reducible first | exact HB.out | apply zA | apply zN | apply zD) | exact HB.out)⟩
                   ·rw [if_neg c64] at H
                    have c64b0 : (t236 == x19_49) = false := beq_eq_false_iff_ne.mpr c64
                    have c64b1 : (t236 != x19_49) = true := bne_iff_ne.mpr c64
                    obtain rfl := Option.some.inj H
                    go_wp2
                    go_ret
                    exact ⟨by first | rfl | (simp [errW_none, errW_some] <;> rfl) | (simp [*, errW_none, errW_some] <;> rfl), by repeat (first | (with_reducible first | exact HB.out | apply zA | apply zN | apply zD) | exact HB.out)⟩
                  ·rw [if_neg c63] at H
                   have c63b0 : (t234 == x19_49) = false := beq_eq_false_iff_ne.mpr c63
                   have c63b1 : (t234 != x19_49) = true := bne_iff_ne.mpr c63
                   obtain rfl := Option.some.inj H
                   go_wp2
                   go_ret
                   exact ⟨by first | rfl | (simp [errW_none, errW_some] <;> rfl) | (simp [*, errW_none, errW_some] <;> rfl), by repeat (first | (with_reducible first | exact HB.out | apply zA | apply zN | apply zD) | exact HB.out)⟩
       ·rw [if_neg c20] at H
        exact absurd H (by simp)
      ·rw [if_neg c19] at H
       exact absurd H (by simp)
     ·rw [if_neg c18] at H
      exact absurd H (by simp)
    ·rw [if_neg c17] at H
     exact absurd H (by simp)

end Go.Proofs.Ytcjnmnelhpjhfaa.PA
