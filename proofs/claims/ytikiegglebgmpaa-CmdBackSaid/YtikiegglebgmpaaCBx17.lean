/- Contracts of the Go functions of this seat: what each call returns is what a Lean function of its arguments says; each theorem bears its own conditions. Written by a program of this session (wip/tools/mkprint.py). -/
import Derived.Test.YtikiegglebgmpaaCBx0
import Derived.Test.YtikiegglebgmpaaCBx4
import Derived.Test.YtikiegglebgmpaaCBx10
import Derived.Test.YtikiegglebgmpaaCBx11
import Derived.Test.YtikiegglebgmpaaCBx12
import Derived.Test.YtikiegglebgmpaaCBx16
-- squeezed
namespace Go.Proofs.Ytikiegglebgmpaa.PA
open Go.RowKit Go.Proofs.YtikiegglebgmpaaW.PrintWords Go.Proofs.YtikiegglebgmpaaW.PrintLast Go.Proofs.YtikiegglebgmpaaW.PrintMore
attribute [local go_sem] max2_int min2_int max_two min_two max_three min_three max_four min_four   -- for this text's walks alone
set_option linter.unusedVariables false
set_option linter.unusedSimpArgs false

attribute [local go_sem ↓ high] unary_xor_u32 ux_if_u32
attribute [local go_sem] str_gtr str_leq str_geq
/-! ### falseworklaw13_CmdBack: function 6 -/
def falseworklaw13_CmdBack.f (k : Nat) (a0_0 a0_1 a0_2 a0_3 : Int) (l0_4 : List ByteArray) (l0_5 : List (S50)) (l0_6 : List (S41)) (a0_7 a0_8 a0_9 : Int) (a0_10 : ByteArray) (a0_11 : Int) (l0_12 : List (List (S45))) : Option Bool :=
 (falseworklaw13_Great.f k a0_0 a0_1 a0_2 a0_3 l0_4 l0_5 l0_6 a0_7 a0_8 a0_9 a0_10 a0_11 l0_12).bind fun g => if g = true then falseworklaw13_awake.f k else (cmd_Put.f k a0_0 a0_1 a0_2 a0_3 l0_4 l0_5 l0_6 a0_7 a0_8 a0_9 a0_10 a0_11 l0_12).bind fun p => if p.2 = 0 then ((cmd_Get.f k p.1).bind fun q => if q.2 = 0 then ((falseworkref6_SameCmd.f k a0_0 a0_1 a0_2 a0_3 l0_4 l0_5 l0_6 a0_7 a0_8 a0_9 a0_10 a0_11 l0_12 q.1.a0 q.1.a1 q.1.a2 q.1.a3 q.1.l4 q.1.l5 q.1.l6 q.1.a7 q.1.a8 q.1.a9 q.1.a10 q.1.a11 q.1.l12).bind fun b => if b = true then falseworklaw13_awake.f k else none) else none) else if p.1.toList = [] then falseworklaw13_awake.f k else none
theorem falseworklaw13_CmdBack.oth13 {W : World} {g k t : Nat} {cells : Array Value} (h : W.heap[k]? = some (.cells cells t (0, 0))) (hne : k ≠ g) (b0 b1 b2 b3 b4 b5 b6 b7 b8 b9 b10 b11 b12 : Value) : (((((((((((((W.setCell ⟨g, 0, none⟩ b0).setCell ⟨g, 1, none⟩ b1).setCell ⟨g, 2, none⟩ b2).setCell ⟨g, 3, none⟩ b3).setCell ⟨g, 4, none⟩ b4).setCell ⟨g, 5, none⟩ b5).setCell ⟨g, 6, none⟩ b6).setCell ⟨g, 7, none⟩ b7).setCell ⟨g, 8, none⟩ b8).setCell ⟨g, 9, none⟩ b9).setCell ⟨g, 10, none⟩ b10).setCell ⟨g, 11, none⟩ b11).setCell ⟨g, 12, none⟩ b12).heap[k]? = some (.cells cells t (0, 0)) := by
 replace h := blk_far (p := ⟨g, 0, none⟩) h hne b0
 replace h := blk_far (p := ⟨g, 1, none⟩) h hne b1
 replace h := blk_far (p := ⟨g, 2, none⟩) h hne b2
 replace h := blk_far (p := ⟨g, 3, none⟩) h hne b3
 replace h := blk_far (p := ⟨g, 4, none⟩) h hne b4
 replace h := blk_far (p := ⟨g, 5, none⟩) h hne b5
 replace h := blk_far (p := ⟨g, 6, none⟩) h hne b6
 replace h := blk_far (p := ⟨g, 7, none⟩) h hne b7
 replace h := blk_far (p := ⟨g, 8, none⟩) h hne b8
 replace h := blk_far (p := ⟨g, 9, none⟩) h hne b9
 replace h := blk_far (p := ⟨g, 10, none⟩) h hne b10
 replace h := blk_far (p := ⟨g, 11, none⟩) h hne b11
 replace h := blk_far (p := ⟨g, 12, none⟩) h hne b12
 exact h
theorem falseworklaw13_CmdBack.own_arr {base e size n : Nat} {W : World} {v : Value} {inner : List Value} (h : W.ownsRow base e size v n inner) (hn : 0 < n) : ∃ g cap arr, v = .slice (some ⟨g, 0, none⟩) n cap ∧ base ≤ g ∧ W.heap[g]? = some (.cells arr e (0, 0)) ∧ n * size ≤ arr.size ∧ arr.toList.take (n * size) = inner := by
 obtain ⟨h1, h2⟩ := h
 rcases h2 with ⟨h2a, h2b⟩ | ⟨g, cap, cur, rfl, hbg, hg, hnc, hcm, hcs, ht⟩
 ·exact absurd h2b (by omega)
 ·exact ⟨g, cap, cur, rfl, hbg, hg, by rw [hcs]; exact Nat.mul_le_mul_right _ hnc, ht⟩
theorem falseworklaw13_CmdBack.set_arr {W : World} {g t : Nat} {arr : Array Value} (h : W.heap[g]? = some (.cells arr t (0, 0))) (g' j : Nat) (v : Value) : ∃ arr', (W.setCell ⟨g', j, none⟩ v).heap[g]? = some (.cells arr' t (0, 0)) ∧ arr'.size = arr.size := by
 by_cases e : g = g'
 ·subst e
  exact ⟨_, blk_set h j v, by simp⟩
 ·exact ⟨arr, blk_far (p := ⟨g', j, none⟩) h e v, rfl⟩
/-- Rows that are there, whatever they hold. -/
def falseworklaw13_CmdBack.SV (b0 : Nat) (W : World) (A' : Option Addr) (m : Nat) : Prop := 0 < m → ∃ g arr, A' = some ⟨g, 0, none⟩ ∧ b0 ≤ g ∧ W.heap[g]? = some (.cells arr 45 (0, 0)) ∧ 4 * m ≤ arr.size
def falseworklaw13_CmdBack.S6 (b0 : Nat) (W : World) (g n : Nat) : Prop := b0 ≤ g ∧ ∃ arr, W.heap[g]? = some (.cells arr 41 (0, 0)) ∧ 3 * n ≤ arr.size
def falseworklaw13_CmdBack.H12 (b0 : Nat) (W : World) (g : Nat) (arr : Array Value) (n : Nat) : Prop := b0 ≤ g ∧ W.heap[g]? = some (.cells arr 42 (0, 0)) ∧ ∀ i, i < n → ∃ A' m c, arr[i]? = some (.slice A' m c) ∧ m ≤ 9223372036854775807 ∧ falseworklaw13_CmdBack.SV b0 W A' m
theorem falseworklaw13_CmdBack.SV_of {W : World} {base : Nat} {ok : Nat → Prop} {A' : Option Addr} {m c : Nat} {l : List S45} (h : k45.R 45 W base ok (.slice A' m c) l) : falseworklaw13_CmdBack.SV base W A' m := by
 intro hm
 obtain ⟨hml, -, -⟩ := Kd.R_reads' h
 obtain ⟨_, inner, hown, _⟩ := h
 obtain ⟨g, cap, arr, e, hb, hh, hs, -⟩ := falseworklaw13_CmdBack.own_arr hown (by omega)
 injection e with e1 e2 e3
 exact ⟨g, arr, e1, hb, hh, by rw [hml, Nat.mul_comm]; exact hs⟩
theorem falseworklaw13_CmdBack.S6_of {W : World} {base : Nat} {ok : Nat → Prop} {A' : Option Addr} {c : Nat} {l : List S41} (h : k41.R 41 W base ok (.slice A' l.length c) l) : ∃ g, 0 < l.length → A' = some ⟨g, 0, none⟩ ∧ falseworklaw13_CmdBack.S6 base W g l.length := by
 by_cases hm : 0 < l.length
 ·obtain ⟨_, inner, hown, _⟩ := h
  obtain ⟨g, cap, arr, e, hb, hh, hs, -⟩ := falseworklaw13_CmdBack.own_arr hown hm
  injection e with e1 e2 e3
  exact ⟨g, fun _ => ⟨e1, hb, arr, hh, by rw [Nat.mul_comm]; exact hs⟩⟩
 ·exact ⟨0, fun h => absurd h hm⟩
theorem falseworklaw13_CmdBack.H12_of {W : World} {base : Nat} {ok : Nat → Prop} {A' : Option Addr} {c : Nat} {l : List (List S45)} (h : (Kd.slice 45 k45).R 42 W base ok (.slice A' l.length c) l) : ∃ g arr, 0 < l.length → A' = some ⟨g, 0, none⟩ ∧ falseworklaw13_CmdBack.H12 base W g arr l.length := by
 by_cases hm : 0 < l.length
 ·obtain ⟨_, inner, hown, hr⟩ := h
  obtain ⟨g, cap, arr, e, hb, hh, hs, ht⟩ := falseworklaw13_CmdBack.own_arr hown hm
  injection e with e1 e2 e3
  refine ⟨g, arr, fun _ => ⟨e1, hb, hh, fun i hi => ?_⟩⟩
  obtain ⟨v, hv, hR⟩ := hr.2 i _ (List.getElem?_eq_getElem hi)
  obtain ⟨A2, c2, rfl⟩ := Kd.R_slice hR
  have hmax := Kd.C_max (Kd.R_reads' hR).2.2
  refine ⟨A2, _, c2, ?_, hmax, falseworklaw13_CmdBack.SV_of hR⟩
  have h1 : (inner.drop (i * 1))[0]? = some (.slice A2 l[i].length c2) := by
   have : ((inner.drop (i * 1)).take 1)[0]? = some (.slice A2 l[i].length c2) := by rw [show (inner.drop (i * 1)).take 1 = [Value.slice A2 l[i].length c2] from hv]; rfl
   rwa [List.getElem?_take_of_lt (by decide)] at this
  rw [List.getElem?_drop, ← ht, List.getElem?_take_of_lt (by show i * 1 + 0 < l.length * 1; omega)] at h1
  rw [← Array.getElem?_toList]
  simpa using h1
 ·exact ⟨0, #[], fun h => absurd h hm⟩
theorem falseworklaw13_CmdBack.SV.set {b0 : Nat} {W : World} {A' : Option Addr} {m : Nat} (h : falseworklaw13_CmdBack.SV b0 W A' m) (g j : Nat) (v : Value) : falseworklaw13_CmdBack.SV b0 (W.setCell ⟨g, j, none⟩ v) A' m := fun hm => by
 obtain ⟨g', arr, e, hb, hh, hs⟩ := h hm
 obtain ⟨arr', h1, h2⟩ := falseworklaw13_CmdBack.set_arr hh g j v
 exact ⟨g', arr', e, hb, h1, by omega⟩
theorem falseworklaw13_CmdBack.S6.set {b0 : Nat} {W : World} {g6 n : Nat} (h : falseworklaw13_CmdBack.S6 b0 W g6 n) (g j : Nat) (v : Value) : falseworklaw13_CmdBack.S6 b0 (W.setCell ⟨g, j, none⟩ v) g6 n := by
 obtain ⟨hb, arr, hh, hs⟩ := h
 obtain ⟨arr', h1, h2⟩ := falseworklaw13_CmdBack.set_arr hh g j v
 exact ⟨hb, arr', h1, by omega⟩
theorem falseworklaw13_CmdBack.H12.set {b0 : Nat} {W : World} {g12 n : Nat} {arr : Array Value} (h : falseworklaw13_CmdBack.H12 b0 W g12 arr n) {g t : Nat} {cells : Array Value} (hc : W.heap[g]? = some (.cells cells t (0, 0))) (ht : t ≠ 42) (j : Nat) (v : Value) : falseworklaw13_CmdBack.H12 b0 (W.setCell ⟨g, j, none⟩ v) g12 arr n :=
 ⟨h.1, blk_far (p := ⟨g, j, none⟩) h.2.1 (Ne.symm (blk_ne hc h.2.1 ht)) v, fun i hi => by
  obtain ⟨A', m, c, e, hx, hs⟩ := h.2.2 i hi
  exact ⟨A', m, c, e, hx, hs.set g j v⟩⟩
/-- While what was told is spoilt. -/
structure falseworklaw13_CmdBack.Mu (g B g6 g12 n6 n12 : Nat) (arr cs ds : Array Value) (w W : World) : Prop where
 below : Below w.heap.size w W
 q : W.heap[g]? = some (.cells cs 27 (0, 0))
 d : W.heap[B]? = some (.cells ds 27 (0, 0))
 s6 : 0 < n6 → falseworklaw13_CmdBack.S6 w.heap.size W g6 n6
 h12 : 0 < n12 → falseworklaw13_CmdBack.H12 w.heap.size W g12 arr n12
theorem falseworklaw13_CmdBack.Mu.set {g B g6 g12 n6 n12 : Nat} {arr cs ds : Array Value} {w W : World} (h : falseworklaw13_CmdBack.Mu g B g6 g12 n6 n12 arr cs ds w W) {k t : Nat} {cells : Array Value} (hk : w.heap.size ≤ k) (hc : W.heap[k]? = some (.cells cells t (0, 0))) (h1 : t ≠ 27) (h2 : t ≠ 42) (j : Nat) (v : Value) : falseworklaw13_CmdBack.Mu g B g6 g12 n6 n12 arr cs ds w (W.setCell ⟨k, j, none⟩ v) :=
 ⟨below_set h.below hk, blk_far h.q (Ne.symm (blk_ne hc h.q h1)) _, blk_far h.d (Ne.symm (blk_ne hc h.d h1)) _, fun hn => (h.s6 hn).set k j v, fun hn => (h.h12 hn).set hc h2 j v⟩
set_option maxHeartbeats 8000000 in
set_option maxRecDepth 100000 in
theorem falseworklaw13_CmdBack.walk0 (k : Nat) (a0_0 : Int) (a0_1 : Int) (a0_2 : Int) (a0_3 : Int) (A0_4 : Option Addr) (c0_4 : Nat) (l0_4 : List ByteArray) (A0_5 : Option Addr) (c0_5 : Nat) (l0_5 : List (S50)) (A0_6 : Option Addr) (c0_6 : Nat) (l0_6 : List (S41)) (a0_7 : Int) (a0_8 : Int) (a0_9 : Int) (a0_10 : ByteArray) (a0_11 : Int) (A0_12 : Option Addr) (c0_12 : Nat) (l0_12 : List (List (S45))) (r : Bool) (w : World) (hr0_4 : Kd.C Kd.string w A0_4 l0_4.length l0_4) (hc0_4 : l0_4.length ≤ c0_4) (hr0_5 : Kd.C k50 w A0_5 l0_5.length l0_5) (hc0_5 : l0_5.length ≤ c0_5) (hr0_6 : Kd.C k41 w A0_6 l0_6.length l0_6) (hc0_6 : l0_6.length ≤ c0_6) (hr0_12 : Kd.C (Kd.slice 45 k45) w A0_12 l0_12.length l0_12) (hc0_12 : l0_12.length ≤ c0_12) (hg : falseworklaw13_Great.f k a0_0 a0_1 a0_2 a0_3 l0_4 l0_5 l0_6 a0_7 a0_8 a0_9 a0_10 a0_11 l0_12 = some true) (h : falseworklaw13_awake.f k = some r) :
  Calls Try.prog 6 #[.agg #[.int .i64 a0_0, .int .i64 a0_1, .int .i64 a0_2, .int .i64 a0_3, .slice A0_4 l0_4.length c0_4, .slice A0_5 l0_5.length c0_5, .slice A0_6 l0_6.length c0_6, .int .i64 a0_7, .int .i64 a0_8, .int .i64 a0_9, .string a0_10, .int .i64 a0_11, .slice A0_12 l0_12.length c0_12]] w fun e w' => e = .returned (.bool r) ∧ Below w.heap.size w w' := by
 have hu27 := Try.underlying27
 have Q4 := Aside0.mk hr0_4
 have C4 := Aside0.mk hc0_4
 have Q5 := Aside0.mk hr0_5
 have C5 := Aside0.mk hc0_5
 have Q6 := Aside0.mk hr0_6
 have C6 := Aside0.mk hc0_6
 have Q12 := Aside0.mk hr0_12
 have C12 := Aside0.mk hc0_12
 clear hr0_4 hc0_4 hr0_5 hc0_5 hr0_6 hc0_6 hr0_12 hc0_12
 have HG := Aside0.mk hg
 have HA := Aside0.mk h
 clear hg h
 go_enter Try.func6, Try.ntmps6
 go_wp2_with (first | (go_at_call 11; go_loud (refine (falseworklaw13_awake.calls k r _ HA.out).mono ?_; rintro e w3 ⟨rfl, hb⟩; have HB3 := Aside0.mk (zS HB2.out hb); clear hb)) | (go_at_call 8; go_loud (refine (falseworklaw13_Great.calls k a0_0 a0_1 a0_2 a0_3 A0_4 c0_4 l0_4 A0_5 c0_5 l0_5 A0_6 c0_6 l0_6 a0_7 a0_8 a0_9 a0_10 a0_11 A0_12 c0_12 l0_12 true _ (Kd.C_below Q4.out HB1.out) C4.out (Kd.C_below Q5.out HB1.out) C5.out (Kd.C_below Q6.out HB1.out) C6.out (Kd.C_below Q12.out HB1.out) C12.out HG.out).mono ?_; rintro e w2 ⟨rfl, hb⟩; have HQ2 := Aside0.mk (yB HQ1.out hb); have HB2 := Aside0.mk (zS HB1.out hb); clear hb; have k0_w2 : w2.cell? ⟨g, 0, none⟩ = some (.int .i64 a0_0) := (blk_cell HQ2.out 0).trans rfl; have k1_w2 : w2.cell? ⟨g, 1, none⟩ = some (.int .i64 a0_1) := (blk_cell HQ2.out 1).trans rfl; have k2_w2 : w2.cell? ⟨g, 2, none⟩ = some (.int .i64 a0_2) := (blk_cell HQ2.out 2).trans rfl; have k3_w2 : w2.cell? ⟨g, 3, none⟩ = some (.int .i64 a0_3) := (blk_cell HQ2.out 3).trans rfl; have k4_w2 : w2.cell? ⟨g, 4, none⟩ = some (.slice A0_4 l0_4.length c0_4) := (blk_cell HQ2.out 4).trans rfl; have k5_w2 : w2.cell? ⟨g, 5, none⟩ = some (.slice A0_5 l0_5.length c0_5) := (blk_cell HQ2.out 5).trans rfl; have k6_w2 : w2.cell? ⟨g, 6, none⟩ = some (.slice A0_6 l0_6.length c0_6) := (blk_cell HQ2.out 6).trans rfl; have k7_w2 : w2.cell? ⟨g, 7, none⟩ = some (.int .i64 a0_7) := (blk_cell HQ2.out 7).trans rfl; have k8_w2 : w2.cell? ⟨g, 8, none⟩ = some (.int .i64 a0_8) := (blk_cell HQ2.out 8).trans rfl; have k9_w2 : w2.cell? ⟨g, 9, none⟩ = some (.int .i64 a0_9) := (blk_cell HQ2.out 9).trans rfl; have k10_w2 : w2.cell? ⟨g, 10, none⟩ = some (.string a0_10) := (blk_cell HQ2.out 10).trans rfl; have k11_w2 : w2.cell? ⟨g, 11, none⟩ = some (.int .i64 a0_11) := (blk_cell HQ2.out 11).trans rfl; have k12_w2 : w2.cell? ⟨g, 12, none⟩ = some (.slice A0_12 l0_12.length c0_12) := (blk_cell HQ2.out 12).trans rfl)) | ((with_reducible refine gate_dst (N := 1) rfl ?_); (try (refine gate_guard (by rfl) ?_; dsimp only)); refine box_event ?hg (N := 1) ?hd (cs := #[.int .i64 a0_0, .int .i64 a0_1, .int .i64 a0_2, .int .i64 a0_3, .slice A0_4 l0_4.length c0_4, .slice A0_5 l0_5.length c0_5, .slice A0_6 l0_6.length c0_6, .int .i64 a0_7, .int .i64 a0_8, .int .i64 a0_9, .string a0_10, .int .i64 a0_11, .slice A0_12 l0_12.length c0_12]) (t := 27) ?hr ?_; (case hd => rfl); (case hg => rfl); (case hr => first | (go_simp; done) | (go_simp; rfl)); intro g hg w1 hbox hb; have HQ1 := Aside0.mk hbox; have HB1 := Aside0.mk hb; clear hbox hb hg; have k0_w1 : w1.cell? ⟨g, 0, none⟩ = some (.int .i64 a0_0) := (blk_cell HQ1.out 0).trans rfl; have k1_w1 : w1.cell? ⟨g, 1, none⟩ = some (.int .i64 a0_1) := (blk_cell HQ1.out 1).trans rfl; have k2_w1 : w1.cell? ⟨g, 2, none⟩ = some (.int .i64 a0_2) := (blk_cell HQ1.out 2).trans rfl; have k3_w1 : w1.cell? ⟨g, 3, none⟩ = some (.int .i64 a0_3) := (blk_cell HQ1.out 3).trans rfl; have k4_w1 : w1.cell? ⟨g, 4, none⟩ = some (.slice A0_4 l0_4.length c0_4) := (blk_cell HQ1.out 4).trans rfl; have k5_w1 : w1.cell? ⟨g, 5, none⟩ = some (.slice A0_5 l0_5.length c0_5) := (blk_cell HQ1.out 5).trans rfl; have k6_w1 : w1.cell? ⟨g, 6, none⟩ = some (.slice A0_6 l0_6.length c0_6) := (blk_cell HQ1.out 6).trans rfl; have k7_w1 : w1.cell? ⟨g, 7, none⟩ = some (.int .i64 a0_7) := (blk_cell HQ1.out 7).trans rfl; have k8_w1 : w1.cell? ⟨g, 8, none⟩ = some (.int .i64 a0_8) := (blk_cell HQ1.out 8).trans rfl; have k9_w1 : w1.cell? ⟨g, 9, none⟩ = some (.int .i64 a0_9) := (blk_cell HQ1.out 9).trans rfl; have k10_w1 : w1.cell? ⟨g, 10, none⟩ = some (.string a0_10) := (blk_cell HQ1.out 10).trans rfl; have k11_w1 : w1.cell? ⟨g, 11, none⟩ = some (.int .i64 a0_11) := (blk_cell HQ1.out 11).trans rfl; have k12_w1 : w1.cell? ⟨g, 12, none⟩ = some (.slice A0_12 l0_12.length c0_12) := (blk_cell HQ1.out 12).trans rfl))
 go_ret
 exact ⟨rfl, HB3.out⟩
set_option maxHeartbeats 8000000 in
set_option maxRecDepth 100000 in
theorem falseworklaw13_CmdBack.walk1 (k : Nat) (a0_0 : Int) (a0_1 : Int) (a0_2 : Int) (a0_3 : Int) (A0_4 : Option Addr) (c0_4 : Nat) (l0_4 : List ByteArray) (A0_5 : Option Addr) (c0_5 : Nat) (l0_5 : List (S50)) (A0_6 : Option Addr) (c0_6 : Nat) (l0_6 : List (S41)) (a0_7 : Int) (a0_8 : Int) (a0_9 : Int) (a0_10 : ByteArray) (a0_11 : Int) (A0_12 : Option Addr) (c0_12 : Nat) (l0_12 : List (List (S45))) (r : Bool) (w : World) (hr0_4 : Kd.C Kd.string w A0_4 l0_4.length l0_4) (hc0_4 : l0_4.length ≤ c0_4) (hr0_5 : Kd.C k50 w A0_5 l0_5.length l0_5) (hc0_5 : l0_5.length ≤ c0_5) (hr0_6 : Kd.C k41 w A0_6 l0_6.length l0_6) (hc0_6 : l0_6.length ≤ c0_6) (hr0_12 : Kd.C (Kd.slice 45 k45) w A0_12 l0_12.length l0_12) (hc0_12 : l0_12.length ≤ c0_12) (hg : falseworklaw13_Great.f k a0_0 a0_1 a0_2 a0_3 l0_4 l0_5 l0_6 a0_7 a0_8 a0_9 a0_10 a0_11 l0_12 = some false) (p1 : ByteArray) (p2 : Int) (hp : cmd_Put.f k a0_0 a0_1 a0_2 a0_3 l0_4 l0_5 l0_6 a0_7 a0_8 a0_9 a0_10 a0_11 l0_12 = some (p1, p2)) (h2 : ¬ p2 = 0) (h3 : p1.toList = []) (h : falseworklaw13_awake.f k = some r) :
  Calls Try.prog 6 #[.agg #[.int .i64 a0_0, .int .i64 a0_1, .int .i64 a0_2, .int .i64 a0_3, .slice A0_4 l0_4.length c0_4, .slice A0_5 l0_5.length c0_5, .slice A0_6 l0_6.length c0_6, .int .i64 a0_7, .int .i64 a0_8, .int .i64 a0_9, .string a0_10, .int .i64 a0_11, .slice A0_12 l0_12.length c0_12]] w fun e w' => e = .returned (.bool r) ∧ Below w.heap.size w w' := by
 have hu27 := Try.underlying27
 have Q4 := Aside0.mk hr0_4
 have C4 := Aside0.mk hc0_4
 have Q5 := Aside0.mk hr0_5
 have C5 := Aside0.mk hc0_5
 have Q6 := Aside0.mk hr0_6
 have C6 := Aside0.mk hc0_6
 have Q12 := Aside0.mk hr0_12
 have C12 := Aside0.mk hc0_12
 clear hr0_4 hc0_4 hr0_5 hc0_5 hr0_6 hc0_6 hr0_12 hc0_12
 have HG := Aside0.mk hg
 have HA := Aside0.mk h
 have HP := Aside0.mk hp
 have q1 : (p2 == 0) = false := beq_eq_false_iff_ne.mpr h2
 have q2 : (p2 != 0) = true := bne_iff_ne.mpr h2
 have q3 : p1.toList.isEmpty = true := by rw [h3]; rfl
 have q4 : (p1.toList == ([] : List UInt8)) = true := by rw [h3]; rfl
 have q5 : p1.toList = [] := h3
 clear hg h hp h2 h3
 go_enter Try.func6, Try.ntmps6
 go_wp2_with (first | (go_at_call 11; go_loud (refine (falseworklaw13_awake.calls k r _ HA.out).mono ?_; rintro e w6 ⟨rfl, hb⟩; have HB6 := Aside0.mk (zS HB4.out hb); clear hb)) | (go_at_call 14; go_loud (refine (falseworklaw13_num.calls p2 p2 _ rfl).mono ?_; rintro e w4 ⟨rfl, hd⟩; have hb := hd.below; have HQ4 := Aside0.mk (yB HQ3.out hb); have HB4 := Aside0.mk (zS HB3.out hb); clear hb; clear hd)) | (go_at_call 12; go_loud (refine (cmd_Put.calls k a0_0 a0_1 a0_2 a0_3 A0_4 c0_4 l0_4 A0_5 c0_5 l0_5 A0_6 c0_6 l0_6 a0_7 a0_8 a0_9 a0_10 a0_11 A0_12 c0_12 l0_12 p1 p2 _ (Kd.C_below Q4.out HB2.out) C4.out (Kd.C_below Q5.out HB2.out) C5.out (Kd.C_below Q6.out HB2.out) C6.out (Kd.C_below Q12.out HB2.out) C12.out HP.out).mono ?_; rintro e w3 ⟨rfl, hb⟩; have HQ3 := Aside0.mk (yB HQ2.out hb); have HB3 := Aside0.mk (zS HB2.out hb); clear hb; have k0_w3 : w3.cell? ⟨g, 0, none⟩ = some (.int .i64 a0_0) := (blk_cell HQ3.out 0).trans rfl; have k1_w3 : w3.cell? ⟨g, 1, none⟩ = some (.int .i64 a0_1) := (blk_cell HQ3.out 1).trans rfl; have k2_w3 : w3.cell? ⟨g, 2, none⟩ = some (.int .i64 a0_2) := (blk_cell HQ3.out 2).trans rfl; have k3_w3 : w3.cell? ⟨g, 3, none⟩ = some (.int .i64 a0_3) := (blk_cell HQ3.out 3).trans rfl; have k4_w3 : w3.cell? ⟨g, 4, none⟩ = some (.slice A0_4 l0_4.length c0_4) := (blk_cell HQ3.out 4).trans rfl; have k5_w3 : w3.cell? ⟨g, 5, none⟩ = some (.slice A0_5 l0_5.length c0_5) := (blk_cell HQ3.out 5).trans rfl; have k6_w3 : w3.cell? ⟨g, 6, none⟩ = some (.slice A0_6 l0_6.length c0_6) := (blk_cell HQ3.out 6).trans rfl; have k7_w3 : w3.cell? ⟨g, 7, none⟩ = some (.int .i64 a0_7) := (blk_cell HQ3.out 7).trans rfl; have k8_w3 : w3.cell? ⟨g, 8, none⟩ = some (.int .i64 a0_8) := (blk_cell HQ3.out 8).trans rfl; have k9_w3 : w3.cell? ⟨g, 9, none⟩ = some (.int .i64 a0_9) := (blk_cell HQ3.out 9).trans rfl; have k10_w3 : w3.cell? ⟨g, 10, none⟩ = some (.string a0_10) := (blk_cell HQ3.out 10).trans rfl; have k11_w3 : w3.cell? ⟨g, 11, none⟩ = some (.int .i64 a0_11) := (blk_cell HQ3.out 11).trans rfl; have k12_w3 : w3.cell? ⟨g, 12, none⟩ = some (.slice A0_12 l0_12.length c0_12) := (blk_cell HQ3.out 12).trans rfl)) | (go_at_call 8; go_loud (refine (falseworklaw13_Great.calls k a0_0 a0_1 a0_2 a0_3 A0_4 c0_4 l0_4 A0_5 c0_5 l0_5 A0_6 c0_6 l0_6 a0_7 a0_8 a0_9 a0_10 a0_11 A0_12 c0_12 l0_12 false _ (Kd.C_below Q4.out HB1.out) C4.out (Kd.C_below Q5.out HB1.out) C5.out (Kd.C_below Q6.out HB1.out) C6.out (Kd.C_below Q12.out HB1.out) C12.out HG.out).mono ?_; rintro e w2 ⟨rfl, hb⟩; have HQ2 := Aside0.mk (yB HQ1.out hb); have HB2 := Aside0.mk (zS HB1.out hb); clear hb; have k0_w2 : w2.cell? ⟨g, 0, none⟩ = some (.int .i64 a0_0) := (blk_cell HQ2.out 0).trans rfl; have k1_w2 : w2.cell? ⟨g, 1, none⟩ = some (.int .i64 a0_1) := (blk_cell HQ2.out 1).trans rfl; have k2_w2 : w2.cell? ⟨g, 2, none⟩ = some (.int .i64 a0_2) := (blk_cell HQ2.out 2).trans rfl; have k3_w2 : w2.cell? ⟨g, 3, none⟩ = some (.int .i64 a0_3) := (blk_cell HQ2.out 3).trans rfl; have k4_w2 : w2.cell? ⟨g, 4, none⟩ = some (.slice A0_4 l0_4.length c0_4) := (blk_cell HQ2.out 4).trans rfl; have k5_w2 : w2.cell? ⟨g, 5, none⟩ = some (.slice A0_5 l0_5.length c0_5) := (blk_cell HQ2.out 5).trans rfl; have k6_w2 : w2.cell? ⟨g, 6, none⟩ = some (.slice A0_6 l0_6.length c0_6) := (blk_cell HQ2.out 6).trans rfl; have k7_w2 : w2.cell? ⟨g, 7, none⟩ = some (.int .i64 a0_7) := (blk_cell HQ2.out 7).trans rfl; have k8_w2 : w2.cell? ⟨g, 8, none⟩ = some (.int .i64 a0_8) := (blk_cell HQ2.out 8).trans rfl; have k9_w2 : w2.cell? ⟨g, 9, none⟩ = some (.int .i64 a0_9) := (blk_cell HQ2.out 9).trans rfl; have k10_w2 : w2.cell? ⟨g, 10, none⟩ = some (.string a0_10) := (blk_cell HQ2.out 10).trans rfl; have k11_w2 : w2.cell? ⟨g, 11, none⟩ = some (.int .i64 a0_11) := (blk_cell HQ2.out 11).trans rfl; have k12_w2 : w2.cell? ⟨g, 12, none⟩ = some (.slice A0_12 l0_12.length c0_12) := (blk_cell HQ2.out 12).trans rfl)) | ((with_reducible refine gate_dst (N := 1) rfl ?_); (try (refine gate_guard (by rfl) ?_; dsimp only)); refine box_event ?hg (N := 1) ?hd (cs := #[.int .i64 a0_0, .int .i64 a0_1, .int .i64 a0_2, .int .i64 a0_3, .slice A0_4 l0_4.length c0_4, .slice A0_5 l0_5.length c0_5, .slice A0_6 l0_6.length c0_6, .int .i64 a0_7, .int .i64 a0_8, .int .i64 a0_9, .string a0_10, .int .i64 a0_11, .slice A0_12 l0_12.length c0_12]) (t := 27) ?hr ?_; (case hd => rfl); (case hg => rfl); (case hr => first | (go_simp; done) | (go_simp; rfl)); intro g hg w1 hbox hb; have HQ1 := Aside0.mk hbox; have HB1 := Aside0.mk hb; clear hbox hb hg; have k0_w1 : w1.cell? ⟨g, 0, none⟩ = some (.int .i64 a0_0) := (blk_cell HQ1.out 0).trans rfl; have k1_w1 : w1.cell? ⟨g, 1, none⟩ = some (.int .i64 a0_1) := (blk_cell HQ1.out 1).trans rfl; have k2_w1 : w1.cell? ⟨g, 2, none⟩ = some (.int .i64 a0_2) := (blk_cell HQ1.out 2).trans rfl; have k3_w1 : w1.cell? ⟨g, 3, none⟩ = some (.int .i64 a0_3) := (blk_cell HQ1.out 3).trans rfl; have k4_w1 : w1.cell? ⟨g, 4, none⟩ = some (.slice A0_4 l0_4.length c0_4) := (blk_cell HQ1.out 4).trans rfl; have k5_w1 : w1.cell? ⟨g, 5, none⟩ = some (.slice A0_5 l0_5.length c0_5) := (blk_cell HQ1.out 5).trans rfl; have k6_w1 : w1.cell? ⟨g, 6, none⟩ = some (.slice A0_6 l0_6.length c0_6) := (blk_cell HQ1.out 6).trans rfl; have k7_w1 : w1.cell? ⟨g, 7, none⟩ = some (.int .i64 a0_7) := (blk_cell HQ1.out 7).trans rfl; have k8_w1 : w1.cell? ⟨g, 8, none⟩ = some (.int .i64 a0_8) := (blk_cell HQ1.out 8).trans rfl; have k9_w1 : w1.cell? ⟨g, 9, none⟩ = some (.int .i64 a0_9) := (blk_cell HQ1.out 9).trans rfl; have k10_w1 : w1.cell? ⟨g, 10, none⟩ = some (.string a0_10) := (blk_cell HQ1.out 10).trans rfl; have k11_w1 : w1.cell? ⟨g, 11, none⟩ = some (.int .i64 a0_11) := (blk_cell HQ1.out 11).trans rfl; have k12_w1 : w1.cell? ⟨g, 12, none⟩ = some (.slice A0_12 l0_12.length c0_12) := (blk_cell HQ1.out 12).trans rfl))
 go_ret
 exact ⟨rfl, HB6.out⟩
set_option maxHeartbeats 32000000 in
set_option maxRecDepth 100000 in
theorem falseworklaw13_CmdBack.walk2 (k : Nat) (a0_0 : Int) (a0_1 : Int) (a0_2 : Int) (a0_3 : Int) (A0_4 : Option Addr) (c0_4 : Nat) (l0_4 : List ByteArray) (A0_5 : Option Addr) (c0_5 : Nat) (l0_5 : List (S50)) (A0_6 : Option Addr) (c0_6 : Nat) (l0_6 : List (S41)) (a0_7 : Int) (a0_8 : Int) (a0_9 : Int) (a0_10 : ByteArray) (a0_11 : Int) (A0_12 : Option Addr) (c0_12 : Nat) (l0_12 : List (List (S45))) (r : Bool) (w : World) (hr0_4 : Kd.C Kd.string w A0_4 l0_4.length l0_4) (hc0_4 : l0_4.length ≤ c0_4) (hr0_5 : Kd.C k50 w A0_5 l0_5.length l0_5) (hc0_5 : l0_5.length ≤ c0_5) (hr0_6 : Kd.C k41 w A0_6 l0_6.length l0_6) (hc0_6 : l0_6.length ≤ c0_6) (hr0_12 : Kd.C (Kd.slice 45 k45) w A0_12 l0_12.length l0_12) (hc0_12 : l0_12.length ≤ c0_12) (hg : falseworklaw13_Great.f k a0_0 a0_1 a0_2 a0_3 l0_4 l0_5 l0_6 a0_7 a0_8 a0_9 a0_10 a0_11 l0_12 = some false) (p : ByteArray) (hp : cmd_Put.f k a0_0 a0_1 a0_2 a0_3 l0_4 l0_5 l0_6 a0_7 a0_8 a0_9 a0_10 a0_11 l0_12 = some (p, 0)) (d : cmd_Get.Cm) (hq : cmd_Get.f k p = some (d, 0)) (hs : falseworkref6_SameCmd.f k a0_0 a0_1 a0_2 a0_3 l0_4 l0_5 l0_6 a0_7 a0_8 a0_9 a0_10 a0_11 l0_12 d.a0 d.a1 d.a2 d.a3 d.l4 d.l5 d.l6 d.a7 d.a8 d.a9 d.a10 d.a11 d.l12 = some true) (h : falseworklaw13_awake.f k = some r) :
  Calls Try.prog 6 #[.agg #[.int .i64 a0_0, .int .i64 a0_1, .int .i64 a0_2, .int .i64 a0_3, .slice A0_4 l0_4.length c0_4, .slice A0_5 l0_5.length c0_5, .slice A0_6 l0_6.length c0_6, .int .i64 a0_7, .int .i64 a0_8, .int .i64 a0_9, .string a0_10, .int .i64 a0_11, .slice A0_12 l0_12.length c0_12]] w fun e w' => e = .returned (.bool r) ∧ Below w.heap.size w w' := by
 have hu27 := Try.underlying27
 have hu41 := Try.underlying41
 have hu45 := Try.underlying45
 have Q4 := Aside0.mk hr0_4
 have C4 := Aside0.mk hc0_4
 have Q5 := Aside0.mk hr0_5
 have C5 := Aside0.mk hc0_5
 have Q6 := Aside0.mk hr0_6
 have C6 := Aside0.mk hc0_6
 have Q12 := Aside0.mk hr0_12
 have C12 := Aside0.mk hc0_12
 clear hr0_4 hc0_4 hr0_5 hc0_5 hr0_6 hc0_6 hr0_12 hc0_12
 have HG := Aside0.mk hg
 have HA := Aside0.mk h
 have HP := Aside0.mk hp
 have HQG := Aside0.mk hq
 have HSC := Aside0.mk hs
 clear hg h hp hq hs
 go_enter Try.func6, Try.ntmps6
 go_wp2_with (first | (go_at_call 16; go_loud (refine (falseworkref6_SameCmd.calls k a0_0 a0_1 a0_2 a0_3 A0_4 c0_4 l0_4 A0_5 c0_5 l0_5 A0_6 c0_6 l0_6 a0_7 a0_8 a0_9 a0_10 a0_11 A0_12 c0_12 l0_12 d.a0 d.a1 d.a2 d.a3 A4 c4 d.l4 A5 c5 d.l5 A6 c6 d.l6 d.a7 d.a8 d.a9 d.a10 d.a11 A12 c12 d.l12 true _ (Kd.C_below Q4.out H1.out.below) C4.out (Kd.C_below Q5.out H1.out.below) C5.out (Kd.C_below Q6.out H1.out.below) C6.out (Kd.C_below Q12.out H1.out.below) C12.out (Kd.R_reads' H1.out.r4).2.2 H1.out.h4 (Kd.R_reads' H1.out.r5).2.2 H1.out.h5 (Kd.R_reads' H1.out.r6).2.2 H1.out.h6 (Kd.R_reads' H1.out.r12).2.2 H1.out.h12 HSC.out).mono ?_; rintro e w8 ⟨rfl, hb⟩; have H2 := Aside0.mk (H1.out.go hb); have HQ8 := Aside0.mk (yB HQ7.out hb); clear hb)) | (go_at_call 14; go_loud (refine (falseworklaw13_num.calls 0 0 _ rfl).mono ?_; rintro e w7 ⟨rfl, hd⟩; have H1 := Aside0.mk (H0.out.go hd.below); have HQ7 := Aside0.mk (yB HQ6.out hd.below); have k0_w7 : w7.cell? ⟨g, 0, none⟩ = some (.int .i64 a0_0) := (blk_cell HQ7.out 0).trans rfl; have k1_w7 : w7.cell? ⟨g, 1, none⟩ = some (.int .i64 a0_1) := (blk_cell HQ7.out 1).trans rfl; have k2_w7 : w7.cell? ⟨g, 2, none⟩ = some (.int .i64 a0_2) := (blk_cell HQ7.out 2).trans rfl; have k3_w7 : w7.cell? ⟨g, 3, none⟩ = some (.int .i64 a0_3) := (blk_cell HQ7.out 3).trans rfl; have k4_w7 : w7.cell? ⟨g, 4, none⟩ = some (.slice A0_4 l0_4.length c0_4) := (blk_cell HQ7.out 4).trans rfl; have k5_w7 : w7.cell? ⟨g, 5, none⟩ = some (.slice A0_5 l0_5.length c0_5) := (blk_cell HQ7.out 5).trans rfl; have k6_w7 : w7.cell? ⟨g, 6, none⟩ = some (.slice A0_6 l0_6.length c0_6) := (blk_cell HQ7.out 6).trans rfl; have k7_w7 : w7.cell? ⟨g, 7, none⟩ = some (.int .i64 a0_7) := (blk_cell HQ7.out 7).trans rfl; have k8_w7 : w7.cell? ⟨g, 8, none⟩ = some (.int .i64 a0_8) := (blk_cell HQ7.out 8).trans rfl; have k9_w7 : w7.cell? ⟨g, 9, none⟩ = some (.int .i64 a0_9) := (blk_cell HQ7.out 9).trans rfl; have k10_w7 : w7.cell? ⟨g, 10, none⟩ = some (.string a0_10) := (blk_cell HQ7.out 10).trans rfl; have k11_w7 : w7.cell? ⟨g, 11, none⟩ = some (.int .i64 a0_11) := (blk_cell HQ7.out 11).trans rfl; have k12_w7 : w7.cell? ⟨g, 12, none⟩ = some (.slice A0_12 l0_12.length c0_12) := (blk_cell HQ7.out 12).trans rfl; have o0_w7B : w7.cell? ⟨B, 0, none⟩ = some (.int .i64 d.a0) := (blk_cell H1.out.blk 0).trans rfl; have o1_w7B : w7.cell? ⟨B, 1, none⟩ = some (.int .i64 d.a1) := (blk_cell H1.out.blk 1).trans rfl; have o2_w7B : w7.cell? ⟨B, 2, none⟩ = some (.int .i64 d.a2) := (blk_cell H1.out.blk 2).trans rfl; have o3_w7B : w7.cell? ⟨B, 3, none⟩ = some (.int .i64 d.a3) := (blk_cell H1.out.blk 3).trans rfl; have o4_w7B : w7.cell? ⟨B, 4, none⟩ = some (.slice A4 d.l4.length c4) := (blk_cell H1.out.blk 4).trans rfl; have o5_w7B : w7.cell? ⟨B, 5, none⟩ = some (.slice A5 d.l5.length c5) := (blk_cell H1.out.blk 5).trans rfl; have o6_w7B : w7.cell? ⟨B, 6, none⟩ = some (.slice A6 d.l6.length c6) := (blk_cell H1.out.blk 6).trans rfl; have o7_w7B : w7.cell? ⟨B, 7, none⟩ = some (.int .i64 d.a7) := (blk_cell H1.out.blk 7).trans rfl; have o8_w7B : w7.cell? ⟨B, 8, none⟩ = some (.int .i64 d.a8) := (blk_cell H1.out.blk 8).trans rfl; have o9_w7B : w7.cell? ⟨B, 9, none⟩ = some (.int .i64 d.a9) := (blk_cell H1.out.blk 9).trans rfl; have o10_w7B : w7.cell? ⟨B, 10, none⟩ = some (.string d.a10) := (blk_cell H1.out.blk 10).trans rfl; have o11_w7B : w7.cell? ⟨B, 11, none⟩ = some (.int .i64 d.a11) := (blk_cell H1.out.blk 11).trans rfl; have o12_w7B : w7.cell? ⟨B, 12, none⟩ = some (.slice A12 d.l12.length c12) := (blk_cell H1.out.blk 12).trans rfl; clear hd)) | ((with_reducible refine gate_dst (N := 5) rfl ?_); (try (refine gate_guard (by rfl) ?_; dsimp only)); go_loud (refine box_event ?hg (N := 5) ?hd (cs := #[.int .i64 0, .int .i64 0, .int .i64 0, .int .i64 0, .slice none 0 0, .slice none 0 0, .slice none 0 0, .int .i64 0, .int .i64 0, .int .i64 0, .string (⟨#[]⟩ : ByteArray), .int .i64 0, .slice none 0 0]) (t := 27) ?hr ?_; (case hd => rfl); (case hg => rfl); (case hr => first | (go_simp; done) | (go_simp; rfl)); intro B hg w6 hbox hb; have H0 := Aside0.mk (cmd_Get.Hd.make (c := d) HBG.out HR4.out HH4.out HR5.out HH5.out HR6.out HH6.out HR12.out HH12.out hg hbox hb); have o0_w6B : w6.cell? ⟨B, 0, none⟩ = some (.int .i64 0) := (blk_cell hbox 0).trans rfl; have o1_w6B : w6.cell? ⟨B, 1, none⟩ = some (.int .i64 0) := (blk_cell hbox 1).trans rfl; have o2_w6B : w6.cell? ⟨B, 2, none⟩ = some (.int .i64 0) := (blk_cell hbox 2).trans rfl; have o3_w6B : w6.cell? ⟨B, 3, none⟩ = some (.int .i64 0) := (blk_cell hbox 3).trans rfl; have o4_w6B : w6.cell? ⟨B, 4, none⟩ = some (.slice none 0 0) := (blk_cell hbox 4).trans rfl; have o5_w6B : w6.cell? ⟨B, 5, none⟩ = some (.slice none 0 0) := (blk_cell hbox 5).trans rfl; have o6_w6B : w6.cell? ⟨B, 6, none⟩ = some (.slice none 0 0) := (blk_cell hbox 6).trans rfl; have o7_w6B : w6.cell? ⟨B, 7, none⟩ = some (.int .i64 0) := (blk_cell hbox 7).trans rfl; have o8_w6B : w6.cell? ⟨B, 8, none⟩ = some (.int .i64 0) := (blk_cell hbox 8).trans rfl; have o9_w6B : w6.cell? ⟨B, 9, none⟩ = some (.int .i64 0) := (blk_cell hbox 9).trans rfl; have o10_w6B : w6.cell? ⟨B, 10, none⟩ = some (.string (⟨#[]⟩ : ByteArray)) := (blk_cell hbox 10).trans rfl; have o11_w6B : w6.cell? ⟨B, 11, none⟩ = some (.int .i64 0) := (blk_cell hbox 11).trans rfl; have o12_w6B : w6.cell? ⟨B, 12, none⟩ = some (.slice none 0 0) := (blk_cell hbox 12).trans rfl; have p0_w6B := blk_frozen hbox 0; have p1_w6B := blk_frozen hbox 1; have p2_w6B := blk_frozen hbox 2; have p3_w6B := blk_frozen hbox 3; have p4_w6B := blk_frozen hbox 4; have p5_w6B := blk_frozen hbox 5; have p6_w6B := blk_frozen hbox 6; have p7_w6B := blk_frozen hbox 7; have p8_w6B := blk_frozen hbox 8; have p9_w6B := blk_frozen hbox 9; have p10_w6B := blk_frozen hbox 10; have p11_w6B := blk_frozen hbox 11; have p12_w6B := blk_frozen hbox 12; have HQ6 := Aside0.mk (falseworklaw13_CmdBack.oth13 (yB HQ5.out hb) (show g ≠ B by rw [hg]; have := blk_lt HQ5.out; omega) (.int .i64 d.a0) (.int .i64 d.a1) (.int .i64 d.a2) (.int .i64 d.a3) (.slice A4 d.l4.length c4) (.slice A5 d.l5.length c5) (.slice A6 d.l6.length c6) (.int .i64 d.a7) (.int .i64 d.a8) (.int .i64 d.a9) (.string d.a10) (.int .i64 d.a11) (.slice A12 d.l12.length c12)); clear hbox hb hg)) | (go_at_call 15; go_loud (refine (cmd_Get.calls k p d 0 _ HQG.out).mono ?_; rintro e w5 ⟨v, rfl, hret, hB⟩; obtain ⟨v4, v5, v6, v12, rfl, r4, r5, r6, r12⟩ := hret; dsimp only; obtain ⟨A4, c4, rfl, h4, -⟩ := Kd.R_reads r4; obtain ⟨A5, c5, rfl, h5, -⟩ := Kd.R_reads r5; obtain ⟨A6, c6, rfl, h6, -⟩ := Kd.R_reads r6; obtain ⟨A12, c12, rfl, h12, -⟩ := Kd.R_reads r12; have HR4 := Aside0.mk (Kd.R_lower r4 HB4.out.size); have HH4 := Aside0.mk h4; have HR5 := Aside0.mk (Kd.R_lower r5 HB4.out.size); have HH5 := Aside0.mk h5; have HR6 := Aside0.mk (Kd.R_lower r6 HB4.out.size); have HH6 := Aside0.mk h6; have HR12 := Aside0.mk (Kd.R_lower r12 HB4.out.size); have HH12 := Aside0.mk h12; have HQ5 := Aside0.mk (yB HQ4.out hB); have HBG := Aside0.mk (zS HB4.out hB); clear hB r4 r5 r6 r12 h4 h5 h6 h12)) | (go_at_call 14; go_loud (refine (falseworklaw13_num.calls 0 0 _ rfl).mono ?_; rintro e w4 ⟨rfl, hd⟩; have hb := hd.below; have HQ4 := Aside0.mk (yB HQ3.out hb); have HB4 := Aside0.mk (zS HB3.out hb); clear hb; clear hd)) | (go_at_call 12; go_loud (refine (cmd_Put.calls k a0_0 a0_1 a0_2 a0_3 A0_4 c0_4 l0_4 A0_5 c0_5 l0_5 A0_6 c0_6 l0_6 a0_7 a0_8 a0_9 a0_10 a0_11 A0_12 c0_12 l0_12 p 0 _ (Kd.C_below Q4.out HB2.out) C4.out (Kd.C_below Q5.out HB2.out) C5.out (Kd.C_below Q6.out HB2.out) C6.out (Kd.C_below Q12.out HB2.out) C12.out HP.out).mono ?_; rintro e w3 ⟨rfl, hb⟩; have HQ3 := Aside0.mk (yB HQ2.out hb); have HB3 := Aside0.mk (zS HB2.out hb); clear hb; have k0_w3 : w3.cell? ⟨g, 0, none⟩ = some (.int .i64 a0_0) := (blk_cell HQ3.out 0).trans rfl; have k1_w3 : w3.cell? ⟨g, 1, none⟩ = some (.int .i64 a0_1) := (blk_cell HQ3.out 1).trans rfl; have k2_w3 : w3.cell? ⟨g, 2, none⟩ = some (.int .i64 a0_2) := (blk_cell HQ3.out 2).trans rfl; have k3_w3 : w3.cell? ⟨g, 3, none⟩ = some (.int .i64 a0_3) := (blk_cell HQ3.out 3).trans rfl; have k4_w3 : w3.cell? ⟨g, 4, none⟩ = some (.slice A0_4 l0_4.length c0_4) := (blk_cell HQ3.out 4).trans rfl; have k5_w3 : w3.cell? ⟨g, 5, none⟩ = some (.slice A0_5 l0_5.length c0_5) := (blk_cell HQ3.out 5).trans rfl; have k6_w3 : w3.cell? ⟨g, 6, none⟩ = some (.slice A0_6 l0_6.length c0_6) := (blk_cell HQ3.out 6).trans rfl; have k7_w3 : w3.cell? ⟨g, 7, none⟩ = some (.int .i64 a0_7) := (blk_cell HQ3.out 7).trans rfl; have k8_w3 : w3.cell? ⟨g, 8, none⟩ = some (.int .i64 a0_8) := (blk_cell HQ3.out 8).trans rfl; have k9_w3 : w3.cell? ⟨g, 9, none⟩ = some (.int .i64 a0_9) := (blk_cell HQ3.out 9).trans rfl; have k10_w3 : w3.cell? ⟨g, 10, none⟩ = some (.string a0_10) := (blk_cell HQ3.out 10).trans rfl; have k11_w3 : w3.cell? ⟨g, 11, none⟩ = some (.int .i64 a0_11) := (blk_cell HQ3.out 11).trans rfl; have k12_w3 : w3.cell? ⟨g, 12, none⟩ = some (.slice A0_12 l0_12.length c0_12) := (blk_cell HQ3.out 12).trans rfl)) | (go_at_call 8; go_loud (refine (falseworklaw13_Great.calls k a0_0 a0_1 a0_2 a0_3 A0_4 c0_4 l0_4 A0_5 c0_5 l0_5 A0_6 c0_6 l0_6 a0_7 a0_8 a0_9 a0_10 a0_11 A0_12 c0_12 l0_12 false _ (Kd.C_below Q4.out HB1.out) C4.out (Kd.C_below Q5.out HB1.out) C5.out (Kd.C_below Q6.out HB1.out) C6.out (Kd.C_below Q12.out HB1.out) C12.out HG.out).mono ?_; rintro e w2 ⟨rfl, hb⟩; have HQ2 := Aside0.mk (yB HQ1.out hb); have HB2 := Aside0.mk (zS HB1.out hb); clear hb; have k0_w2 : w2.cell? ⟨g, 0, none⟩ = some (.int .i64 a0_0) := (blk_cell HQ2.out 0).trans rfl; have k1_w2 : w2.cell? ⟨g, 1, none⟩ = some (.int .i64 a0_1) := (blk_cell HQ2.out 1).trans rfl; have k2_w2 : w2.cell? ⟨g, 2, none⟩ = some (.int .i64 a0_2) := (blk_cell HQ2.out 2).trans rfl; have k3_w2 : w2.cell? ⟨g, 3, none⟩ = some (.int .i64 a0_3) := (blk_cell HQ2.out 3).trans rfl; have k4_w2 : w2.cell? ⟨g, 4, none⟩ = some (.slice A0_4 l0_4.length c0_4) := (blk_cell HQ2.out 4).trans rfl; have k5_w2 : w2.cell? ⟨g, 5, none⟩ = some (.slice A0_5 l0_5.length c0_5) := (blk_cell HQ2.out 5).trans rfl; have k6_w2 : w2.cell? ⟨g, 6, none⟩ = some (.slice A0_6 l0_6.length c0_6) := (blk_cell HQ2.out 6).trans rfl; have k7_w2 : w2.cell? ⟨g, 7, none⟩ = some (.int .i64 a0_7) := (blk_cell HQ2.out 7).trans rfl; have k8_w2 : w2.cell? ⟨g, 8, none⟩ = some (.int .i64 a0_8) := (blk_cell HQ2.out 8).trans rfl; have k9_w2 : w2.cell? ⟨g, 9, none⟩ = some (.int .i64 a0_9) := (blk_cell HQ2.out 9).trans rfl; have k10_w2 : w2.cell? ⟨g, 10, none⟩ = some (.string a0_10) := (blk_cell HQ2.out 10).trans rfl; have k11_w2 : w2.cell? ⟨g, 11, none⟩ = some (.int .i64 a0_11) := (blk_cell HQ2.out 11).trans rfl; have k12_w2 : w2.cell? ⟨g, 12, none⟩ = some (.slice A0_12 l0_12.length c0_12) := (blk_cell HQ2.out 12).trans rfl)) | ((with_reducible refine gate_dst (N := 1) rfl ?_); (try (refine gate_guard (by rfl) ?_; dsimp only)); refine box_event ?hg (N := 1) ?hd (cs := #[.int .i64 a0_0, .int .i64 a0_1, .int .i64 a0_2, .int .i64 a0_3, .slice A0_4 l0_4.length c0_4, .slice A0_5 l0_5.length c0_5, .slice A0_6 l0_6.length c0_6, .int .i64 a0_7, .int .i64 a0_8, .int .i64 a0_9, .string a0_10, .int .i64 a0_11, .slice A0_12 l0_12.length c0_12]) (t := 27) ?hr ?_; (case hd => rfl); (case hg => rfl); (case hr => first | (go_simp; done) | (go_simp; rfl)); intro g hg w1 hbox hb; have HQ1 := Aside0.mk hbox; have HB1 := Aside0.mk hb; clear hbox hb hg; have k0_w1 : w1.cell? ⟨g, 0, none⟩ = some (.int .i64 a0_0) := (blk_cell HQ1.out 0).trans rfl; have k1_w1 : w1.cell? ⟨g, 1, none⟩ = some (.int .i64 a0_1) := (blk_cell HQ1.out 1).trans rfl; have k2_w1 : w1.cell? ⟨g, 2, none⟩ = some (.int .i64 a0_2) := (blk_cell HQ1.out 2).trans rfl; have k3_w1 : w1.cell? ⟨g, 3, none⟩ = some (.int .i64 a0_3) := (blk_cell HQ1.out 3).trans rfl; have k4_w1 : w1.cell? ⟨g, 4, none⟩ = some (.slice A0_4 l0_4.length c0_4) := (blk_cell HQ1.out 4).trans rfl; have k5_w1 : w1.cell? ⟨g, 5, none⟩ = some (.slice A0_5 l0_5.length c0_5) := (blk_cell HQ1.out 5).trans rfl; have k6_w1 : w1.cell? ⟨g, 6, none⟩ = some (.slice A0_6 l0_6.length c0_6) := (blk_cell HQ1.out 6).trans rfl; have k7_w1 : w1.cell? ⟨g, 7, none⟩ = some (.int .i64 a0_7) := (blk_cell HQ1.out 7).trans rfl; have k8_w1 : w1.cell? ⟨g, 8, none⟩ = some (.int .i64 a0_8) := (blk_cell HQ1.out 8).trans rfl; have k9_w1 : w1.cell? ⟨g, 9, none⟩ = some (.int .i64 a0_9) := (blk_cell HQ1.out 9).trans rfl; have k10_w1 : w1.cell? ⟨g, 10, none⟩ = some (.string a0_10) := (blk_cell HQ1.out 10).trans rfl; have k11_w1 : w1.cell? ⟨g, 11, none⟩ = some (.int .i64 a0_11) := (blk_cell HQ1.out 11).trans rfl; have k12_w1 : w1.cell? ⟨g, 12, none⟩ = some (.slice A0_12 l0_12.length c0_12) := (blk_cell HQ1.out 12).trans rfl))
 obtain ⟨g6, h6⟩ := falseworklaw13_CmdBack.S6_of H2.out.r6
 obtain ⟨g12, arr, h12⟩ := falseworklaw13_CmdBack.H12_of H2.out.r12
 have E6 := Aside0.mk (fun hn => (h6 hn).1)
 have E12 := Aside0.mk (fun hn => (h12 hn).1)
 have M0 := Aside0.mk (show falseworklaw13_CmdBack.Mu g B g6 g12 d.l6.length d.l12.length arr #[.int .i64 a0_0, .int .i64 a0_1, .int .i64 a0_2, .int .i64 a0_3, .slice A0_4 l0_4.length c0_4, .slice A0_5 l0_5.length c0_5, .slice A0_6 l0_6.length c0_6, .int .i64 a0_7, .int .i64 a0_8, .int .i64 a0_9, .string a0_10, .int .i64 a0_11, .slice A0_12 l0_12.length c0_12] #[.int .i64 d.a0, .int .i64 d.a1, .int .i64 d.a2, .int .i64 d.a3, .slice A4 d.l4.length c4, .slice A5 d.l5.length c5, .slice A6 d.l6.length c6, .int .i64 d.a7, .int .i64 d.a8, .int .i64 d.a9, .string d.a10, .int .i64 d.a11, .slice A12 d.l12.length c12] w w8 from ⟨H2.out.below, HQ8.out, H2.out.blk, fun hn => (h6 hn).2, fun hn => (h12 hn).2⟩)
 have X6 := Aside0.mk (Kd.C_max (Kd.R_reads' H2.out.r6).2.2)
 have X12 := Aside0.mk (Kd.C_max (Kd.R_reads' H2.out.r12).2.2)
 clear h6 h12
 go_loopw [8] (fun vi wr => ∃ x : Int, 0 ≤ x ∧ x ≤ (d.l6.length : Int) ∧ vi = .int .i64 x ∧ Aside0 (falseworklaw13_CmdBack.Mu g B g6 g12 d.l6.length d.l12.length arr #[.int .i64 a0_0, .int .i64 a0_1, .int .i64 a0_2, .int .i64 a0_3, .slice A0_4 l0_4.length c0_4, .slice A0_5 l0_5.length c0_5, .slice A0_6 l0_6.length c0_6, .int .i64 a0_7, .int .i64 a0_8, .int .i64 a0_9, .string a0_10, .int .i64 a0_11, .slice A0_12 l0_12.length c0_12] #[.int .i64 d.a0, .int .i64 d.a1, .int .i64 d.a2, .int .i64 d.a3, .slice A4 d.l4.length c4, .slice A5 d.l5.length c5, .slice A6 d.l6.length c6, .int .i64 d.a7, .int .i64 d.a8, .int .i64 d.a9, .string d.a10, .int .i64 d.a11, .slice A12 d.l12.length c12] w wr)) (fun v _ => d.l6.length - (intOf v).toNat)
 case atStart => exact ⟨0, by omega, by omega, rfl, M0⟩
 case round =>
  obtain ⟨x, h0, h8, rfl, HM⟩ := hrel
  have b6_wr : wr.cell? ⟨B, 6, none⟩ = some (.slice A6 d.l6.length c6) := (blk_cell HM.out.d 6).trans rfl
  by_cases hlt : x < (d.l6.length : Int)
  ·have q3 : decide (x < (d.l6.length : Int)) = true := decide_eq_true hlt
   have p6 := eq_true h0
   have q6 := eq_true hlt
   have e6 := E6.out (show 0 < d.l6.length by omega)
   cases e6
   obtain ⟨hge, ar6, hh6, hs6⟩ := HM.out.s6 (show 0 < d.l6.length by omega)
   have hin : x.toNat * 3 < ar6.size := by omega
   obtain ⟨u0, hu0⟩ : ∃ u, ar6[x.toNat * 3]? = some u := ⟨_, Array.getElem?_eq_getElem hin⟩
   have y0 : wr.cell? ⟨g6, x.toNat * 3, none⟩ = some u0 := (blk_cell hh6 _).trans hu0
   have z0 := blk_frozen hh6 (x.toNat * 3)
   have HM2 := Aside0.mk (HM.out.set hge hh6 (by decide) (by decide) (x.toNat * 3) (.string (⟨#[63]⟩ : ByteArray)))
   obtain ⟨s1, hs1⟩ : ∃ s, wrap64 (x + 1) = s := ⟨_, rfl⟩
   have T1 := Aside0.mk (show s1 = x + 1 by have := X6.out; rw [← hs1]; unfold wrap64; omega)
   have TX := Aside0.mk (And.intro h0 hlt)
   clear hlt hh6 hs6 hin hge hu0
   go_wp2
   go_roundw
   case rel => exact ⟨s1, by rw [T1.out]; have := TX.out; clear hs1; omega, by rw [T1.out]; have := TX.out; clear hs1; omega, by rw [hs1], HM2⟩
   case measure => rw [hs1, T1.out]; have := TX.out; clear hs1; show d.l6.length - (x + 1).toNat < d.l6.length - x.toNat; omega
  ·have q3 : decide (x < (d.l6.length : Int)) = false := decide_eq_false hlt
   have M1 := HM
   clear hlt
   go_wp2
   go_loopw [9] (fun vi wr => ∃ y : Int, 0 ≤ y ∧ y ≤ (d.l12.length : Int) ∧ vi = .int .i64 y ∧ Aside0 (falseworklaw13_CmdBack.Mu g B g6 g12 d.l6.length d.l12.length arr #[.int .i64 a0_0, .int .i64 a0_1, .int .i64 a0_2, .int .i64 a0_3, .slice A0_4 l0_4.length c0_4, .slice A0_5 l0_5.length c0_5, .slice A0_6 l0_6.length c0_6, .int .i64 a0_7, .int .i64 a0_8, .int .i64 a0_9, .string a0_10, .int .i64 a0_11, .slice A0_12 l0_12.length c0_12] #[.int .i64 d.a0, .int .i64 d.a1, .int .i64 d.a2, .int .i64 d.a3, .slice A4 d.l4.length c4, .slice A5 d.l5.length c5, .slice A6 d.l6.length c6, .int .i64 d.a7, .int .i64 d.a8, .int .i64 d.a9, .string d.a10, .int .i64 d.a11, .slice A12 d.l12.length c12] w wr)) (fun v _ => d.l12.length - (intOf v).toNat)
   case atStart => exact ⟨0, by omega, by omega, rfl, M1⟩
   case round =>
    obtain ⟨y, h0, h8, rfl, HM⟩ := hrel
    have b12_wr : wr.cell? ⟨B, 12, none⟩ = some (.slice A12 d.l12.length c12) := (blk_cell HM.out.d 12).trans rfl
    by_cases hlt : y < (d.l12.length : Int)
    ·have q4 : decide (y < (d.l12.length : Int)) = true := decide_eq_true hlt
     have p7 := eq_true h0
     have q7 := eq_true hlt
     have e12 := E12.out (show 0 < d.l12.length by omega)
     cases e12
     obtain ⟨-, hh12, hall⟩ := HM.out.h12 (show 0 < d.l12.length by omega)
     obtain ⟨Av, m, cv, hav, hmx, -⟩ := hall y.toNat (by omega)
     have HAV := Aside0.mk hav
     have HMX := Aside0.mk hmx
     obtain ⟨s1, hs1⟩ : ∃ s, wrap64 (y + 1) = s := ⟨_, rfl⟩
     have T1 := Aside0.mk (show s1 = y + 1 by have := X12.out; rw [← hs1]; unfold wrap64; omega)
     have TX := Aside0.mk (And.intro h0 hlt)
     have TP := Aside0.mk (show 0 < d.l12.length by omega)
     clear hlt hh12 hall hav hmx
     go_wp2
     go_loopw [10] (fun vi wr => ∃ z : Int, 0 ≤ z ∧ z ≤ (m : Int) ∧ vi = .int .i64 z ∧ Aside0 (falseworklaw13_CmdBack.Mu g B g6 g12 d.l6.length d.l12.length arr #[.int .i64 a0_0, .int .i64 a0_1, .int .i64 a0_2, .int .i64 a0_3, .slice A0_4 l0_4.length c0_4, .slice A0_5 l0_5.length c0_5, .slice A0_6 l0_6.length c0_6, .int .i64 a0_7, .int .i64 a0_8, .int .i64 a0_9, .string a0_10, .int .i64 a0_11, .slice A0_12 l0_12.length c0_12] #[.int .i64 d.a0, .int .i64 d.a1, .int .i64 d.a2, .int .i64 d.a3, .slice A4 d.l4.length c4, .slice A5 d.l5.length c5, .slice A6 d.l6.length c6, .int .i64 d.a7, .int .i64 d.a8, .int .i64 d.a9, .string d.a10, .int .i64 d.a11, .slice (some ⟨g12, 0, none⟩) d.l12.length c12] w wr)) (fun v _ => m - (intOf v).toNat)
     case atStart => exact ⟨0, by omega, by omega, rfl, HM⟩
     case round =>
      obtain ⟨z, i0, i8, rfl, HM⟩ := hrel
      have b12_wr : wr.cell? ⟨B, 12, none⟩ = some (.slice (some ⟨g12, 0, none⟩) d.l12.length c12) := (blk_cell HM.out.d 12).trans rfl
      obtain ⟨-, hh12, hall⟩ := HM.out.h12 TP.out
      have c12_wr : wr.cell? ⟨g12, y.toNat, none⟩ = some (.slice Av m cv) := (blk_cell hh12 _).trans HAV.out
      by_cases hlt : z < (m : Int)
      ·have q5 : decide (z < (m : Int)) = true := decide_eq_true hlt
       have p8 := eq_true i0
       have q8 := eq_true hlt
       obtain ⟨Av2, m2, cv2, hav2, -, hsv⟩ := hall y.toNat (by have := TX.out; clear hs1; omega)
       obtain ⟨rfl, rfl, rfl⟩ : Av = Av2 ∧ m = m2 ∧ cv = cv2 := by
        have e := HAV.out.symm.trans hav2
        injection e with e
        injection e with e1 e2 e3
        exact ⟨e1, e2, e3⟩
       obtain ⟨gv, av, ev, hge, hhv, hsz⟩ := hsv (by clear hs1; omega)
       cases ev
       have hin : z.toNat * 4 < av.size := by clear hs1; omega
       obtain ⟨u0, hu0⟩ : ∃ u, av[z.toNat * 4]? = some u := ⟨_, Array.getElem?_eq_getElem hin⟩
       have y0 : wr.cell? ⟨gv, z.toNat * 4, none⟩ = some u0 := (blk_cell hhv _).trans hu0
       have z0 := blk_frozen hhv (z.toNat * 4)
       have HM2 := Aside0.mk (HM.out.set hge hhv (by decide) (by decide) (z.toNat * 4) (.int .i64 9))
       obtain ⟨s2, hs2⟩ : ∃ s, wrap64 (z + 1) = s := ⟨_, rfl⟩
       have T2 := Aside0.mk (show s2 = z + 1 by have := HMX.out; clear hs1; rw [← hs2]; unfold wrap64; omega)
       have TZ := Aside0.mk (And.intro i0 hlt)
       clear hlt hh12 hall hhv hsz hin hge hav2 hsv hs1 hu0
       go_wp2
       go_roundw
       case rel => exact ⟨s2, by rw [T2.out]; have := TZ.out; clear hs2; omega, by rw [T2.out]; have := TZ.out; clear hs2; omega, by rw [hs2], HM2⟩
       case measure => rw [hs2, T2.out]; have := TZ.out; clear hs2; show m - (z + 1).toNat < m - z.toNat; omega
      ·have q5 : decide (z < (m : Int)) = false := decide_eq_false hlt
       clear hlt hh12 hall
       go_wp2
       go_roundw
       case rel => exact ⟨s1, by rw [T1.out]; have := TX.out; clear hs1; omega, by rw [T1.out]; have := TX.out; clear hs1; omega, by rw [hs1], HM⟩
       case measure => rw [hs1, T1.out]; have := TX.out; clear hs1; show d.l12.length - (y + 1).toNat < d.l12.length - y.toNat; omega
    ·have q4 : decide (y < (d.l12.length : Int)) = false := decide_eq_false hlt
     have HMB := Aside0.mk HM.out.below
     clear hlt
     go_wp2_with (first | (go_at_call 11; go_loud (refine (falseworklaw13_awake.calls k r _ HA.out).mono ?_; rintro e wd ⟨rfl, hb⟩; have H5 := Aside0.mk (H4.out.go hb); clear hb)) | (go_at_call 16; go_loud (refine (falseworkref6_SameCmd.calls k a0_0 a0_1 a0_2 a0_3 A0_4 c0_4 l0_4 A0_5 c0_5 l0_5 A0_6 c0_6 l0_6 a0_7 a0_8 a0_9 a0_10 a0_11 A0_12 c0_12 l0_12 d.a0 d.a1 d.a2 d.a3 A4y c4y d.l4 A5y c5y d.l5 A6y c6y d.l6 d.a7 d.a8 d.a9 d.a10 d.a11 A12y c12y d.l12 true _ (Kd.C_below Q4.out H3.out.below) C4.out (Kd.C_below Q5.out H3.out.below) C5.out (Kd.C_below Q6.out H3.out.below) C6.out (Kd.C_below Q12.out H3.out.below) C12.out (Kd.R_reads' H3.out.r4).2.2 H3.out.h4 (Kd.R_reads' H3.out.r5).2.2 H3.out.h5 (Kd.R_reads' H3.out.r6).2.2 H3.out.h6 (Kd.R_reads' H3.out.r12).2.2 H3.out.h12 HSC.out).mono ?_; rintro e wc ⟨rfl, hb⟩; have H4 := Aside0.mk (H3.out.go hb); clear hb)) | ((with_reducible refine gate_dst (N := 11) rfl ?_); (try (refine gate_guard (by rfl) ?_; dsimp only)); go_loud (refine box_event ?hg (N := 11) ?hd (cs := #[.int .i64 0, .int .i64 0, .int .i64 0, .int .i64 0, .slice none 0 0, .slice none 0 0, .slice none 0 0, .int .i64 0, .int .i64 0, .int .i64 0, .string (⟨#[]⟩ : ByteArray), .int .i64 0, .slice none 0 0]) (t := 27) ?hr ?_; (case hd => rfl); (case hg => rfl); (case hr => first | (go_simp; done) | (go_simp; rfl)); intro By hg wb hbox hb; have H3 := Aside0.mk (cmd_Get.Hd.make (c := d) HBGy.out HR4y.out HH4y.out HR5y.out HH5y.out HR6y.out HH6y.out HR12y.out HH12y.out hg hbox hb); have o0_wbBy : wb.cell? ⟨By, 0, none⟩ = some (.int .i64 0) := (blk_cell hbox 0).trans rfl; have o1_wbBy : wb.cell? ⟨By, 1, none⟩ = some (.int .i64 0) := (blk_cell hbox 1).trans rfl; have o2_wbBy : wb.cell? ⟨By, 2, none⟩ = some (.int .i64 0) := (blk_cell hbox 2).trans rfl; have o3_wbBy : wb.cell? ⟨By, 3, none⟩ = some (.int .i64 0) := (blk_cell hbox 3).trans rfl; have o4_wbBy : wb.cell? ⟨By, 4, none⟩ = some (.slice none 0 0) := (blk_cell hbox 4).trans rfl; have o5_wbBy : wb.cell? ⟨By, 5, none⟩ = some (.slice none 0 0) := (blk_cell hbox 5).trans rfl; have o6_wbBy : wb.cell? ⟨By, 6, none⟩ = some (.slice none 0 0) := (blk_cell hbox 6).trans rfl; have o7_wbBy : wb.cell? ⟨By, 7, none⟩ = some (.int .i64 0) := (blk_cell hbox 7).trans rfl; have o8_wbBy : wb.cell? ⟨By, 8, none⟩ = some (.int .i64 0) := (blk_cell hbox 8).trans rfl; have o9_wbBy : wb.cell? ⟨By, 9, none⟩ = some (.int .i64 0) := (blk_cell hbox 9).trans rfl; have o10_wbBy : wb.cell? ⟨By, 10, none⟩ = some (.string (⟨#[]⟩ : ByteArray)) := (blk_cell hbox 10).trans rfl; have o11_wbBy : wb.cell? ⟨By, 11, none⟩ = some (.int .i64 0) := (blk_cell hbox 11).trans rfl; have o12_wbBy : wb.cell? ⟨By, 12, none⟩ = some (.slice none 0 0) := (blk_cell hbox 12).trans rfl; have p0_wbBy := blk_frozen hbox 0; have p1_wbBy := blk_frozen hbox 1; have p2_wbBy := blk_frozen hbox 2; have p3_wbBy := blk_frozen hbox 3; have p4_wbBy := blk_frozen hbox 4; have p5_wbBy := blk_frozen hbox 5; have p6_wbBy := blk_frozen hbox 6; have p7_wbBy := blk_frozen hbox 7; have p8_wbBy := blk_frozen hbox 8; have p9_wbBy := blk_frozen hbox 9; have p10_wbBy := blk_frozen hbox 10; have p11_wbBy := blk_frozen hbox 11; have p12_wbBy := blk_frozen hbox 12; have HQa := Aside0.mk (falseworklaw13_CmdBack.oth13 (yB HQ9.out hb) (show g ≠ By by rw [hg]; have := blk_lt HQ9.out; omega) (.int .i64 d.a0) (.int .i64 d.a1) (.int .i64 d.a2) (.int .i64 d.a3) (.slice A4y d.l4.length c4y) (.slice A5y d.l5.length c5y) (.slice A6y d.l6.length c6y) (.int .i64 d.a7) (.int .i64 d.a8) (.int .i64 d.a9) (.string d.a10) (.int .i64 d.a11) (.slice A12y d.l12.length c12y)); have gne := (show g ≠ By by rw [hg]; have := blk_lt HQ9.out; omega); have gne2 := Ne.symm gne; have o0_q : wb.cell? ⟨g, 0, none⟩ = some (.int .i64 a0_0) := (blk_cell (yB HQ9.out hb) 0).trans rfl; have o1_q : wb.cell? ⟨g, 1, none⟩ = some (.int .i64 a0_1) := (blk_cell (yB HQ9.out hb) 1).trans rfl; have o2_q : wb.cell? ⟨g, 2, none⟩ = some (.int .i64 a0_2) := (blk_cell (yB HQ9.out hb) 2).trans rfl; have o3_q : wb.cell? ⟨g, 3, none⟩ = some (.int .i64 a0_3) := (blk_cell (yB HQ9.out hb) 3).trans rfl; have o4_q : wb.cell? ⟨g, 4, none⟩ = some (.slice A0_4 l0_4.length c0_4) := (blk_cell (yB HQ9.out hb) 4).trans rfl; have o5_q : wb.cell? ⟨g, 5, none⟩ = some (.slice A0_5 l0_5.length c0_5) := (blk_cell (yB HQ9.out hb) 5).trans rfl; have o6_q : wb.cell? ⟨g, 6, none⟩ = some (.slice A0_6 l0_6.length c0_6) := (blk_cell (yB HQ9.out hb) 6).trans rfl; have o7_q : wb.cell? ⟨g, 7, none⟩ = some (.int .i64 a0_7) := (blk_cell (yB HQ9.out hb) 7).trans rfl; have o8_q : wb.cell? ⟨g, 8, none⟩ = some (.int .i64 a0_8) := (blk_cell (yB HQ9.out hb) 8).trans rfl; have o9_q : wb.cell? ⟨g, 9, none⟩ = some (.int .i64 a0_9) := (blk_cell (yB HQ9.out hb) 9).trans rfl; have o10_q : wb.cell? ⟨g, 10, none⟩ = some (.string a0_10) := (blk_cell (yB HQ9.out hb) 10).trans rfl; have o11_q : wb.cell? ⟨g, 11, none⟩ = some (.int .i64 a0_11) := (blk_cell (yB HQ9.out hb) 11).trans rfl; have o12_q : wb.cell? ⟨g, 12, none⟩ = some (.slice A0_12 l0_12.length c0_12) := (blk_cell (yB HQ9.out hb) 12).trans rfl; clear hbox hb hg)) | (go_at_call 15; go_loud (refine (cmd_Get.calls k p d 0 _ HQG.out).mono ?_; rintro e wa ⟨v, rfl, hret, hB⟩; obtain ⟨v4, v5, v6, v12, rfl, r4, r5, r6, r12⟩ := hret; dsimp only; obtain ⟨A4y, c4y, rfl, h4, -⟩ := Kd.R_reads r4; obtain ⟨A5y, c5y, rfl, h5, -⟩ := Kd.R_reads r5; obtain ⟨A6y, c6y, rfl, h6, -⟩ := Kd.R_reads r6; obtain ⟨A12y, c12y, rfl, h12, -⟩ := Kd.R_reads r12; have HR4y := Aside0.mk (Kd.R_lower r4 HMB.out.size); have HH4y := Aside0.mk h4; have HR5y := Aside0.mk (Kd.R_lower r5 HMB.out.size); have HH5y := Aside0.mk h5; have HR6y := Aside0.mk (Kd.R_lower r6 HMB.out.size); have HH6y := Aside0.mk h6; have HR12y := Aside0.mk (Kd.R_lower r12 HMB.out.size); have HH12y := Aside0.mk h12; have HQ9 := Aside0.mk (yB HM.out.q hB); have HBGy := Aside0.mk (zS HMB.out hB); clear hB r4 r5 r6 r12 h4 h5 h6 h12)))
     go_ret
     exact ⟨rfl, H5.out.below⟩
theorem falseworklaw13_CmdBack.calls (k : Nat) (a0_0 : Int) (a0_1 : Int) (a0_2 : Int) (a0_3 : Int) (A0_4 : Option Addr) (c0_4 : Nat) (l0_4 : List ByteArray) (A0_5 : Option Addr) (c0_5 : Nat) (l0_5 : List (S50)) (A0_6 : Option Addr) (c0_6 : Nat) (l0_6 : List (S41)) (a0_7 : Int) (a0_8 : Int) (a0_9 : Int) (a0_10 : ByteArray) (a0_11 : Int) (A0_12 : Option Addr) (c0_12 : Nat) (l0_12 : List (List (S45))) (r : Bool) (w : World) (hr0_4 : Kd.C Kd.string w A0_4 l0_4.length l0_4) (hc0_4 : l0_4.length ≤ c0_4) (hr0_5 : Kd.C k50 w A0_5 l0_5.length l0_5) (hc0_5 : l0_5.length ≤ c0_5) (hr0_6 : Kd.C k41 w A0_6 l0_6.length l0_6) (hc0_6 : l0_6.length ≤ c0_6) (hr0_12 : Kd.C (Kd.slice 45 k45) w A0_12 l0_12.length l0_12) (hc0_12 : l0_12.length ≤ c0_12) (h : falseworklaw13_CmdBack.f k a0_0 a0_1 a0_2 a0_3 l0_4 l0_5 l0_6 a0_7 a0_8 a0_9 a0_10 a0_11 l0_12 = some r) :
  Calls Try.prog 6 #[.agg #[.int .i64 a0_0, .int .i64 a0_1, .int .i64 a0_2, .int .i64 a0_3, .slice A0_4 l0_4.length c0_4, .slice A0_5 l0_5.length c0_5, .slice A0_6 l0_6.length c0_6, .int .i64 a0_7, .int .i64 a0_8, .int .i64 a0_9, .string a0_10, .int .i64 a0_11, .slice A0_12 l0_12.length c0_12]] w fun e w' => e = .returned (.bool r) ∧ Below w.heap.size w w' := by
 unfold falseworklaw13_CmdBack.f at h
 obtain ⟨g, hg, h⟩ := Option.bind_eq_some_iff.mp h
 cases g
 rotate_left
 ·exact falseworklaw13_CmdBack.walk0 k a0_0 a0_1 a0_2 a0_3 A0_4 c0_4 l0_4 A0_5 c0_5 l0_5 A0_6 c0_6 l0_6 a0_7 a0_8 a0_9 a0_10 a0_11 A0_12 c0_12 l0_12 r w hr0_4 hc0_4 hr0_5 hc0_5 hr0_6 hc0_6 hr0_12 hc0_12 hg h
 rw [if_neg (by decide)] at h
 obtain ⟨⟨p, p2⟩, hp, h⟩ := Option.bind_eq_some_iff.mp h
 dsimp only at h
 by_cases c2 : p2 = 0
 rotate_left
 ·rw [if_neg c2] at h
  by_cases c3 : p.toList = []
  ·rw [if_pos c3] at h
   exact falseworklaw13_CmdBack.walk1 k a0_0 a0_1 a0_2 a0_3 A0_4 c0_4 l0_4 A0_5 c0_5 l0_5 A0_6 c0_6 l0_6 a0_7 a0_8 a0_9 a0_10 a0_11 A0_12 c0_12 l0_12 r w hr0_4 hc0_4 hr0_5 hc0_5 hr0_6 hc0_6 hr0_12 hc0_12 hg p p2 hp c2 c3 h
  ·rw [if_neg c3] at h; cases h
 subst c2
 rw [if_pos rfl] at h
 obtain ⟨⟨d, e0⟩, hq, h⟩ := Option.bind_eq_some_iff.mp h
 dsimp only at h
 by_cases c5 : e0 = 0
 rotate_left
 ·rw [if_neg c5] at h; cases h
 subst c5
 rw [if_pos rfl] at h
 obtain ⟨b, hs, h⟩ := Option.bind_eq_some_iff.mp h
 cases b
 ·cases h
 rw [if_pos rfl] at h
 exact falseworklaw13_CmdBack.walk2 k a0_0 a0_1 a0_2 a0_3 A0_4 c0_4 l0_4 A0_5 c0_5 l0_5 A0_6 c0_6 l0_6 a0_7 a0_8 a0_9 a0_10 a0_11 A0_12 c0_12 l0_12 r w hr0_4 hc0_4 hr0_5 hc0_5 hr0_6 hc0_6 hr0_12 hc0_12 hg p hp d hq hs h

end Go.Proofs.Ytikiegglebgmpaa.PA
