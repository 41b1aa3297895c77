/- Contracts of the Go functions of this seat: what each call returns is what a Lean function of its arguments says; each theorem bears its own conditions. Written by a program of this session (wip/tools/mkprint.py). -/
import Derived.Test.YtebfilljdnhccaaRBx0
import Derived.Test.YtebfilljdnhccaaRBx2
import Derived.Test.YtebfilljdnhccaaRBx7
namespace Go.Proofs.Ytebfilljdnhccaa.PA
open Go.RowKit Go.Proofs.YtebfilljdnhccaaW.PrintWords Go.Proofs.YtebfilljdnhccaaW.PrintLast Go.Proofs.YtebfilljdnhccaaW.PrintMore
attribute [local go_sem] max2_int min2_int max_two min_two max_three min_three max_four min_four   -- for this text's walks alone
set_option linter.unusedVariables false
set_option linter.unusedSimpArgs false

attribute [local go_sem high] eqA46
attribute [local go_sem ↓ high] unary_xor_u64 ux_if_u64
attribute [local go_sem] str_gtr str_leq str_geq
/-! ### row_Get: function 17 -/
def row_Get.l0 : Nat → ByteArray → List (S46) → Int → Option ((List (S46)) × Int)
  | 0, _, _, _ => none
  | k + 1, s, xs, last => if s.toList = ([] : List UInt8) then (some (xs, 0)) else (if s.size = 1 then (some (([] : List (S46)), 3)) else ((value_Get.f k (s.extract 2 s.size)).bind fun b => (if b.2.2.2.2.2 = 0 then (if (Go.bits .or .i64 (wrap64 ((wrap64 (bt s 0)) * 256)) (wrap64 (bt s 1))) ≤ last then (some (([] : List (S46)), 3)) else (if 0 ≤ wrap64 (2 + b.2.2.2.2.1) ∧ wrap64 (2 + b.2.2.2.2.1) ≤ (s.size : Int) ∧ xs.length < 2932031007402 then (row_Get.l0 k (s.extract (wrap64 (2 + b.2.2.2.2.1)).toNat s.size) (xs ++ [(⟨Go.bits .or .i64 (wrap64 ((wrap64 (bt s 0)) * 256)) (wrap64 (bt s 1)), (⟨b.1, b.2.1, b.2.2.1, b.2.2.2.1⟩ : S44)⟩ : S46)]) (Go.bits .or .i64 (wrap64 ((wrap64 (bt s 0)) * 256)) (wrap64 (bt s 1)))) else (none))) else (some (([] : List (S46)), 3)))))
def row_Get.f (k : Nat) (a0 : ByteArray) : Option ((List (S46)) × Int) := row_Get.l0 k a0 ([] : List (S46)) 0
theorem row_Get.shape {w : World} {base : Nat} {v : Value} {xs : List S46} (h : Kd.R k46 46 w base (fun _ => True) v xs) : ∃ a n c, v = .slice a n c := by
  obtain ⟨_, inner, ho, _⟩ := h
  rcases ho.2 with ⟨h, _⟩ | ⟨g, cap, cur, h, _⟩
  · exact ⟨_, _, _, h⟩
  · exact ⟨_, _, _, h⟩
theorem row_Get.mono_l : ∀ k, (∀ y0 y1 y2, LeO (row_Get.l0 k y0 y1 y2) (row_Get.l0 (k + 1) y0 y1 y2))
  | 0 => fun _ _ _ r h => by simp [row_Get.l0] at h
  | k + 1 => by
    have ih0 := row_Get.mono_l k
    · intro y0 y1 y2
      unfold row_Get.l0
      repeat' first
      | (with_reducible exact ih0 _ _ _)
      | (with_reducible exact value_Get.mono _ _)
      | (with_reducible exact LeO.refl _)
      | (with_reducible exact LeO.none _)
      | (with_reducible refine LeO.ite ?_ ?_)
      | (with_reducible refine LeO.bind ?_ (fun _ => ?_))
      | exact ih0 _ _ _
      | exact value_Get.mono _ _
      | exact LeO.none _
      | refine LeO.ite ?_ ?_
      | refine LeO.bind ?_ (fun _ => ?_)
theorem row_Get.mono : ∀ a0 k, LeO (row_Get.f k a0) (row_Get.f (k + 1) a0) := fun a0 k => row_Get.mono_l k _ _ _
theorem row_Get.catch_panicking (p q : Addr) (x : Value) (y : Int) (u : TypeId) (pv : Value) (older : List PanicEntry) (w : World) (hc : w.cell? p = some x) (hz : w.frozen? p = false) (hc2 : w.cell? q = some (.int .i64 y)) (hz2 : w.frozen? q = false) (hpq : p.block ≠ q.block) :
    CallsD Try.prog 28 #[.pointer (some p), .pointer (some q)] (.panicking ({ v := .iface u pv, recovered := false } :: older)) w fun e u' w' =>
      e = .returned (.tuple #[]) ∧ u' = .panicking ({ v := .iface u pv, recovered := true } :: older) ∧ w' = (w.setCell p (.slice none 0 0)).setCell q (.int .i64 3) := by
  refine callsD_of_wpS Try.func28 rfl fun c₀ cs hu => ?_
  apply wpS_seq
  apply wpS_region
  simp [wpOpsS, go_sem, recoverD, hu, Try.ntmps28, Exit.thenS]
  refine wpS_cond (t := true) (by simp [Act.eval, Array.replicate]) ?_
  simp only [if_true]
  apply wpS_region
  have hc3 : (w.setCell p (.slice none 0 0)).cell? q = some (.int .i64 y) := (World.cell?_setCell_other _ _ _ _ (by intro h; exact hpq (by rw [h]))).trans hc2
  simp [wpOpsS, go_sem, hc, hz, hz2, hc3, bodyPostS, results, Try.results28]
theorem row_Get.catch_idle (p q : Addr) (w : World) :
    CallsD Try.prog 28 #[.pointer (some p), .pointer (some q)] .returning w fun e u' w' => e = .returned (.tuple #[]) ∧ u' = .returning ∧ w' = w := by
  refine callsD_of_wpS Try.func28 rfl fun c₀ cs hu => ?_
  apply wpS_seq
  apply wpS_region
  simp [wpOpsS, go_sem, recoverD, hu, Try.ntmps28, Exit.thenS]
  refine wpS_cond (t := false) (by simp [Act.eval, Array.replicate]) ?_
  simp only [Bool.false_eq_true, if_false]
  refine wpS_of_wp (wp_skip ?_)
  cases c₀
  simp_all [bodyPostS, results, Try.results28]
theorem row_Get.bounds {α : Type} (P : Program) (w : World) : ∃ s, (boundsPanic .i64 1 1 .index : Sem α).run P w = .halt (.panic (boundsValue P 1 1 s 0)) w.drew := by
  unfold boundsPanic boundsValue
  simp [runtimePanic, goPanic, go_sem, IntKind.wrap]
  rfl
theorem row_Get.read {tmps : Array Value} {W : World} {B : Nat} {a : Option Addr} {n c : Nat} {y : Int} (h2 : tmps[2]? = some (.pointer (some ⟨B, 0, none⟩))) (h3 : tmps[3]? = some (.pointer (some ⟨B + 1, 0, none⟩)))
    (c1 : W.heap[B]? = some (.cells #[.slice a n c] 22 (0, 0))) (c2 : W.heap[B + 1]? = some (.cells #[.int .i64 y] 25 (0, 0))) : (results Try.f17 tmps).run Try.prog W = .ok (.tuple #[.slice a n c, .int .i64 y]) W := by
  have z1 : W.cell? ⟨B, 0, none⟩ = some (.slice a n c) := (blk_cell c1 0).trans rfl
  have z2 : W.cell? ⟨B + 1, 0, none⟩ = some (.int .i64 y) := (blk_cell c2 0).trans rfl
  obtain ⟨l2, e2⟩ := Array.getElem?_eq_some_iff.1 h2
  obtain ⟨l3, e3⟩ := Array.getElem?_eq_some_iff.1 h3
  simp [results, Try.results17, go_sem, z1, z2, h2, h3]
theorem row_Get.door {tmps : Array Value} {ds : List Deferred} {W : World} {B : Nat} {a : Option Addr} {n c : Nat} {y : Int} {R : Ending → World → Prop} (h2 : tmps[2]? = some (.pointer (some ⟨B, 0, none⟩))) (h3 : tmps[3]? = some (.pointer (some ⟨B + 1, 0, none⟩)))
    (hd : ds = [{ target := .fn (.func 28) #[.pointer (some ⟨B, 0, none⟩), .pointer (some ⟨B + 1, 0, none⟩)], args := #[] }])
    (c1 : W.heap[B]? = some (.cells #[.slice a n c] 22 (0, 0))) (c2 : W.heap[B + 1]? = some (.cells #[.int .i64 y] 25 (0, 0))) (h : R (.returned (.tuple #[.slice a n c, .int .i64 y])) W) :
    bodyPostD Try.prog Try.f17 R Exit.ret { tmps := tmps, defers := ds } W := by
  subst hd
  refine leaves_cons (f := 28) (args := #[.pointer (some ⟨B, 0, none⟩), .pointer (some ⟨B + 1, 0, none⟩)]) (by simp) (by simp [go_sem]) ?_
  refine (row_Get.catch_idle _ _ _).mono ?_
  rintro e u' w'' ⟨rfl, rfl, rfl⟩
  exact ⟨_, row_Get.read h2 h3 c1 c2, h⟩
def row_Get.dead (B : Nat) (W : World) : Exit → Act → World → Prop
  | .panic c, a, w => (∃ s, c = [{ v := boundsValue Try.prog 1 1 s 0, recovered := false }]) ∧ a.tmps[2]? = some (.pointer (some ⟨B, 0, none⟩)) ∧ a.tmps[3]? = some (.pointer (some ⟨B + 1, 0, none⟩)) ∧ a.defers = [{ target := .fn (.func 28) #[.pointer (some ⟨B, 0, none⟩), .pointer (some ⟨B + 1, 0, none⟩)], args := #[] }] ∧ w = W.drew.drew
  | _, _, _ => False
theorem row_Get.dead_put (B : Nat) (W : World) (n : Nat) (hn : 4 ≤ n) (v : Value) : ∀ c a w, row_Get.dead B W (.panic c) (a.put (some n) v) w → row_Get.dead B W (.panic c) a w := by
  intro c a w hd
  obtain ⟨h1, h2, h3, h4, h5⟩ := hd
  have e2 : n ≠ 2 := by omega
  have e3 : n ≠ 3 := by omega
  refine ⟨h1, ?_, ?_, h4, h5⟩
  · rw [← h2]; simp [Act.put, e2]
  · rw [← h3]; simp [Act.put, e3]
theorem row_Get.buried {B : Nat} {W : World} {a : Option Addr} {n c : Nat} {y : Int} {R : Ending → World → Prop}
    (c1 : W.heap[B]? = some (.cells #[.slice a n c] 22 (0, 0))) (c2 : W.heap[B + 1]? = some (.cells #[.int .i64 y] 25 (0, 0)))
    (h : R (.returned (.tuple #[.slice none 0 0, .int .i64 3])) ((W.drew.drew.setCell ⟨B, 0, none⟩ (.slice none 0 0)).setCell ⟨B + 1, 0, none⟩ (.int .i64 3))) :
    ∀ e act w, row_Get.dead B W e act w → bodyPostD Try.prog Try.f17 R e act w := by
  rintro e ⟨tmps, ds⟩ w hd
  cases e with
  | panic ch =>
    obtain ⟨⟨s, rfl⟩, h2, h3, rfl, rfl⟩ := hd
    refine leaves_cons (f := 28) (args := #[.pointer (some ⟨B, 0, none⟩), .pointer (some ⟨B + 1, 0, none⟩)]) (by simp) (by simp [go_sem]) ?_
    have k1 : W.drew.drew.heap[B]? = some (.cells #[.slice a n c] 22 (0, 0)) := c1
    have k2 : W.drew.drew.heap[B + 1]? = some (.cells #[.int .i64 y] 25 (0, 0)) := c2
    refine (row_Get.catch_panicking _ _ (.slice a n c) y _ _ [] _ ((blk_cell k1 0).trans rfl) (blk_frozen k1 0) ((blk_cell k2 0).trans rfl) (blk_frozen k2 0) (by simp)).mono ?_
    rintro e u' w'' ⟨rfl, rfl, rfl⟩
    exact ⟨_, row_Get.read h2 h3 (blk_far (blk_set k1 0 _) (by simp) _) (blk_set (blk_far k2 (by simp) _) 0 _), h⟩
  | _ => exact hd.elim
set_option maxHeartbeats 8000000 in
set_option maxRecDepth 100000 in
theorem row_Get.calls (k : Nat) (a0 : ByteArray) (r1 : List (S46)) (r2 : Int) (w : World) (h : row_Get.f k a0 = some (r1, r2)) :
    Calls Try.prog 17 #[.string a0] w fun e w' => ∃ v0_ : Value, e = .returned (.tuple #[v0_, .int .i64 r2]) ∧ Kd.R k46 46 w' w.heap.size (fun _ => True) v0_ r1 ∧ Below w.heap.size w w' := by
  have hmf : ∀ (fn : Fn) (first cap : Array Value) (w : World), (Instr.makeFunc fn first cap).run Try.prog w = .ok (.func fn first cap) w := fun _ _ _ _ => rfl
  have H' := Aside0.mk (show row_Get.l0 k a0 ([] : List (S46)) 0 = some (r1, r2) from h)
  clear h
  go_enter_defers Try.func17, Try.ntmps17
  go_wp2
  go_loopg [0, 4] k (fun kq v0 v4 w' => ∃ (s' : ByteArray) (l' : Int) (xs : List S46) (vc : Value), v0 = .string s' ∧ v4 = .int .i64 l' ∧ Aside0 (row_Get.l0 kq s' xs l' = some (r1, r2)) ∧ Aside0 (kq ≤ k) ∧ Aside0 (Kd.R k46 46 w' w.heap.size (fun _ => True) vc xs) ∧ Aside0 (w'.heap[w.heap.size]? = some (.cells #[vc] 22 (0, 0))) ∧ Aside0 (w'.heap[w.heap.size + 1]? = some (.cells #[.int .i64 0] 25 (0, 0))) ∧ Aside0 (Below w.heap.size w w'))
  case atStart =>
    exact ⟨_, _, [], .slice none 0 0, rfl, rfl, H', ⟨Nat.le_refl _⟩, ⟨Kd.R_nil _ _ _ _ _⟩, ⟨blk_alloc (blk_new _ _) _⟩, ⟨by have h := blk_new (w.alloc (Obj.cells #[Value.slice none 0 0] 22)) (Obj.cells #[Value.int IntKind.i64 0] 25); rw [World.size_alloc] at h; exact h⟩, ⟨below_alloc (below_alloc (Below.refl _ _) _) _⟩⟩
  case round =>
    clear H'
    obtain ⟨s', l', xs, vc, rfl, rfl, HA, HK1, HO, BK0, BK1, HB⟩ := hrel
    obtain ⟨va, vn, vcap, rfl⟩ := row_Get.shape HO.out
    have y0 : wr.cell? ⟨w.heap.size, 0, none⟩ = some (.slice va vn vcap) := (blk_cell BK0.out 0).trans rfl
    have g0 := blk_frozen BK0.out 0
    have y1 : wr.cell? ⟨w.heap.size + 1, 0, none⟩ = some (.int .i64 0) := (blk_cell BK1.out 0).trans rfl
    have g1 := blk_frozen BK1.out 0
    cases gk with
    | zero => exact absurd HA.out (by simp [row_Get.l0])
    | succ k1 =>
      have H := HA.out
      clear HA
      simp only [row_Get.l0] at H
      by_cases c2 : s'.toList = ([] : List UInt8)
      · rw [if_pos c2] at H
        simp only [Option.some.injEq, Prod.mk.injEq] at H
        obtain ⟨rfl, rfl⟩ := H
        have c1 : (s'.toList == []) = true := beq_iff_eq.mpr c2
        go_wp2
        refine row_Get.door (B := w.heap.size) rfl rfl rfl (blk_far (blk_set BK0.out 0 _) (by simp) _) (blk_set (blk_far BK1.out (by simp) _) 0 _) ⟨_, rfl, ?_, below_set (below_set HB.out (Nat.le_refl _)) (Nat.le_succ _)⟩
        have n1 := Kd.R_types HO.out BK0.out (by decide)
        have n2 := Kd.R_types n1 BK1.out (by decide)
        exact Kd.R_mono (Kd.R_far (p := ⟨w.heap.size + 1, 0, none⟩) (Kd.R_far (p := ⟨w.heap.size, 0, none⟩) n2 (fun _ hk => hk.1.2) _) (fun _ hk => hk.2) _) (fun _ _ => trivial)
      · rw [if_neg c2] at H
        have c1 : (s'.toList == []) = false := by simpa using c2
        by_cases c3 : s'.size = 1
        · rw [if_pos c3] at H
          simp only [Option.some.injEq, Prod.mk.injEq] at H
          obtain ⟨rfl, rfl⟩ := H
          have b0 : (s'.size : Int) = 1 := by omega
          go_wp2
          refine Code.wp_mono (Q := row_Get.dead w.heap.size wr) ?_ ?_
          · intro e act w1 hd
            cases e with
            | panic ch => exact row_Get.buried BK0.out BK1.out ⟨_, rfl, Kd.R_nil _ _ _ _ _, below_set (below_set (below_drew1 (below_drew1 HB.out)) (Nat.le_refl _)) (Nat.le_succ _)⟩ _ _ _ hd
            | _ => exact hd.elim
          · refine wp_region_any (by kernel_rfl) ?_
            try (change wpAny _ _ _ _ _ _ _ (World.drew _))
            refine wpAny_take (i := 0) (v := .string s') rfl (by kernel_rfl) (by kernel_rfl) (by kernel_rfl) (row_Get.dead_put _ _ 12 (by decide) _) (Or.inl ⟨by rfl, ?_⟩) ?_
            · intro w; go_simp
            refine wpAny_take (i := 4) (v := .string s') rfl (by kernel_rfl) (by kernel_rfl) (by kernel_rfl) (row_Get.dead_put _ _ 16 (by decide) _) (Or.inl ⟨by rfl, ?_⟩) ?_
            · intro w; go_simp
            refine wpAny_ready (rs := [1, 5]) (by kernel_rfl) (by simp) ?_
            refine AllReady.cons rfl (fun K hK => ?_) (AllReady.cons rfl (fun K hK => ?_) AllReady.nil)
            · go_simp
              refine hK _ _ ?_
              clear hK K
              refine wpAny_take (i := 2) (v := ?v2) rfl (by kernel_rfl) (by kernel_rfl) (by kernel_rfl) (row_Get.dead_put _ _ 14 (by decide) _) (Or.inl ⟨by rfl, ?y2⟩) ?r2
              case y2 => intro w; go_simp; with_reducible rfl
              refine wpAny_take (i := 3) (v := ?v3) rfl (by kernel_rfl) (by kernel_rfl) (by kernel_rfl) (row_Get.dead_put _ _ 15 (by decide) _) (Or.inl ⟨by rfl, ?y3⟩) ?r3
              case y3 => intro w; go_simp; with_reducible rfl
              refine wpAny_ready (rs := [5]) (by kernel_rfl) (by simp) ?_
              refine AllReady.cons rfl (fun K hK => ?_) AllReady.nil
              clear hK
              go_simp
              obtain ⟨sg, hs⟩ := row_Get.bounds (α := Value) Try.prog wr.drew
              rw [hs]
              exact ⟨⟨sg, rfl⟩, rfl, rfl, rfl, rfl⟩
            · clear hK
              go_simp
              obtain ⟨sg, hs⟩ := row_Get.bounds (α := Value) Try.prog wr.drew
              rw [hs]
              exact ⟨⟨sg, rfl⟩, rfl, rfl, rfl, rfl⟩
        · rw [if_neg c3] at H
          have hz : 2 ≤ s'.size := by
            have : s'.size ≠ 0 := by
              intro h0
              have e : s'.toList = [] := by rw [ByteArray.toList_eq]; exact List.eq_nil_of_length_eq_zero h0
              exact c2 e
            omega
          have q0 : (0 : Int) < (s'.size : Int) := by omega
          have q1 : (1 : Int) < (s'.size : Int) := by omega
          have hx0 : ∀ h : 0 < s'.size, ((s'[0]'h).toNat : Int) = bt s' 0 := bt_at s' 0
          have hx1 : ∀ h : 1 < s'.size, ((s'[1]'h).toNat : Int) = bt s' 1 := bt_at s' 1
          replace H := Option.bind_eq_some_iff.mp H
          obtain ⟨⟨b1, b2, b3, b4, b5, b6⟩, A0, H⟩ := H
          have AG := Aside0.mk A0
          clear A0
          dsimp only at H
          go_wp2
          go_quiet (fail)
          by_cases c5 : b6 = 0
          · rw [if_pos c5] at H
            have c5b0 : (b6 == 0) = true := beq_iff_eq.mpr c5
            have c5b1 : (b6 != 0) = false := bne_eq_false_iff_eq.mpr c5
            clear c5
            by_cases c6 : (Go.bits .or .i64 (wrap64 ((wrap64 (bt s' 0)) * 256)) (wrap64 (bt s' 1))) ≤ l'
            · rw [if_pos c6] at H
              have c6b0 : decide ((Go.bits .or .i64 (wrap64 ((wrap64 (bt s' 0)) * 256)) (wrap64 (bt s' 1))) ≤ l') = true := decide_eq_true c6
              clear c6
              simp only [Option.some.injEq, Prod.mk.injEq] at H
              obtain ⟨rfl, rfl⟩ := H
              go_wp2_with (first | (go_at_call 29; (with_reducible refine (value_Get.calls k1 (s'.extract 2 s'.size) b1 b2 b3 b4 b5 b6 _ AG.out).mono ?_); rintro e w16 ⟨rfl, hb⟩; have n0_ := Aside0.mk (Kd.R_below (by (with_reducible repeat (first | apply Kd.R_alloc | apply Kd.R_drewN | apply Kd.R_drew)); exact HO.out) hb); have n1_ := Aside0.mk (below_step (by repeat (first | (with_reducible first | exact HB.out | apply below_alloc | apply pw_below_drewN | apply below_drew1) | exact HB.out)) hb); have n2_ := Aside0.mk (blk_below (by (with_reducible repeat (first | refine blk_drewN ?_ _ | refine blk_drew ?_ | refine blk_alloc ?_ _)); exact BK0.out) hb); have n3_ := Aside0.mk (blk_below (by (with_reducible repeat (first | refine blk_drewN ?_ _ | refine blk_drew ?_ | refine blk_alloc ?_ _)); exact BK1.out) hb); clear HO HB BK0 BK1; have HO := n0_; have HB := n1_; have BK0 := n2_; have BK1 := n3_; clear n0_ n1_ n2_ n3_; clear hb) | ((with_reducible refine gate_dst (N := 6) rfl ?_); refine box_event ?hg (N := 6) ?hd (cs := #[.int .i64 0, .int .i64 0, .int .u64 0, .string (⟨#[]⟩ : ByteArray)]) (t := 44) ?hr ?_; (case hd => rfl); (case hg => rfl); (case hr => first | (go_simp; done) | (go_simp; rfl)); intro gb hg w17 hbox hb; have n0_ := Aside0.mk (Kd.R_below (by (with_reducible repeat (first | apply Kd.R_alloc | apply Kd.R_drewN | apply Kd.R_drew)); exact HO.out) hb); have n1_ := Aside0.mk (below_step (by repeat (first | (with_reducible first | exact HB.out | apply below_alloc | apply pw_below_drewN | apply below_drew1) | exact HB.out)) hb); have n2_ := Aside0.mk (blk_below (by (with_reducible repeat (first | refine blk_drewN ?_ _ | refine blk_drew ?_ | refine blk_alloc ?_ _)); exact BK0.out) hb); have n3_ := Aside0.mk (blk_below (by (with_reducible repeat (first | refine blk_drewN ?_ _ | refine blk_drew ?_ | refine blk_alloc ?_ _)); exact BK1.out) hb); have n4_ := Aside0.mk (hbox); have n5_ := Aside0.mk ((by rw [hg]; exact (below_size (by repeat (first | (with_reducible first | exact HB.out | apply below_alloc | apply pw_below_drewN | apply below_drew1) | exact HB.out))) : w.heap.size ≤ gb)); clear HO HB BK0 BK1; have HO := n0_; have HB := n1_; have BK0 := n2_; have BK1 := n3_; clear n0_ n1_ n2_ n3_; have BK := n4_; have GE := n5_; clear n4_ n5_; clear hb hbox hg; have hz0 : w17.cell? ⟨gb, 0, none⟩ = some (.int .i64 0) := (blk_cell BK.out 0).trans rfl; have hz1 : w17.cell? ⟨gb, 1, none⟩ = some (.int .i64 0) := (blk_cell BK.out 1).trans rfl; have hz2 : w17.cell? ⟨gb, 2, none⟩ = some (.int .u64 0) := (blk_cell BK.out 2).trans rfl; have hz3 : w17.cell? ⟨gb, 3, none⟩ = some (.string (⟨#[]⟩ : ByteArray)) := (blk_cell BK.out 3).trans rfl; have hf0 := blk_frozen BK.out 0; have hf1 := blk_frozen BK.out 1; have hf2 := blk_frozen BK.out 2; have hf3 := blk_frozen BK.out 3; have ne0 := blk_ne BK.out BK0.out (by decide); have ne1 := blk_ne BK.out BK1.out (by decide); have ne2 := ne0.symm; have ne3 := ne1.symm; have yy0 : w17.cell? ⟨w.heap.size, 0, none⟩ = some (.slice va vn vcap) := (blk_cell BK0.out 0).trans rfl; have gg0 := blk_frozen BK0.out 0; have yy1 : w17.cell? ⟨w.heap.size + 1, 0, none⟩ = some (.int .i64 0) := (blk_cell BK1.out 0).trans rfl; have gg1 := blk_frozen BK1.out 0))
              refine row_Get.door (B := w.heap.size) rfl rfl rfl (blk_far (blk_set (blk_far (blk_far (blk_far (blk_far BK0.out ne2 _) ne2 _) ne2 _) ne2 _) 0 _) (by simp) _) (blk_set (blk_far (blk_far (blk_far (blk_far (blk_far BK1.out ne3 _) ne3 _) ne3 _) ne3 _) (by simp) _) 0 _) ⟨_, rfl, Kd.R_nil _ _ _ _ _, below_set (below_set (below_set (below_set (below_set (below_set HB.out GE.out) GE.out) GE.out) GE.out) (Nat.le_refl _)) (Nat.le_succ _)⟩
            · rw [if_neg c6] at H
              have c6b0 : decide ((Go.bits .or .i64 (wrap64 ((wrap64 (bt s' 0)) * 256)) (wrap64 (bt s' 1))) ≤ l') = false := decide_eq_false c6
              clear c6
              obtain ⟨j, hj⟩ : ∃ j : Int, wrap64 (2 + b5) = j := ⟨_, rfl⟩
              have hjw : IntKind.i64.wrap (2 + b5) = j := (i64_w _).trans hj
              rw [hj] at H
              by_cases c7 : 0 ≤ j ∧ j ≤ (s'.size : Int) ∧ xs.length < 2932031007402
              · rw [if_pos c7] at H
                have c7a := eq_true c7.1
                have c7b := eq_true c7.2.1
                have c7c : decide (0 ≤ j) = true := decide_eq_true c7.1
                have c7d : decide (j ≤ (s'.size : Int)) = true := decide_eq_true c7.2.1
                have HL := Aside0.mk c7.2.2
                have H' := Aside0.mk H
                clear c7 H
                go_wp2_with (first | (go_at_call 29; (with_reducible refine (value_Get.calls k1 (s'.extract 2 s'.size) b1 b2 b3 b4 b5 b6 _ AG.out).mono ?_); rintro e w16 ⟨rfl, hb⟩; have n0_ := Aside0.mk (Kd.R_below (by (with_reducible repeat (first | apply Kd.R_alloc | apply Kd.R_drewN | apply Kd.R_drew)); exact HO.out) hb); have n1_ := Aside0.mk (below_step (by repeat (first | (with_reducible first | exact HB.out | apply below_alloc | apply pw_below_drewN | apply below_drew1) | exact HB.out)) hb); have n2_ := Aside0.mk (blk_below (by (with_reducible repeat (first | refine blk_drewN ?_ _ | refine blk_drew ?_ | refine blk_alloc ?_ _)); exact BK0.out) hb); have n3_ := Aside0.mk (blk_below (by (with_reducible repeat (first | refine blk_drewN ?_ _ | refine blk_drew ?_ | refine blk_alloc ?_ _)); exact BK1.out) hb); clear HO HB BK0 BK1; have HO := n0_; have HB := n1_; have BK0 := n2_; have BK1 := n3_; clear n0_ n1_ n2_ n3_; clear hb) | ((with_reducible refine gate_dst (N := 6) rfl ?_); refine box_event ?hg (N := 6) ?hd (cs := #[.int .i64 0, .int .i64 0, .int .u64 0, .string (⟨#[]⟩ : ByteArray)]) (t := 44) ?hr ?_; (case hd => rfl); (case hg => rfl); (case hr => first | (go_simp; done) | (go_simp; rfl)); intro gb hg w17 hbox hb; have n0_ := Aside0.mk (Kd.R_below (by (with_reducible repeat (first | apply Kd.R_alloc | apply Kd.R_drewN | apply Kd.R_drew)); exact HO.out) hb); have n1_ := Aside0.mk (below_step (by repeat (first | (with_reducible first | exact HB.out | apply below_alloc | apply pw_below_drewN | apply below_drew1) | exact HB.out)) hb); have n2_ := Aside0.mk (blk_below (by (with_reducible repeat (first | refine blk_drewN ?_ _ | refine blk_drew ?_ | refine blk_alloc ?_ _)); exact BK0.out) hb); have n3_ := Aside0.mk (blk_below (by (with_reducible repeat (first | refine blk_drewN ?_ _ | refine blk_drew ?_ | refine blk_alloc ?_ _)); exact BK1.out) hb); have n4_ := Aside0.mk (hbox); have n5_ := Aside0.mk ((by rw [hg]; exact (below_size (by repeat (first | (with_reducible first | exact HB.out | apply below_alloc | apply pw_below_drewN | apply below_drew1) | exact HB.out))) : w.heap.size ≤ gb)); clear HO HB BK0 BK1; have HO := n0_; have HB := n1_; have BK0 := n2_; have BK1 := n3_; clear n0_ n1_ n2_ n3_; have BK := n4_; have GE := n5_; clear n4_ n5_; clear hb hbox hg; have hz0 : w17.cell? ⟨gb, 0, none⟩ = some (.int .i64 0) := (blk_cell BK.out 0).trans rfl; have hz1 : w17.cell? ⟨gb, 1, none⟩ = some (.int .i64 0) := (blk_cell BK.out 1).trans rfl; have hz2 : w17.cell? ⟨gb, 2, none⟩ = some (.int .u64 0) := (blk_cell BK.out 2).trans rfl; have hz3 : w17.cell? ⟨gb, 3, none⟩ = some (.string (⟨#[]⟩ : ByteArray)) := (blk_cell BK.out 3).trans rfl; have hf0 := blk_frozen BK.out 0; have hf1 := blk_frozen BK.out 1; have hf2 := blk_frozen BK.out 2; have hf3 := blk_frozen BK.out 3; have ne0 := blk_ne BK.out BK0.out (by decide); have ne1 := blk_ne BK.out BK1.out (by decide); have ne2 := ne0.symm; have ne3 := ne1.symm; have yy0 : w17.cell? ⟨w.heap.size, 0, none⟩ = some (.slice va vn vcap) := (blk_cell BK0.out 0).trans rfl; have gg0 := blk_frozen BK0.out 0; have yy1 : w17.cell? ⟨w.heap.size + 1, 0, none⟩ = some (.int .i64 0) := (blk_cell BK1.out 0).trans rfl; have gg1 := blk_frozen BK1.out 0) | ((with_reducible refine gate_builtin (b := .append) (xs := #[.tmp 35, .tmp 39]) rfl ?_); at_builtin; refine Kd.R_append k46 (w0 := w) w.heap.size rfl (.tmp 35) (.tmp 39) 22 46 (.agg #[(.int .i64 0), (.int .i64 0), (.int .i64 0), (.int .u64 0), (.string ⟨#[]⟩)]) 48 rfl Try.underlying22 info46 rfl (by decide) (by omega) (.slice va vn vcap) xs (⟨(Go.bits .or .i64 (wrap64 ((wrap64 (bt s' 0)) * 256)) (wrap64 (bt s' 1))), (⟨b1, b2, b3, b4⟩ : S44)⟩ : S46) [.int .i64 (Go.bits .or .i64 (wrap64 ((wrap64 (bt s' 0)) * 256)) (wrap64 (bt s' 1))), .int .i64 b1, .int .i64 b2, .int .u64 b3, .string b4] (fun _ => True) (fun _ => False) rfl (by first | (go_simp; done) | (go_simp; rfl)) ?aP (fun _ hk => hk.elim) ?aF ?aO ?aB ?aS ?aL ?_; (case aP => exact k46_mkM _ _ _ (⟨(Go.bits .or .i64 (wrap64 ((wrap64 (bt s' 0)) * 256)) (wrap64 (bt s' 1))), (⟨b1, b2, b3, b4⟩ : S44)⟩ : S46)); (case aB => exact below_set (below_set (below_set (below_set HB.out GE.out) GE.out) GE.out) GE.out); (case aF => exact (fun _ _ => trivial)); (case aO => exact Kd.R_mono (Kd.R_far (p := ⟨gb, 3, none⟩) (Kd.R_far (p := ⟨gb, 2, none⟩) (Kd.R_far (p := ⟨gb, 1, none⟩) (Kd.R_far (p := ⟨gb, 0, none⟩) (Kd.R_types HO.out BK.out (by decide)) (fun _ hk => hk.2) _) (fun _ hk => hk.2) _) (fun _ hk => hk.2) _) (fun _ hk => hk.2) _) (fun _ hk => trivial)); (case aS => exact below_size (below_set (below_set (below_set (below_set HB.out GE.out) GE.out) GE.out) GE.out)); (case aL => have := HL.out; omega); intro v23 w23 ho hb hg hat; have n0_ := Aside0.mk (blk_grown (blk_far (blk_far (blk_far (blk_far BK0.out ne2 _) ne2 _) ne2 _) ne2 _) hg (Kd.R_ne HO.out BK0.out (by decide))); have n1_ := Aside0.mk (blk_grown (blk_far (blk_far (blk_far (blk_far BK1.out ne3 _) ne3 _) ne3 _) ne3 _) hg (Kd.R_ne HO.out BK1.out (by decide))); have n2_ := Aside0.mk hb; have n3_ := Aside0.mk ho; clear ho hb hg hat HO HB BK0 BK1 BK; have BK0 := n0_; have BK1 := n1_; have HB := n2_; have HO := n3_; clear n0_ n1_ n2_ n3_; obtain ⟨va1, vn1, vcap1, rfl⟩ := row_Get.shape HO.out; have yz0 : w23.cell? ⟨w.heap.size, 0, none⟩ = some (.slice va vn vcap) := (blk_cell BK0.out 0).trans rfl; have gz0 := blk_frozen BK0.out 0))
                go_roundg k1
                case measure => have := HK1.out; omega
                case rel =>
                  exact ⟨_, _, _, .slice va1 vn1 vcap1, rfl, rfl, H', ⟨by have := HK1.out; omega⟩, ⟨Kd.R_mono (Kd.R_far (Kd.R_types HO.out BK0.out (by decide)) (fun _ hk => hk.2) _) (fun _ _ => trivial)⟩, ⟨blk_set BK0.out 0 _⟩, ⟨blk_far BK1.out (by simp) _⟩, ⟨below_set HB.out (Nat.le_refl _)⟩⟩
              · rw [if_neg c7] at H
                exact absurd H (by simp)
          · rw [if_neg c5] at H
            simp only [Option.some.injEq, Prod.mk.injEq] at H
            obtain ⟨rfl, rfl⟩ := H
            have c5b0 : (b6 == 0) = false := beq_eq_false_iff_ne.mpr c5
            have c5b1 : (b6 != 0) = true := bne_iff_ne.mpr c5
            clear c5
            go_wp2_with (first | (go_at_call 29; (with_reducible refine (value_Get.calls k1 (s'.extract 2 s'.size) b1 b2 b3 b4 b5 b6 _ AG.out).mono ?_); rintro e w16 ⟨rfl, hb⟩; have n0_ := Aside0.mk (Kd.R_below (by (with_reducible repeat (first | apply Kd.R_alloc | apply Kd.R_drewN | apply Kd.R_drew)); exact HO.out) hb); have n1_ := Aside0.mk (below_step (by repeat (first | (with_reducible first | exact HB.out | apply below_alloc | apply pw_below_drewN | apply below_drew1) | exact HB.out)) hb); have n2_ := Aside0.mk (blk_below (by (with_reducible repeat (first | refine blk_drewN ?_ _ | refine blk_drew ?_ | refine blk_alloc ?_ _)); exact BK0.out) hb); have n3_ := Aside0.mk (blk_below (by (with_reducible repeat (first | refine blk_drewN ?_ _ | refine blk_drew ?_ | refine blk_alloc ?_ _)); exact BK1.out) hb); clear HO HB BK0 BK1; have HO := n0_; have HB := n1_; have BK0 := n2_; have BK1 := n3_; clear n0_ n1_ n2_ n3_; clear hb) | ((with_reducible refine gate_dst (N := 6) rfl ?_); refine box_event ?hg (N := 6) ?hd (cs := #[.int .i64 0, .int .i64 0, .int .u64 0, .string (⟨#[]⟩ : ByteArray)]) (t := 44) ?hr ?_; (case hd => rfl); (case hg => rfl); (case hr => first | (go_simp; done) | (go_simp; rfl)); intro gb hg w17 hbox hb; have n0_ := Aside0.mk (Kd.R_below (by (with_reducible repeat (first | apply Kd.R_alloc | apply Kd.R_drewN | apply Kd.R_drew)); exact HO.out) hb); have n1_ := Aside0.mk (below_step (by repeat (first | (with_reducible first | exact HB.out | apply below_alloc | apply pw_below_drewN | apply below_drew1) | exact HB.out)) hb); have n2_ := Aside0.mk (blk_below (by (with_reducible repeat (first | refine blk_drewN ?_ _ | refine blk_drew ?_ | refine blk_alloc ?_ _)); exact BK0.out) hb); have n3_ := Aside0.mk (blk_below (by (with_reducible repeat (first | refine blk_drewN ?_ _ | refine blk_drew ?_ | refine blk_alloc ?_ _)); exact BK1.out) hb); have n4_ := Aside0.mk (hbox); have n5_ := Aside0.mk ((by rw [hg]; exact (below_size (by repeat (first | (with_reducible first | exact HB.out | apply below_alloc | apply pw_below_drewN | apply below_drew1) | exact HB.out))) : w.heap.size ≤ gb)); clear HO HB BK0 BK1; have HO := n0_; have HB := n1_; have BK0 := n2_; have BK1 := n3_; clear n0_ n1_ n2_ n3_; have BK := n4_; have GE := n5_; clear n4_ n5_; clear hb hbox hg; have hz0 : w17.cell? ⟨gb, 0, none⟩ = some (.int .i64 0) := (blk_cell BK.out 0).trans rfl; have hz1 : w17.cell? ⟨gb, 1, none⟩ = some (.int .i64 0) := (blk_cell BK.out 1).trans rfl; have hz2 : w17.cell? ⟨gb, 2, none⟩ = some (.int .u64 0) := (blk_cell BK.out 2).trans rfl; have hz3 : w17.cell? ⟨gb, 3, none⟩ = some (.string (⟨#[]⟩ : ByteArray)) := (blk_cell BK.out 3).trans rfl; have hf0 := blk_frozen BK.out 0; have hf1 := blk_frozen BK.out 1; have hf2 := blk_frozen BK.out 2; have hf3 := blk_frozen BK.out 3; have ne0 := blk_ne BK.out BK0.out (by decide); have ne1 := blk_ne BK.out BK1.out (by decide); have ne2 := ne0.symm; have ne3 := ne1.symm; have yy0 : w17.cell? ⟨w.heap.size, 0, none⟩ = some (.slice va vn vcap) := (blk_cell BK0.out 0).trans rfl; have gg0 := blk_frozen BK0.out 0; have yy1 : w17.cell? ⟨w.heap.size + 1, 0, none⟩ = some (.int .i64 0) := (blk_cell BK1.out 0).trans rfl; have gg1 := blk_frozen BK1.out 0))
            refine row_Get.door (B := w.heap.size) rfl rfl rfl (blk_far (blk_set (blk_far (blk_far (blk_far (blk_far BK0.out ne2 _) ne2 _) ne2 _) ne2 _) 0 _) (by simp) _) (blk_set (blk_far (blk_far (blk_far (blk_far (blk_far BK1.out ne3 _) ne3 _) ne3 _) ne3 _) (by simp) _) 0 _) ⟨_, rfl, Kd.R_nil _ _ _ _ _, below_set (below_set (below_set (below_set (below_set (below_set HB.out GE.out) GE.out) GE.out) GE.out) (Nat.le_refl _)) (Nat.le_succ _)⟩

/-! ### falseworkref4_Same: function 19 -/
def falseworkref4_Same.l0 : Nat → List (S46) → List (S46) → Int → Option (Bool)
  | 0, _, _, _ => none
  | k + 1, x0, x1, x5 => if x5 < (x0.length : Int) then (if 0 ≤ x5 then (if x5 < (x1.length : Int) then (if (!(((rd_T46 x0 x5).f0) == ((rd_T46 x1 x5).f0)) || ((!(((rd_T46 x0 x5).f1.f0) == ((rd_T46 x1 x5).f1.f0)) || (!(((rd_T46 x0 x5).f1.f1) == ((rd_T46 x1 x5).f1.f1)) || (!(((rd_T46 x0 x5).f1.f2) == ((rd_T46 x1 x5).f1.f2)) || (!((((rd_T46 x0 x5).f1.f3).toList) == (((rd_T46 x1 x5).f1.f3).toList)))))))) = true then (some false) else (falseworkref4_Same.l0 k x0 x1 (wrap64 (x5 + 1)))) else (none)) else (none)) else (some true)
def falseworkref4_Same.f (k : Nat) (l0 : List (S46)) (l1 : List (S46)) : Option (Bool) := if (l0.length : Int) = (l1.length : Int) then (falseworkref4_Same.l0 k l0 l1 0) else (some false)
theorem falseworkref4_Same.mono_l : ∀ k, (∀ y0 y1 y2, LeO (falseworkref4_Same.l0 k y0 y1 y2) (falseworkref4_Same.l0 (k + 1) y0 y1 y2))
  | 0 => fun _ _ _ r h => by simp [falseworkref4_Same.l0] at h
  | k + 1 => by
    have ih0 := falseworkref4_Same.mono_l k
    · intro y0 y1 y2
      unfold falseworkref4_Same.l0
      repeat' first
      | (with_reducible exact ih0 _ _ _)
      | (with_reducible exact LeO.refl _)
      | (with_reducible exact LeO.none _)
      | (with_reducible refine LeO.ite ?_ ?_)
      | (with_reducible refine LeO.bind ?_ (fun _ => ?_))
      | exact ih0 _ _ _
      | exact LeO.none _
      | refine LeO.ite ?_ ?_
      | refine LeO.bind ?_ (fun _ => ?_)
theorem falseworkref4_Same.mono : ∀ a0 a1 k, LeO (falseworkref4_Same.f k a0 a1) (falseworkref4_Same.f (k + 1) a0 a1) := by
  intro a0 a1 k
  have ih0 := falseworkref4_Same.mono_l k
  unfold falseworkref4_Same.f
  repeat' first
      | (with_reducible exact ih0 _ _ _)
      | (with_reducible exact LeO.refl _)
      | (with_reducible exact LeO.none _)
      | (with_reducible refine LeO.ite ?_ ?_)
      | (with_reducible refine LeO.bind ?_ (fun _ => ?_))
      | exact ih0 _ _ _
      | exact LeO.none _
      | refine LeO.ite ?_ ?_
      | refine LeO.bind ?_ (fun _ => ?_)
set_option maxHeartbeats 8000000 in
set_option maxRecDepth 100000 in
theorem falseworkref4_Same.calls (k : Nat) (A0 : Option Addr) (c0 : Nat) (l0 : List (S46)) (A1 : Option Addr) (c1 : Nat) (l1 : List (S46)) (r : Bool) (w : World) (hr0 : Kd.C k46 w A0 l0.length l0) (hc0 : l0.length ≤ c0) (hr1 : Kd.C k46 w A1 l1.length l1) (hc1 : l1.length ≤ c1) (h : falseworkref4_Same.f k l0 l1 = some r) :
    Calls Try.prog 19 #[.slice A0 l0.length c0, .slice A1 l1.length c1] w fun e w' => e = .returned (.bool r) ∧ Drawn0 w w' := by
  have hu46 := Try.underlying46
  have HR0 := Aside0.mk hr0
  have HC0 := Aside0.mk hc0
  clear hr0 hc0
  have HR1 := Aside0.mk hr1
  have HC1 := Aside0.mk hc1
  clear hr1 hc1
  have H : (if (l0.length : Int) = (l1.length : Int) then (falseworkref4_Same.l0 k l0 l1 0) else (some false)) = some r := h
  clear h
  by_cases c3 : (l0.length : Int) = (l1.length : Int)
  · rw [if_pos c3] at H
    have c3b0 : ((l0.length : Int) == (l1.length : Int)) = true := beq_iff_eq.mpr c3
    have c3b1 : ((l0.length : Int) != (l1.length : Int)) = false := bne_eq_false_iff_eq.mpr c3
    have c3b2 : (l0.length == l1.length) = true := by first | simpa using c3 | (simp at c3 ⊢; omega)
    clear c3
    have H' := Aside0.mk H
    clear H
    go_enter Try.func19, Try.ntmps19
    go_wp2
    repeat (go_quiet (fail); try go_wp2)
    go_loopg [5] k (fun kq v5 w' => ∃ (x5_1 : Int), v5 = .int .i64 x5_1 ∧ Aside0 (falseworkref4_Same.l0 kq l0 l1 x5_1 = some r) ∧ Aside0 (kq ≤ k) ∧ Drawn0 w w')
    case atStart => exact ⟨(0), (by first | rfl | (simp; done) | (simp [*]; done)), H', ⟨Nat.le_refl _⟩, by repeat (first | exact Drawn0.refl _ | apply Drawn0.step)⟩
    case round =>
      clear H'
      try clear c1
      try clear p2
      try clear c3
      try clear c3b0
      try clear c3b1
      try clear c3b2
      obtain ⟨x5_1, rfl, HA, HK1, ⟨m1, rfl⟩⟩ := hrel
      cases gk with
      | zero => exact absurd HA.out (by simp [falseworkref4_Same.l0])
      | succ k1 =>
        have H := HA.out
        clear HA
        simp only [falseworkref4_Same.l0] at H
        by_cases c4 : x5_1 < (l0.length : Int)
        · rw [if_pos c4] at H
          have c4b0 : decide (x5_1 < (l0.length : Int)) = true := decide_eq_true c4
          clear c4
          by_cases c5 : 0 ≤ x5_1
          · rw [if_pos c5] at H
            have c5b0 : decide (0 ≤ x5_1) = true := decide_eq_true c5
            clear c5
            by_cases c6 : x5_1 < (l1.length : Int)
            · rw [if_pos c6] at H
              have c6b0 : decide (x5_1 < (l1.length : Int)) = true := decide_eq_true c6
              clear c6
              by_cases c7 : (!(((rd_T46 l0 x5_1).f0) == ((rd_T46 l1 x5_1).f0)) || ((!(((rd_T46 l0 x5_1).f1.f0) == ((rd_T46 l1 x5_1).f1.f0)) || (!(((rd_T46 l0 x5_1).f1.f1) == ((rd_T46 l1 x5_1).f1.f1)) || (!(((rd_T46 l0 x5_1).f1.f2) == ((rd_T46 l1 x5_1).f1.f2)) || (!((((rd_T46 l0 x5_1).f1.f3).toList) == (((rd_T46 l1 x5_1).f1.f3).toList)))))))) = true
              · rw [if_pos c7] at H
                have c7b0 : (!(((rd_T46 l0 x5_1).f0) == ((rd_T46 l1 x5_1).f0)) || ((!(((rd_T46 l0 x5_1).f1.f0) == ((rd_T46 l1 x5_1).f1.f0)) || (!(((rd_T46 l0 x5_1).f1.f1) == ((rd_T46 l1 x5_1).f1.f1)) || (!(((rd_T46 l0 x5_1).f1.f2) == ((rd_T46 l1 x5_1).f1.f2)) || (!((((rd_T46 l0 x5_1).f1.f3).toList) == (((rd_T46 l1 x5_1).f1.f3).toList)))))))) = true := c7
                clear c7
                obtain rfl := Option.some.inj H
                have p200 : 0 ≤ (x5_1 : Int) := of_decide_eq_true (by first | (with_reducible assumption) | assumption)
                have q200 : x5_1 < (l0.length : Int) := of_decide_eq_true (by first | (with_reducible assumption) | assumption)
                obtain ⟨ad200, e200, hx200_0, hx200_1, hx200_2, hx200_3, hx200_4⟩ := at_T46 HR0.out x5_1 p200 q200
                cases e200
                replace p200 := eq_true p200
                replace q200 := eq_true q200
                have p201 : 0 ≤ (x5_1 : Int) := of_decide_eq_true (by first | (with_reducible assumption) | assumption)
                have q201 : x5_1 < (l1.length : Int) := of_decide_eq_true (by first | (with_reducible assumption) | assumption)
                obtain ⟨ad201, e201, hx201_0, hx201_1, hx201_2, hx201_3, hx201_4⟩ := at_T46 HR1.out x5_1 p201 q201
                cases e201
                replace p201 := eq_true p201
                replace q201 := eq_true q201
                go_wp2
                repeat (go_quiet (fail); try go_wp2)
                go_ret
                exact ⟨by first | rfl | (simp; done) | (simp [*]; done), by repeat (first | exact Drawn0.refl _ | apply Drawn0.step)⟩
              · rw [if_neg c7] at H
                have c7b0 : (!(((rd_T46 l0 x5_1).f0) == ((rd_T46 l1 x5_1).f0)) || ((!(((rd_T46 l0 x5_1).f1.f0) == ((rd_T46 l1 x5_1).f1.f0)) || (!(((rd_T46 l0 x5_1).f1.f1) == ((rd_T46 l1 x5_1).f1.f1)) || (!(((rd_T46 l0 x5_1).f1.f2) == ((rd_T46 l1 x5_1).f1.f2)) || (!((((rd_T46 l0 x5_1).f1.f3).toList) == (((rd_T46 l1 x5_1).f1.f3).toList)))))))) = false := by simpa using c7
                clear c7
                have H' := Aside0.mk H
                clear H
                have p200 : 0 ≤ (x5_1 : Int) := of_decide_eq_true (by first | (with_reducible assumption) | assumption)
                have q200 : x5_1 < (l0.length : Int) := of_decide_eq_true (by first | (with_reducible assumption) | assumption)
                obtain ⟨ad200, e200, hx200_0, hx200_1, hx200_2, hx200_3, hx200_4⟩ := at_T46 HR0.out x5_1 p200 q200
                cases e200
                replace p200 := eq_true p200
                replace q200 := eq_true q200
                have p201 : 0 ≤ (x5_1 : Int) := of_decide_eq_true (by first | (with_reducible assumption) | assumption)
                have q201 : x5_1 < (l1.length : Int) := of_decide_eq_true (by first | (with_reducible assumption) | assumption)
                obtain ⟨ad201, e201, hx201_0, hx201_1, hx201_2, hx201_3, hx201_4⟩ := at_T46 HR1.out x5_1 p201 q201
                cases e201
                replace p201 := eq_true p201
                replace q201 := eq_true q201
                go_wp2
                repeat (go_quiet (fail); try go_wp2)
                go_roundg k1
                case measure => have := HK1.out; omega
                case rel => exact ⟨(wrap64 (x5_1 + 1)), (by first | rfl | (simp; done) | (simp [*]; done)), H', ⟨by have := HK1.out; omega⟩, by repeat (first | exact Drawn0.refl _ | apply Drawn0.step)⟩
            · rw [if_neg c6] at H
              exact absurd H (by simp)
          · rw [if_neg c5] at H
            exact absurd H (by simp)
        · rw [if_neg c4] at H
          have c4b0 : decide (x5_1 < (l0.length : Int)) = false := decide_eq_false c4
          clear c4
          obtain rfl := Option.some.inj H
          go_wp2
          repeat (go_quiet (fail); try go_wp2)
          go_ret
          exact ⟨by first | rfl | (simp; done) | (simp [*]; done), by repeat (first | exact Drawn0.refl _ | apply Drawn0.step)⟩
  · rw [if_neg c3] at H
    have c3b0 : ((l0.length : Int) == (l1.length : Int)) = false := beq_eq_false_iff_ne.mpr c3
    have c3b1 : ((l0.length : Int) != (l1.length : Int)) = true := bne_iff_ne.mpr c3
    have c3b2 : (l0.length == l1.length) = false := by first | simpa using c3 | (simp at c3 ⊢; omega)
    obtain rfl := Option.some.inj H
    go_enter Try.func19, Try.ntmps19
    go_wp2
    repeat (go_quiet (fail); try go_wp2)
    go_ret
    exact ⟨by first | rfl | (simp; done) | (simp [*]; done), by repeat (first | exact Drawn0.refl _ | apply Drawn0.step)⟩

end Go.Proofs.Ytebfilljdnhccaa.PA
