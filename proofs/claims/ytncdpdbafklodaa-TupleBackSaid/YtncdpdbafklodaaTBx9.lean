/- Contracts of the Go functions of this seat: what each call returns is what a Lean function of its arguments says; each theorem bears its own conditions. Written by a program of this session (wip/tools/mkprint.py). -/
import Derived.Test.YtncdpdbafklodaaTBx0
import Derived.Test.YtncdpdbafklodaaTBx8
namespace Go.Proofs.Ytncdpdbafklodaa.PA
open Go.RowKit Go.Proofs.YtncdpdbafklodaaW.PrintWords Go.Proofs.YtncdpdbafklodaaW.PrintLast Go.Proofs.YtncdpdbafklodaaW.PrintMore
attribute [local go_sem] max2_int min2_int max_two min_two max_three min_three max_four min_four   -- for this text's walks alone
set_option linter.unusedVariables false
set_option linter.unusedSimpArgs false

attribute [local go_sem ↓ high] unary_xor_u64 ux_if_u64
attribute [local go_sem] str_gtr str_leq str_geq
/-! ### tuple_Get: function 17 -/
def tuple_Get.l0 : Nat → ByteArray → List (S37) → Option ((List (S37)) × Int)
  | 0, _, _ => none
  | k + 1, s, xs => if s.toList = ([] : List UInt8) then (some (xs, 0)) else ((value_Get.f k s).bind fun b => (if b.2.2.2.2.2 = 0 then (if xs.length = 16 then (some (([] : List (S37)), 3)) else (if 1 ≤ b.2.2.2.2.1 ∧ b.2.2.2.2.1 ≤ (s.size : Int) ∧ xs.length < 16 then (tuple_Get.l0 k (s.extract b.2.2.2.2.1.toNat s.size) (xs ++ [(⟨b.1, b.2.1, b.2.2.1, b.2.2.2.1⟩ : S37)])) else (none))) else (some (([] : List (S37)), 3))))
def tuple_Get.f (k : Nat) (a0 : ByteArray) : Option ((List (S37)) × Int) := tuple_Get.l0 k a0 ([] : List (S37))
theorem tuple_Get.mono_l : ∀ k, (∀ y0 y1, LeO (tuple_Get.l0 k y0 y1) (tuple_Get.l0 (k + 1) y0 y1))
  | 0 => fun _ _ r h => by simp [tuple_Get.l0] at h
  | k + 1 => by
    have ih0 := tuple_Get.mono_l k
    · intro y0 y1
      unfold tuple_Get.l0
      repeat' first
      | (with_reducible exact ih0 _ _)
      | (with_reducible exact value_Get.mono _ _)
      | (with_reducible exact LeO.refl _)
      | (with_reducible exact LeO.none _)
      | (with_reducible refine LeO.ite ?_ ?_)
      | (with_reducible refine LeO.bind ?_ (fun _ => ?_))
      | exact ih0 _ _
      | exact value_Get.mono _ _
      | exact LeO.none _
      | refine LeO.ite ?_ ?_
      | refine LeO.bind ?_ (fun _ => ?_)
theorem tuple_Get.mono : ∀ a0 k, LeO (tuple_Get.f k a0) (tuple_Get.f (k + 1) a0) := fun a0 k => tuple_Get.mono_l k _ _
theorem tuple_Get.values (s : ByteArray) (w : World) : Calls Try.prog 22 #[.string s] w fun e w' => e = .returned (.func (.func 31) #[] #[.pointer (some ⟨w.heap.size, 0, none⟩)]) ∧ w' = w.alloc (.cells #[.string s] 9) := by
  have hmf : ∀ (fn : Fn) (first cap : Array Value) (w : World), (Instr.makeFunc fn first cap).run Try.prog w = .ok (.func fn first cap) w := fun _ _ _ _ => rfl
  go_enter Try.func22, Try.ntmps22
  go_wp2
  go_ret
  exact ⟨rfl, rfl⟩
section
attribute [local go_sem] Oper.semAt_some
set_option maxRecDepth 100000 in
set_option maxHeartbeats 1000000 in
theorem tuple_Get.iter (F : Fence) (n l Bs : Nat) (hF : F.fn 31) (hG : F.fn 32) (hro : F.round = none) (hn : 1 ≤ n) (J : ByteArray → World → Prop) (Jx : World → Prop)
    (hget : ∀ k s b1 b2 b3 b4 b5 b6 w, value_Get.f k s = some (b1, b2, b3, b4, b5, b6) → CallsIn F (n - 1) Try.prog 32 #[.string s] w fun e w' => e = .returned (.tuple #[.agg #[.int .i64 b1, .int .i64 b2, .int .u64 b3, .string b4], .int .i64 b5, .int .i64 b6]) ∧ Below w.heap.size w w')
    (hcell : ∀ s W, J s W → W.heap[Bs]? = some (.cells #[.string s] 9 (0, 0)))
    (hY : ∀ s W, J s W → s.toList ≠ [] → ∃ k1 b1 b2 b3 b4 b5 b6, value_Get.f k1 s = some (b1, b2, b3, b4, b5, b6) ∧ ∀ W2, Below W.heap.size W W2 → YieldAt F (n - 1) Try.prog l #[.agg #[.int .i64 b1, .int .i64 b2, .int .u64 b3, .string b4], .int .i64 b6] W2 fun e W' =>
      (e = .returned (.bool true) ∧ b6 = 0 ∧ 1 ≤ b5 ∧ b5 ≤ (s.size : Int) ∧ W'.heap[Bs]? = some (.cells #[.string s] 9 (0, 0)) ∧ J (s.extract b5.toNat s.size) (W'.setCell ⟨Bs, 0, none⟩ (.string (s.extract b5.toNat s.size)))) ∨ (e = .returned (.bool false) ∧ Jx W'))
    (s0 : ByteArray) (W : World) (h0 : J s0 W) :
    CallsIn F n Try.prog 31 #[.func (.yield l) #[] #[], .pointer (some ⟨Bs, 0, none⟩)] W fun e W' => (∃ v, e = .returned v) ∧ ((∃ s, s.toList = [] ∧ J s W') ∨ Jx W') := by
  refine callsIn_of_wp Try.func31 rfl hF ?_ hro
  simp only [Try.ntmps31, List.size_toArray, List.length_cons, List.length_nil, Nat.reduceAdd, Nat.reduceSub, Array.replicate_succ, Array.replicate_zero, List.push_toArray, List.append_toArray, List.nil_append, List.cons_append]
  gi_wp2
  gi_loopw [3] (fun _ wr => ∃ s, J s wr) (fun _ wr => match wr.cell? ⟨Bs, 0, none⟩ with | some (.string b) => b.size | _ => 0)
  case atStart => exact ⟨s0, h0⟩
  case round =>
    obtain ⟨s, hJ⟩ := hrel
    have hc := hcell _ _ hJ
    have y0 : wr.cell? ⟨Bs, 0, none⟩ = some (.string s) := (blk_cell hc 0).trans rfl
    by_cases c : s.toList = []
    · have c1 : (s.toList == []) = true := beq_iff_eq.mpr c
      gi_wp2
      go_end0
      exact ⟨⟨_, rfl⟩, .inl ⟨s, c, hJ⟩⟩
    · have c1 : (s.toList == []) = false := by simpa using c
      obtain ⟨k1, b1, b2, b3, b4, b5, b6, hv, hy⟩ := hY s wr hJ c
      have HY := Aside0.mk hy
      have HV := Aside0.mk hv
      clear hy hv
      gi_wp2_with (gi_at_call 32; refine (hget k1 s b1 b2 b3 b4 b5 b6 _ HV.out).mono ?_; rintro e w1 ⟨rfl, hb⟩; have y1 : w1.cell? ⟨Bs, 0, none⟩ = some (.string s) := (blk_cell (blk_below hc hb) 0).trans rfl)
      obtain ⟨fn, tmps, assign, body, hyy, hR⟩ := HY.out (w1.alloc (.cells #[.int .i64 b1, .int .i64 b2, .int .u64 b3, .string b4] 37)) (below_alloc hb _)
      rw [hyy]
      refine ⟨fun _ => hn, hR.mono ?_⟩
      rintro e W3 (⟨rfl, rfl, h1, h2, hc3, hJ3⟩ | ⟨rfl, hJx3⟩)
      · have y3 : W3.cell? ⟨Bs, 0, none⟩ = some (.string s) := (blk_cell hc3 0).trans rfl
        have g3 := blk_frozen hc3 0
        have p1 := eq_true (show 0 ≤ b5 by omega)
        have p2 := eq_true h2
        gi_wp2
        refine ⟨⟨_, hJ3⟩, ?_⟩
        rw [show (W3.setCell ⟨Bs, 0, none⟩ (.string (s.extract b5.toNat s.size))).cell? ⟨Bs, 0, none⟩ = some (.string (s.extract b5.toNat s.size)) from (blk_cell (blk_set hc3 0 _) 0).trans rfl, y0]
        show (s.extract b5.toNat s.size).size < s.size
        rw [ByteArray.size_extract]
        omega
      · gi_wp2
        refine bodyPost_ret (results_none rfl _ _ _) rfl ?_
        exact ⟨⟨_, rfl⟩, .inr hJx3⟩
end
/-- append(v, x) of one element, within a fence: where the box of x is the newest block. -/
theorem tuple_Get.append_in {F : Fence} {n : Nat} {P : Program} {α : Type} {ops : Array Oper} {rest : List Oper} {o : Oper} {a : Act} {Q : Exit → Act → World → Prop} (d : Kd α) {w0 W : World} (base : Nat) (hgd : o.guard = none) (s x : Operand) (t e : TypeId) (z : Value) (bytes : Nat)
    (ho : o.op = .call { callee := .builtin .append, args := #[s, x], argTypes := #[t, t] })
    (ht : P.underlying t = some (.slice e)) (hinfo : (P.info? e).map (fun i => (i.zero, i.size, i.bytes)) = some (some z, d.sz, bytes)) (hz : z.cells.size = d.sz) (hs0 : 0 < d.sz) (hb0 : 0 < bytes)
    (v : Value) (xs : List α) (p : α) (cs : List Value) (ok okp : Nat → Prop) (hs : a.eval s = v) (hx : a.eval x = .slice (some ⟨W.heap.size, 0, none⟩) 1 1) (hp : d.M W base okp p cs) (hokp : ∀ k, okp k → ok k ∧ some k ≠ v.ownBlock) (hfresh : ∀ k, W.heap.size ≤ k → ok k)
    (HO : d.R e W base ok v xs) (HB : Below base w0 W) (hbase : base ≤ W.heap.size) (hl : (xs.length + 1) * bytes ≤ 140737488355328)
    (h : ∀ v1 w1, d.R e w1 base ok v1 (xs ++ [p]) → Below base w0 w1 → W.grownBy w1 v.ownBlock → wpListIn F n P ops Q rest (a.put o.dst v1) w1) :
    wpListIn F n P ops Q (o :: rest) a (W.alloc (.cells cs.toArray e)) := by
  obtain ⟨h0, inner, hown, hr⟩ := HO
  have hys := d.K_len (d.K_of_M hp)
  have h1 := d.K_one (d.K_of_M hp)
  obtain ⟨i0, hi, hzz⟩ := Option.map_eq_some_iff.1 hinfo
  simp only [Prod.mk.injEq] at hzz
  obtain ⟨hz0, hz1, hz2⟩ := hzz
  have hlen : xs.length + 1 ≤ 140737488355328 := Nat.le_trans (Nat.le_mul_of_pos_right _ hb0) hl
  obtain ⟨v', w', hrun, hown', hg, _, hat⟩ := run_append_own_at (P := P) (W.alloc (.cells cs.toArray e)) base t o.type e i0 z d.sz bytes ht hi hz0 hz1 hz2 hz hs0 v xs.length inner (hown.alloc _) ⟨W.heap.size, 0, none⟩ 1 1 cs (by rw [hys]; simp)
    (by simpa using World.news_of_block (cs := cs.toArray) (t := e) (fr := (0, 0)) (heap_alloc_new W (.cells cs.toArray e))) h1 (by simp only [maxLen]; omega) hl (by simp; omega)
  have hg2 : W.grownBy w' v.ownBlock := World.grownBy.trans (World.grownBy_alloc W _ _) hg
  have hat2 : v'.ownBlock = v.ownBlock ∨ ∃ b, v'.ownBlock = some b ∧ W.heap.size ≤ b := by
    rcases hat with hat | hat
    · exact .inl hat
    · exact .inr ⟨_, hat, by simp⟩
  refine wpListIn_plain hgd fun K hK => ?_
  unfold Oper.wpIn
  refine ⟨?_, ?_⟩
  · simp [Oper.about, ho, resolve, Target.leads, Sem.run_pure]
  · rw [Oper.semAt_plain F _ _ (by rw [ho]; intro c hc'; cases hc')]
    simp [execOp, ho, resolve, invoke, builtin, hs, hx, hrun, Result.andThen]
    exact hK _ _ (h v' w' (Kd.R_appended h0 hr hp hokp hfresh hown' hg2 hat2) ((HB.alloc hbase _).grown hg (by simp; omega) (own_base hown)) hg2)
theorem tuple_Get.shape {w : World} {base : Nat} {v : Value} {xs : List S37} (h : Kd.R k37 37 w base (fun _ => True) v xs) : ∃ a c, v = .slice a xs.length c := by
  obtain ⟨_, h2⟩ := h
  obtain ⟨a, c, h, _⟩ := OwnRow.slice_ h2
  exact ⟨a, c, h⟩
theorem tuple_Get.shape3 {w : World} {base : Nat} {v : Value} {xs : List S37} (h : Kd.R k37 37 w base (fun _ => True) v xs) : ∃ a n c, v = .slice a n c := by
  obtain ⟨_, h2⟩ := h
  obtain ⟨a, c, h, _⟩ := OwnRow.slice_ h2
  exact ⟨a, _, c, h⟩
/-- A range over a function value is opened: its record and the block for the rounds' deferred calls are laid; what is left is the one call. -/
theorem tuple_Get.range_open {F : Fence} {n : Nat} {P : Program} {g : Operand} {ps : Array Tmp} {assign body : Code} {Q : Exit → Act → World → Prop} {a : Act} {w : World} (hro : F.round = none) (h1 : 1 ≤ n) {gf : Nat} {lb : Array Value} (hg : a.eval g = .func (.func gf) #[] lb) (hFg : F.fn gf) (eg : ∀ args w, (callFunc gf args).run P w = .ok (.enter gf args) w) {D : Nat} (hD : w.heap.size = D)
    (h : ∀ (fn : FuncId) (rec : LoopState → Option Code → Loop), F.fn fn → (rec = fun st pe => { state := st, pending := pe, fn := fn, tmps := a.tmps, params := ps, assign := assign, body := body, defers := D }) →
      CallsIn F (n - 1) P gf (#[.func (.yield (D + 1)) #[] #[]] ++ lb) ((w.alloc (.deferred (some []))).alloc (.loop (rec .ready none))) fun e W => (∃ v, e = .returned v) ∧
        ((W.heap[D + 1]? = some (.loop (rec .ready none)) ∧ Q .normal { a with defers := { target := .collected D, args := #[] } :: a.defers } (W.putObj (D + 1) (.loop { rec .ready none with state := .exhausted }))) ∨
         (∃ c, W.heap[D + 1]? = some (.loop (rec .done (some c))) ∧ c.wpIn F n P Q { a with defers := { target := .collected D, args := #[] } :: a.defers } (W.putObj (D + 1) (.loop { rec .done (some c) with state := .exhausted }))))) :
    (Code.rangeFunc g ps assign body).wpIn F n P Q a w := by
  subst hD
  refine wpIn_rangeFunc fun fn hfn => ?_
  rw [hro]
  obtain ⟨rec, hrec⟩ : ∃ rec : LoopState → Option Code → Loop, rec = fun st pe => { state := st, pending := pe, fn := fn, tmps := a.tmps, params := ps, assign := assign, body := body, defers := w.heap.size } := ⟨_, rfl⟩
  refine ⟨w.heap.size + 1, [{ target := .collected w.heap.size, args := #[] }], (w.alloc (.deferred (some []))).alloc (.loop (rec .ready none)), { target := .fn (.func gf) lb, args := #[.func (.yield (w.heap.size + 1)) #[] #[]] }, (w.alloc (.deferred (some []))).alloc (.loop (rec .ready none)), gf,
    #[.func (.yield (w.heap.size + 1)) #[] #[]] ++ lb, (w.alloc (.deferred (some []))).alloc (.loop (rec .ready none)), ?_, ?_, ?_, ?_, fun _ => h1, ?_⟩
  · rw [hrec]; exact run_enterLoop_outer _ _ _ _ _
  · simp only [resolve, hg]
    simp [go_sem]
  · intro f' hf'; simp [Target.leads] at hf'; subst hf'; exact hFg
  · simp [invoke, go_sem, eg]
  · refine (h fn rec hfn hrec).mono ?_
    rintro e W ⟨⟨v, rfl⟩, ⟨hl, hq⟩ | ⟨c, hl, hq⟩⟩
    · refine ⟨none, _, ?_, hq⟩
      have := run_endLoop (P := P) hl (by rw [hrec]; simp)
      rw [hrec] at this ⊢
      exact this
    · refine ⟨some c, _, ?_, hq⟩
      have := run_endLoop (P := P) hl (by rw [hrec]; simp)
      rw [hrec] at this ⊢
      exact this
/-- One round is opened: the loop's variables are assigned, the record is busy, the body runs. -/
theorem tuple_Get.round_open {F : Fence} {m l : Nat} {P : Program} {ps : Array Tmp} {assign body : Code} {tmps : Array Value} {D : Nat} {fn : FuncId} {rec : LoopState → Option Code → Loop} (hfn : F.fn fn) (hrec : rec = fun st pe => { state := st, pending := pe, fn := fn, tmps := tmps, params := ps, assign := assign, body := body, defers := D })
    {W : World} {args : Array Value} {R : Ending → World → Prop} (hl : W.heap[l]? = some (.loop (rec .ready none))) (hs : args.size = ps.size)
    (h : assign.wpIn (F.inRound l) m P (Exit.then (fun a1 W1 => W1.heap[l]? = some (.loop (rec .ready none)) ∧ body.wpIn (F.inRound l) m P (roundPost P l R) a1 (W1.putObj l (.loop { rec .ready none with state := .busy }))) (fun _ _ _ => False)) { tmps := (ps.zip args).foldl (fun t (p, v) => t.setIfInBounds p v) tmps, defers := [] } W) :
    YieldAt F m P l args W R := by
  have hy := run_yield (P := P) (args := args) hl (by rw [hrec]; exact hs)
  rw [hrec] at hy
  refine ⟨fn, _, assign, body, hy, roundIn_of_wpIn hfn (wpIn_mono h ?_)⟩
  rintro e a1 W1 hp
  cases e with
  | normal =>
    obtain ⟨hl1, hb⟩ := hp
    exact ⟨_, run_beginRound hl1 (by rw [hrec]), hb⟩
  | _ => exact hp
theorem tuple_Get.R_put {W : World} {base l : Nat} {v : Value} {xs : List S37} {o0 o : Obj} (h : Kd.R k37 37 W base (fun _ => True) v xs) (hl : W.heap[l]? = some o0) (ho : o0.isCells = false) : Kd.R k37 37 (W.putObj l o) base (fun _ => True) v xs :=
  Kd.R_mono (Kd.R_step (Kd.R_bound h) (fun k hk _ => World.putObj_heap_other (fun e => by
    obtain ⟨_, _, _, q, _, cells, hc⟩ := hk
    rw [e, hl] at hc
    cases hc
    cases ho))) (fun _ _ => trivial)
theorem tuple_Get.R_no {W : World} {base l : Nat} {v : Value} {xs : List S37} {o0 : Obj} (h : Kd.R k37 37 W base (fun _ => True) v xs) (hl : W.heap[l]? = some o0) (ho : o0.isCells = false) : some l ≠ v.ownBlock := by
  obtain ⟨_, inner, hown, _⟩ := h
  intro e
  obtain ⟨cells, hc⟩ := own_typed hown l e.symm
  rw [hl] at hc
  cases hc
  cases ho
theorem tuple_Get.blk_put {W : World} {g l : Nat} {o o' : Obj} (h : W.heap[g]? = some o) (hne : g ≠ l) : (W.putObj l o').heap[g]? = some o := (World.putObj_heap_other hne).trans h
theorem tuple_Get.below_put {B l : Nat} {w W : World} {o : Obj} (h : Below B w W) (hl : B ≤ l) : Below B w (W.putObj l o) :=
  ⟨h.os, h.tape, h.output, by rw [World.putObj_size]; exact h.size, fun k hk => (World.putObj_heap_other (by omega)).trans (h.block k hk)⟩
theorem tuple_Get.read {tmps : Array Value} {W : World} {B : Nat} {a : Option Addr} {n c : Nat} {y : Int} (h2 : tmps[2]? = some (.pointer (some ⟨B, 0, none⟩))) (h3 : tmps[3]? = some (.pointer (some ⟨B + 1, 0, none⟩)))
    (c1 : W.heap[B]? = some (.cells #[.slice a n c] 22 (0, 0))) (c2 : W.heap[B + 1]? = some (.cells #[.int .i64 y] 25 (0, 0))) : (results Try.f17 tmps).run Try.prog W = .ok (.tuple #[.slice a n c, .int .i64 y]) W := by
  have z1 : W.cell? ⟨B, 0, none⟩ = some (.slice a n c) := (blk_cell c1 0).trans rfl
  have z2 : W.cell? ⟨B + 1, 0, none⟩ = some (.int .i64 y) := (blk_cell c2 0).trans rfl
  obtain ⟨l2, e2⟩ := Array.getElem?_eq_some_iff.1 h2
  obtain ⟨l3, e3⟩ := Array.getElem?_eq_some_iff.1 h3
  simp [results, Try.results17, go_sem, z1, z2, h2, h3]
theorem tuple_Get.door {F : Fence} {m : Nat} {tmps : Array Value} {W : World} {B : Nat} {a : Option Addr} {n c : Nat} {y : Int} {R : Ending → World → Prop} (h2 : tmps[2]? = some (.pointer (some ⟨B, 0, none⟩))) (h3 : tmps[3]? = some (.pointer (some ⟨B + 1, 0, none⟩)))
    (c1 : W.heap[B]? = some (.cells #[.slice a n c] 22 (0, 0))) (c2 : W.heap[B + 1]? = some (.cells #[.int .i64 y] 25 (0, 0))) (c4 : W.heap[B + 4]? = some (.deferred (some []))) (h : R (.returned (.tuple #[.slice a n c, .int .i64 y])) (W.putObj (B + 4) (.deferred none))) :
    bodyPostM F m Try.prog Try.f17 R Exit.ret { tmps := tmps, defers := [{ target := .collected (B + 4), args := #[] }] } W :=
  ⟨by simp, .inl ⟨_, _, rfl, run_takeDeferred c4, ⟨_, tuple_Get.read h2 h3 (tuple_Get.blk_put c1 (by omega)) (tuple_Get.blk_put c2 (by omega)), h⟩⟩⟩
/-- What lies between two rounds. -/
structure tuple_Get.J (w : World) (r1 : List S37) (r2 : Int) (rec : LoopState → Option Code → Loop) (s : ByteArray) (W : World) : Prop where
  run : ∃ k xs v, tuple_Get.l0 k s xs = some (r1, r2) ∧ Kd.R k37 37 W w.heap.size (fun _ => True) v xs ∧ W.heap[w.heap.size + 2]? = some (.cells #[v] 22 (0, 0))
  c0 : W.heap[w.heap.size]? = some (.cells #[.slice none 0 0] 22 (0, 0))
  c1 : W.heap[w.heap.size + 1]? = some (.cells #[.int .i64 0] 25 (0, 0))
  c3 : W.heap[w.heap.size + 3]? = some (.cells #[.string s] 9 (0, 0))
  c4 : W.heap[w.heap.size + 4]? = some (.deferred (some []))
  c5 : W.heap[w.heap.size + 5]? = some (.loop (rec .ready none))
  below : Below w.heap.size w W
/-- What lies where a round has left. -/
structure tuple_Get.Jx (w : World) (r1 : List S37) (r2 : Int) (rec : LoopState → Option Code → Loop) (W : World) : Prop where
  r1 : r1 = []
  r2 : r2 = 3
  c0 : W.heap[w.heap.size]? = some (.cells #[.slice none 0 0] 22 (0, 0))
  c1 : W.heap[w.heap.size + 1]? = some (.cells #[.int .i64 3] 25 (0, 0))
  c4 : W.heap[w.heap.size + 4]? = some (.deferred (some []))
  c5 : W.heap[w.heap.size + 5]? = some (.loop (rec .done (some .ret)))
  below : Below w.heap.size w W
section
attribute [local go_sem] Oper.semAt_some
set_option maxRecDepth 100000 in
set_option maxHeartbeats 2000000 in
theorem tuple_Get.calls_in (F : Fence) (n : Nat) (k : Nat) (a0 : ByteArray) (r1 : List (S37)) (r2 : Int) (w : World) (h : tuple_Get.f k a0 = some (r1, r2)) (hA : F.fn 17) (hB : F.fn 22) (hC : F.fn 31) (hD : F.fn 32) (hro : F.round = none) (hn : 4 ≤ n)
    (hvals : ∀ s w, CallsIn F (n - 1) Try.prog 22 #[.string s] w fun e w' => e = .returned (.func (.func 31) #[] #[.pointer (some ⟨w.heap.size, 0, none⟩)]) ∧ w' = w.alloc (.cells #[.string s] 9))
    (hget : ∀ k s b1 b2 b3 b4 b5 b6 w, value_Get.f k s = some (b1, b2, b3, b4, b5, b6) → CallsIn F (n - 1 - 1) Try.prog 32 #[.string s] w fun e w' => e = .returned (.tuple #[.agg #[.int .i64 b1, .int .i64 b2, .int .u64 b3, .string b4], .int .i64 b5, .int .i64 b6]) ∧ Below w.heap.size w w') :
    CallsIn F n Try.prog 17 #[.string a0] w fun e w' => ∃ v0_ : Value, e = .returned (.tuple #[v0_, .int .i64 r2]) ∧ Kd.R k37 37 w' w.heap.size (fun _ => True) v0_ r1 ∧ Below w.heap.size w w' := by
  have h1 : 1 ≤ n := by omega
  have hH := Aside0.mk h
  clear h
  refine callsIn_of_wp_marks Try.func17 rfl hA ?_ hro
  simp only [Try.ntmps17, List.size_toArray, List.length_cons, List.length_nil, Nat.reduceAdd, Nat.reduceSub, Array.replicate_succ, Array.replicate_zero, List.push_toArray, List.append_toArray, List.nil_append, List.cons_append]
  gi_wp2_with (gi_at_call 22; refine (hvals _ _).mono ?_; rintro e w' ⟨rfl, rfl⟩)
  obtain ⟨W0, hW0⟩ : ∃ W0, ((((w.alloc (Obj.cells #[Value.slice none 0 0] 22)).alloc (Obj.cells #[Value.int IntKind.i64 0] 25)).alloc (Obj.cells #[Value.slice none 0 0] 22)).alloc (Obj.cells #[Value.string a0] 9)) = W0 := ⟨_, rfl⟩
  have d0 : W0.heap[w.heap.size]? = some (.cells #[.slice none 0 0] 22 (0, 0)) := by rw [← hW0]; exact blk_alloc (blk_alloc (blk_alloc (blk_new _ _) _) _) _
  have d1 : W0.heap[w.heap.size + 1]? = some (.cells #[.int .i64 0] 25 (0, 0)) := by
    rw [← hW0]
    have h := blk_new (w.alloc (Obj.cells #[Value.slice none 0 0] 22)) (Obj.cells #[Value.int IntKind.i64 0] 25)
    rw [World.size_alloc] at h
    exact blk_alloc (blk_alloc h _) _
  have d2 : W0.heap[w.heap.size + 2]? = some (.cells #[.slice none 0 0] 22 (0, 0)) := by
    rw [← hW0]
    have h := blk_new ((w.alloc (Obj.cells #[Value.slice none 0 0] 22)).alloc (Obj.cells #[Value.int IntKind.i64 0] 25)) (Obj.cells #[Value.slice none 0 0] 22)
    rw [World.size_alloc, World.size_alloc] at h
    exact blk_alloc h _
  have d3 : W0.heap[w.heap.size + 3]? = some (.cells #[.string a0] 9 (0, 0)) := by
    rw [← hW0]
    have h := blk_new (((w.alloc (Obj.cells #[Value.slice none 0 0] 22)).alloc (Obj.cells #[Value.int IntKind.i64 0] 25)).alloc (Obj.cells #[Value.slice none 0 0] 22)) (Obj.cells #[Value.string a0] 9)
    rw [World.size_alloc, World.size_alloc, World.size_alloc] at h
    exact h
  have dB : Below w.heap.size w W0 := by rw [← hW0]; exact below_alloc (below_alloc (below_alloc (below_alloc (Below.refl _ _) _) _) _) _
  have dS : W0.heap.size = w.heap.size + 4 := by rw [← hW0]; simp
  rw [hW0]
  clear hW0
  refine tuple_Get.range_open hro h1 rfl hC (fun args w => by kernel_rfl) dS fun fn rec hfn hrec => ?_
  refine (tuple_Get.iter F (n - 1) (w.heap.size + 5) (w.heap.size + 3) hC hD hro (by omega) (tuple_Get.J w r1 r2 rec) (tuple_Get.Jx w r1 r2 rec) hget (fun s W h => h.c3) ?hY a0 _ ?h0).mono ?hE
  case h0 =>
    have e4 := blk_new W0 (.deferred (some []))
    rw [dS] at e4
    have e5 := blk_new (W0.alloc (.deferred (some []))) (.loop (rec .ready none))
    rw [World.size_alloc, dS] at e5
    exact ⟨⟨k, [], .slice none 0 0, hH.out, Kd.R_nil _ _ _ _ _, blk_alloc (blk_alloc d2 _) _⟩, blk_alloc (blk_alloc d0 _) _, blk_alloc (blk_alloc d1 _) _, blk_alloc (blk_alloc d3 _) _, blk_alloc e4 _, e5, below_alloc (below_alloc dB _) _⟩
  case hE =>
    rintro e W ⟨hv, ⟨s, hs, hJ⟩ | hJ⟩
    · refine ⟨hv, .inl ⟨hJ.c5, ?_⟩⟩
      obtain ⟨kq, xs, v, hl, hR, hc2⟩ := hJ.run
      cases kq with
      | zero => exact absurd hl (by simp [tuple_Get.l0])
      | succ k1 =>
      simp only [tuple_Get.l0] at hl
      rw [if_pos hs] at hl
      simp only [Option.some.injEq, Prod.mk.injEq] at hl
      obtain ⟨rfl, rfl⟩ := hl
      obtain ⟨va, vc, rfl⟩ := tuple_Get.shape hR
      obtain ⟨W1, hW1⟩ : ∃ W1, W.putObj (w.heap.size + 4 + 1) (.loop { rec .ready none with state := .exhausted }) = W1 := ⟨_, rfl⟩
      have e0 : W1.heap[w.heap.size]? = _ := hW1 ▸ tuple_Get.blk_put hJ.c0 (by omega)
      have e1 : W1.heap[w.heap.size + 1]? = _ := hW1 ▸ tuple_Get.blk_put hJ.c1 (by omega)
      have e2 : W1.heap[w.heap.size + 2]? = _ := hW1 ▸ tuple_Get.blk_put hc2 (by omega)
      have e4 : W1.heap[w.heap.size + 4]? = _ := hW1 ▸ tuple_Get.blk_put hJ.c4 (by omega)
      have hR1 := hW1 ▸ tuple_Get.R_put (o := .loop { rec .ready none with state := .exhausted }) hR hJ.c5 rfl
      have hB1 := hW1 ▸ tuple_Get.below_put (o := .loop { rec .ready none with state := .exhausted }) (l := w.heap.size + 4 + 1) hJ.below (by omega)
      rw [hW1]
      have HR := Aside0.mk hR1
      have HB := Aside0.mk hB1
      have y0 : W1.cell? ⟨w.heap.size, 0, none⟩ = some (.slice none 0 0) := (blk_cell e0 0).trans rfl
      have g0 := blk_frozen e0 0
      have y1 : W1.cell? ⟨w.heap.size + 1, 0, none⟩ = some (.int .i64 0) := (blk_cell e1 0).trans rfl
      have g1 := blk_frozen e1 0
      have y2 : W1.cell? ⟨w.heap.size + 1 + 1, 0, none⟩ = some (.slice va xs.length vc) := (blk_cell e2 0).trans rfl
      have E0 := Aside0.mk e0
      have E1 := Aside0.mk e1
      have E4 := Aside0.mk e4
      clear e0 e1 e2 e4 hR1 hB1 hW1 hR hJ hc2
      gi_wp2
      have f4 := (Below.heap_setCell (W1.setCell ⟨w.heap.size, 0, none⟩ (.slice va xs.length vc)) ⟨w.heap.size + 1, 0, none⟩ (.int .i64 0) (w.heap.size + 4) (by simp)).trans ((Below.heap_setCell W1 ⟨w.heap.size, 0, none⟩ (.slice va xs.length vc) (w.heap.size + 4) (by simp)).trans E4.out)
      refine tuple_Get.door (B := w.heap.size) rfl rfl (blk_far (blk_set E0.out 0 _) (by simp) _) (blk_set (blk_far E1.out (by simp) _) 0 _) f4 ⟨_, rfl, tuple_Get.R_put ?_ f4 rfl, tuple_Get.below_put (below_set (below_set HB.out (Nat.le_refl _)) (Nat.le_succ _)) (by omega)⟩
      exact Kd.R_mono (Kd.R_far (p := ⟨w.heap.size + 1, 0, none⟩) (Kd.R_far (p := ⟨w.heap.size, 0, none⟩) (Kd.R_types (Kd.R_types HR.out E0.out (by decide)) E1.out (by decide)) (fun _ hk => hk.1.2) _) (fun _ hk => hk.2) _) (fun _ _ => trivial)
    · obtain ⟨rfl, rfl, c0, c1, c4, c5, hb⟩ := hJ
      refine ⟨hv, .inr ⟨.ret, c5, ?_⟩⟩
      gi_wp2
      exact tuple_Get.door (B := w.heap.size) rfl rfl (tuple_Get.blk_put c0 (by omega)) (tuple_Get.blk_put c1 (by omega)) (tuple_Get.blk_put c4 (by omega)) ⟨_, rfl, Kd.R_nil _ _ _ _ _, tuple_Get.below_put (tuple_Get.below_put hb (by omega)) (by omega)⟩
  case hY =>
    intro s W hJ hs
    obtain ⟨kq, xs, v, hl, hR, hc2⟩ := hJ.run
    cases kq with
    | zero => exact absurd hl (by simp [tuple_Get.l0])
    | succ k1 =>
    simp only [tuple_Get.l0] at hl
    rw [if_neg hs] at hl
    replace hl := Option.bind_eq_some_iff.mp hl
    obtain ⟨⟨b1, b2, b3, b4, b5, b6⟩, hv, H⟩ := hl
    dsimp only at H
    obtain ⟨va, vc, rfl⟩ := tuple_Get.shape hR
    refine ⟨k1, b1, b2, b3, b4, b5, b6, hv, fun W2 hb => ?_⟩
    have q0 := blk_below hJ.c0 hb
    have q1 := blk_below hJ.c1 hb
    have q2 := blk_below hc2 hb
    have q3 := blk_below hJ.c3 hb
    have q4 := blk_below hJ.c4 hb
    have q5 := blk_below hJ.c5 hb
    have qR := Kd.R_below hR hb
    have qB := below_step hJ.below hb
    clear hJ hc2 hR hb hv
    have HK := Aside0.mk (show ∀ j : Option Code, ({ ({ rec .ready none with state := .busy } : Loop) with state := if j.isNone then .ready else .done, pending := j } : Loop) = rec (if j.isNone then .ready else .done) j from fun j => by rw [hrec])
    refine tuple_Get.round_open hfn hrec q5 rfl ?_
    clear hrec
    gi_wp2
    refine ⟨blk_alloc q5 _, ?_⟩
    obtain ⟨W3, hW3⟩ : ∃ W3, (W2.alloc (Obj.cells #[Value.int IntKind.i64 b1, Value.int IntKind.i64 b2, Value.int IntKind.u64 b3, Value.string b4] 37)).putObj (w.heap.size + 5) (.loop { rec .ready none with state := .busy }) = W3 := ⟨_, rfl⟩
    have hne : W2.heap.size ≠ w.heap.size + 5 := by have := blk_lt q5; omega
    have E0 := Aside0.mk (show W3.heap[w.heap.size]? = some (.cells #[.slice none 0 0] 22 (0, 0)) from hW3 ▸ tuple_Get.blk_put (blk_alloc q0 _) (by omega))
    have E1 := Aside0.mk (show W3.heap[w.heap.size + 1]? = some (.cells #[.int .i64 0] 25 (0, 0)) from hW3 ▸ tuple_Get.blk_put (blk_alloc q1 _) (by omega))
    have E2 := Aside0.mk (show W3.heap[w.heap.size + 2]? = some (.cells #[.slice va xs.length vc] 22 (0, 0)) from hW3 ▸ tuple_Get.blk_put (blk_alloc q2 _) (by omega))
    have E3 := Aside0.mk (show W3.heap[w.heap.size + 3]? = some (.cells #[.string s] 9 (0, 0)) from hW3 ▸ tuple_Get.blk_put (blk_alloc q3 _) (by omega))
    have E4 := Aside0.mk (show W3.heap[w.heap.size + 4]? = some (.deferred (some [])) from hW3 ▸ tuple_Get.blk_put (blk_alloc q4 _) (by omega))
    have E5 := Aside0.mk (show W3.heap[w.heap.size + 5]? = some (.loop { rec .ready none with state := .busy }) from hW3 ▸ World.putObj_heap_same (blk_lt (blk_alloc q5 _)))
    have EV := Aside0.mk (show W3.heap[W2.heap.size]? = some (.cells #[.int .i64 b1, .int .i64 b2, .int .u64 b3, .string b4] 37 (0, 0)) from hW3 ▸ tuple_Get.blk_put (blk_new W2 _) hne)
    have HR := Aside0.mk (show Kd.R k37 37 W3 w.heap.size (fun _ => True) (.slice va xs.length vc) xs from hW3 ▸ tuple_Get.R_put (Kd.R_alloc qR _) (blk_alloc q5 _) rfl)
    have HB := Aside0.mk (show Below w.heap.size w W3 from hW3 ▸ tuple_Get.below_put (below_alloc qB _) (by omega))
    have hgb : w.heap.size ≤ W2.heap.size := qB.size
    obtain ⟨gv, hgv⟩ : ∃ gv, W2.heap.size = gv := ⟨_, rfl⟩
    rw [hW3]
    simp only [hgv] at EV hgb hne ⊢
    clear q0 q1 q2 q3 q4 q5 qR qB hW3 hgv
    have y0 : W3.cell? ⟨w.heap.size, 0, none⟩ = some (.slice none 0 0) := (blk_cell E0.out 0).trans rfl
    have g0 := blk_frozen E0.out 0
    have y1 : W3.cell? ⟨w.heap.size + 1, 0, none⟩ = some (.int .i64 0) := (blk_cell E1.out 0).trans rfl
    have g1 := blk_frozen E1.out 0
    have y2 : W3.cell? ⟨w.heap.size + 1 + 1, 0, none⟩ = some (.slice va xs.length vc) := (blk_cell E2.out 0).trans rfl
    have g2 : W3.frozen? ⟨w.heap.size + 1 + 1, 0, none⟩ = false := blk_frozen E2.out 0
    have v0 : W3.cell? ⟨gv, 0, none⟩ = some (.int .i64 b1) := (blk_cell EV.out 0).trans rfl
    have v1 : W3.cell? ⟨gv, 1, none⟩ = some (.int .i64 b2) := (blk_cell EV.out 1).trans rfl
    have v2 : W3.cell? ⟨gv, 2, none⟩ = some (.int .u64 b3) := (blk_cell EV.out 2).trans rfl
    have v3 : W3.cell? ⟨gv, 3, none⟩ = some (.string b4) := (blk_cell EV.out 3).trans rfl
    by_cases c5 : b6 = 0
    · rw [if_pos c5] at H
      have c5b0 : (b6 == 0) = true := beq_iff_eq.mpr c5
      have c5b1 : (b6 != 0) = false := bne_eq_false_iff_eq.mpr c5
      by_cases c6 : xs.length = 16
      · rw [if_pos c6] at H
        have c6b : ((xs.length : Int) == 16) = true := by rw [c6]; rfl
        simp only [Option.some.injEq, Prod.mk.injEq] at H
        obtain ⟨rfl, rfl⟩ := H
        gi_wp2
        obtain ⟨W5, hW5⟩ : ∃ W5, (W3.setCell ⟨w.heap.size, 0, none⟩ (.slice none 0 0)).setCell ⟨w.heap.size + 1, 0, none⟩ (.int .i64 3) = W5 := ⟨_, rfl⟩
        have f0 : W5.heap[w.heap.size]? = some (.cells #[.slice none 0 0] 22 (0, 0)) := hW5 ▸ blk_far (blk_set E0.out 0 _) (by simp) _
        have f1 : W5.heap[w.heap.size + 1]? = some (.cells #[.int .i64 3] 25 (0, 0)) := hW5 ▸ blk_set (blk_far E1.out (by simp) _) 0 _
        have f4 : W5.heap[w.heap.size + 4]? = some (.deferred (some [])) := hW5 ▸ (Below.heap_setCell _ _ _ _ (by simp)).trans ((Below.heap_setCell _ _ _ _ (by simp)).trans E4.out)
        have f5 : W5.heap[w.heap.size + 5]? = some (.loop { rec .ready none with state := .busy }) := hW5 ▸ (Below.heap_setCell _ _ _ _ (by simp)).trans ((Below.heap_setCell _ _ _ _ (by simp)).trans E5.out)
        have fB : Below w.heap.size w W5 := hW5 ▸ below_set (below_set HB.out (Nat.le_refl _)) (Nat.le_succ _)
        rw [hW5]
        refine ⟨_, _, run_endRound (some .ret) f5, .inr ⟨rfl, ⟨rfl, rfl, tuple_Get.blk_put f0 (by omega), tuple_Get.blk_put f1 (by omega), tuple_Get.blk_put f4 (by omega), ?_, tuple_Get.below_put fB (by omega)⟩⟩⟩
        rw [HK.out (some .ret)]
        exact World.putObj_heap_same (blk_lt f5)
      · rw [if_neg c6] at H
        have c6b : ((xs.length : Int) == 16) = false := beq_eq_false_iff_ne.mpr (by omega)
        by_cases c7 : 1 ≤ b5 ∧ b5 ≤ (s.size : Int) ∧ xs.length < 16
        · rw [if_pos c7] at H
          obtain ⟨h7, h8, h9⟩ := c7
          have HL := Aside0.mk h9
          have H7 := Aside0.mk h7
          have H8 := Aside0.mk h8
          have HH := Aside0.mk H
          clear h7 h8 h9 H
          gi_wp2_with (gi_at_builtin; refine tuple_Get.append_in k37 (w0 := w) w.heap.size rfl (.tmp 18) (.tmp 20) 22 37 (.agg #[(.int .i64 0), (.int .i64 0), (.int .u64 0), (.string ⟨#[]⟩)]) 40 rfl Try.underlying22 info37 rfl (by decide) (by omega) (.slice va xs.length vc) xs (⟨b1, b2, b3, b4⟩ : S37) [.int .i64 b1, .int .i64 b2, .int .u64 b3, .string b4] (fun _ => True) (fun _ => False) rfl rfl ?aP (fun _ hk => hk.elim) (fun _ _ => trivial) HR.out HB.out HB.out.size (by have := HL.out; omega) ?_; (case aP => exact k37_mkM _ _ _ (⟨b1, b2, b3, b4⟩ : S37)); intro v23 w23 ho hb hg; have G0 := Aside0.mk (blk_grown E0.out hg (Kd.R_ne HR.out E0.out (by decide))); have G1 := Aside0.mk (blk_grown E1.out hg (Kd.R_ne HR.out E1.out (by decide))); have G2 := Aside0.mk (blk_grown E2.out hg (Kd.R_ne HR.out E2.out (by decide))); have G3 := Aside0.mk (blk_grown E3.out hg (Kd.R_ne HR.out E3.out (by decide))); have G4 := Aside0.mk (blk_grown E4.out hg (tuple_Get.R_no HR.out E4.out rfl)); have G5 := Aside0.mk (blk_grown E5.out hg (tuple_Get.R_no HR.out E5.out rfl)); have GR := Aside0.mk ho; have GB := Aside0.mk hb; clear ho hb hg; have yz : w23.cell? ⟨w.heap.size + 1 + 1, 0, none⟩ = some (.slice va xs.length vc) := (blk_cell G2.out 0).trans rfl; have gz : w23.frozen? ⟨w.heap.size + 1 + 1, 0, none⟩ = false := blk_frozen G2.out 0; obtain ⟨vb, vm, vd, rfl⟩ := tuple_Get.shape3 GR.out)
          obtain ⟨W5, hW5⟩ : ∃ W5, w23.setCell ⟨w.heap.size + 1 + 1, 0, none⟩ (.slice vb vm vd) = W5 := ⟨_, rfl⟩
          have f0 : W5.heap[w.heap.size]? = some (.cells #[.slice none 0 0] 22 (0, 0)) := hW5 ▸ blk_far G0.out (by show w.heap.size ≠ w.heap.size + 1 + 1; omega) _
          have f1 : W5.heap[w.heap.size + 1]? = some (.cells #[.int .i64 0] 25 (0, 0)) := hW5 ▸ blk_far G1.out (by show w.heap.size + 1 ≠ w.heap.size + 1 + 1; omega) _
          have f2 : W5.heap[w.heap.size + 2]? = some (.cells #[.slice vb vm vd] 22 (0, 0)) := hW5 ▸ blk_set G2.out 0 _
          have f3 : W5.heap[w.heap.size + 3]? = some (.cells #[.string s] 9 (0, 0)) := hW5 ▸ blk_far G3.out (by show w.heap.size + 3 ≠ w.heap.size + 1 + 1; omega) _
          have f4 : W5.heap[w.heap.size + 4]? = some (.deferred (some [])) := hW5 ▸ (Below.heap_setCell _ _ _ _ (by show w.heap.size + 4 ≠ w.heap.size + 1 + 1; omega)).trans G4.out
          have f5 : W5.heap[w.heap.size + 5]? = some (.loop { rec .ready none with state := .busy }) := hW5 ▸ (Below.heap_setCell _ _ _ _ (by show w.heap.size + 5 ≠ w.heap.size + 1 + 1; omega)).trans G5.out
          have fB : Below w.heap.size w W5 := hW5 ▸ below_set GB.out (by show _ ≤ w.heap.size + 1 + 1; omega)
          have fR : Kd.R k37 37 W5 w.heap.size (fun _ => True) (.slice vb vm vd) (xs ++ [(⟨b1, b2, b3, b4⟩ : S37)]) := hW5 ▸ Kd.R_mono (Kd.R_far (p := ⟨w.heap.size + 1 + 1, 0, none⟩) (Kd.R_types GR.out G2.out (by decide)) (fun _ hk => hk.2) _) (fun _ _ => trivial)
          rw [hW5]
          have hend := run_endRound (P := Try.prog) none f5
          rw [HK.out none] at hend
          refine ⟨_, _, hend, .inl ⟨rfl, H7.out, H8.out, tuple_Get.blk_put f3 (by omega), ?_⟩⟩
          have s3 := tuple_Get.blk_put (o' := .loop (rec (if (none : Option Code).isNone then .ready else .done) none)) f3 (show w.heap.size + 3 ≠ w.heap.size + 5 by omega)
          exact ⟨⟨k1, _, _, HH.out, Kd.R_mono (Kd.R_far (p := ⟨w.heap.size + 3, 0, none⟩) (Kd.R_types (tuple_Get.R_put fR f5 rfl) s3 (by decide)) (fun _ hk => hk.2) _) (fun _ _ => trivial), blk_far (tuple_Get.blk_put f2 (by omega)) (by simp) _⟩,
            blk_far (tuple_Get.blk_put f0 (by omega)) (by simp) _, blk_far (tuple_Get.blk_put f1 (by omega)) (by simp) _, blk_set s3 0 _, (Below.heap_setCell _ _ _ _ (by simp)).trans (tuple_Get.blk_put f4 (by omega)), (Below.heap_setCell _ _ _ _ (by simp)).trans (World.putObj_heap_same (blk_lt f5)), below_set (tuple_Get.below_put fB (by omega)) (by show _ ≤ w.heap.size + 3; omega)⟩
        · rw [if_neg c7] at H
          exact absurd H (by simp)
    · rw [if_neg c5] at H
      have c5b0 : (b6 == 0) = false := beq_eq_false_iff_ne.mpr c5
      have c5b1 : (b6 != 0) = true := bne_iff_ne.mpr c5
      simp only [Option.some.injEq, Prod.mk.injEq] at H
      obtain ⟨rfl, rfl⟩ := H
      gi_wp2
      obtain ⟨W5, hW5⟩ : ∃ W5, (W3.setCell ⟨w.heap.size, 0, none⟩ (.slice none 0 0)).setCell ⟨w.heap.size + 1, 0, none⟩ (.int .i64 3) = W5 := ⟨_, rfl⟩
      have f0 : W5.heap[w.heap.size]? = some (.cells #[.slice none 0 0] 22 (0, 0)) := hW5 ▸ blk_far (blk_set E0.out 0 _) (by simp) _
      have f1 : W5.heap[w.heap.size + 1]? = some (.cells #[.int .i64 3] 25 (0, 0)) := hW5 ▸ blk_set (blk_far E1.out (by simp) _) 0 _
      have f4 : W5.heap[w.heap.size + 4]? = some (.deferred (some [])) := hW5 ▸ (Below.heap_setCell _ _ _ _ (by simp)).trans ((Below.heap_setCell _ _ _ _ (by simp)).trans E4.out)
      have f5 : W5.heap[w.heap.size + 5]? = some (.loop { rec .ready none with state := .busy }) := hW5 ▸ (Below.heap_setCell _ _ _ _ (by simp)).trans ((Below.heap_setCell _ _ _ _ (by simp)).trans E5.out)
      have fB : Below w.heap.size w W5 := hW5 ▸ below_set (below_set HB.out (Nat.le_refl _)) (Nat.le_succ _)
      rw [hW5]
      refine ⟨_, _, run_endRound (some .ret) f5, ⟨rfl, ⟨rfl, rfl, tuple_Get.blk_put f0 (by omega), tuple_Get.blk_put f1 (by omega), tuple_Get.blk_put f4 (by omega), ?_, tuple_Get.below_put fB (by omega)⟩⟩⟩
      rw [HK.out (some .ret)]
      exact World.putObj_heap_same (blk_lt f5)
end
set_option maxHeartbeats 1000000 in
theorem tuple_Get.calls (k : Nat) (a0 : ByteArray) (r1 : List (S37)) (r2 : Int) (w : World) (h : tuple_Get.f k a0 = some (r1, r2)) :
    Calls Try.prog 17 #[.string a0] w fun e w' => ∃ v0_ : Value, e = .returned (.tuple #[v0_, .int .i64 r2]) ∧ Kd.R k37 37 w' w.heap.size (fun _ => True) v0_ r1 ∧ Below w.heap.size w w' :=
  callsIn_wide.1 (tuple_Get.calls_in Fence.wide 9 k a0 r1 r2 w h trivial trivial trivial trivial rfl (by decide) (fun s w => callsIn_wide.2 (tuple_Get.values s w)) (fun k s b1 b2 b3 b4 b5 b6 w h => callsIn_wide.2 (value_Get.calls k s b1 b2 b3 b4 b5 b6 w h)))

end Go.Proofs.Ytncdpdbafklodaa.PA
