/- Contracts of the Go functions of this seat: what each call returns is what a Lean function of its arguments says; each theorem bears its own conditions. Written by a program of this session (wip/tools/mkprint.py). -/
import Derived.Test.YtikiegglebgmpaaCGx0
import Derived.Test.YtikiegglebgmpaaCGx9
import Derived.Test.YtikiegglebgmpaaCGx13
import Derived.Test.YtikiegglebgmpaaCGx14
-- squeezed
namespace Go.Proofs.Ytikiegglebgmpaa.PA
open Go.RowKit Go.Proofs.YtikiegglebgmpaaW.PrintWords Go.Proofs.YtikiegglebgmpaaW.PrintLast Go.Proofs.YtikiegglebgmpaaW.PrintMore
attribute [local go_sem] max2_int min2_int max_two min_two max_three min_three max_four min_four   -- for this text's walks alone
set_option linter.unusedVariables false
set_option linter.unusedSimpArgs false

attribute [local go_sem ↓ high] unary_xor_u32 ux_if_u32
attribute [local go_sem] str_gtr str_leq str_geq
/-! ### falseworkref6_CmdPut: function 13 -/
/-- A text's bytes laid behind a row of the call's own, as a step of a region that draws its order. -/
theorem falseworkref6_CmdPut.str_step {P : Program} {ops : Array Oper} {o : Oper} {a : Act} {Q : Exit → Act → World → Prop} {K : Act → World → Prop} {E : Prop} {W : World} (base : Nat) (hw : Region.wanted o (yielded ops a.tmps) = true) (s x : Operand) (t u e : TypeId)
  (ho : o.op = .call { callee := .builtin .append, args := #[s, x], argTypes := #[t, u] })
  (ht : P.underlying t = some (.slice e)) (hu : P.underlying u = some .string) (hinfo : (P.info? e).map (fun i => (i.zero, i.size, i.bytes)) = some (some (.int .u8 0), 1, 1))
  (v : Value) (xs : List Int) (y : ByteArray) (hs : a.eval s = v) (hx : a.eval x = .string y)
  (HO : W.ownsRow base e 1 v xs.length (nums .u8 xs)) (hbase : base ≤ W.heap.size) (hl : xs.length + y.size ≤ 140737488355328)
  (h : ∀ v1 w1, w1.ownsRow base e 1 v1 (xs ++ bytesOf y).length (nums .u8 (xs ++ bytesOf y)) → W.grownBy w1 v.ownBlock → K (a.put o.dst v1) w1) :
  if Region.wanted o (yielded ops a.tmps) = true then Oper.wp P o a W K Q else E := by
 obtain ⟨i0, hi, hzz⟩ := Option.map_eq_some_iff.1 hinfo
 simp only [Prod.mk.injEq] at hzz
 obtain ⟨hz0, hz1, hz2⟩ := hzz
 obtain ⟨v1, w1, hr, h2, h3, -⟩ := Lib.run_append_own_string (P := P) W base t u o.type e i0 ht hu hi hz0 hz1 hz2 v xs.length (nums .u8 xs) HO y (by simp only [maxLen]; omega) hl hbase
 have hl2 : (xs ++ bytesOf y).length = xs.length + y.size := by rw [List.length_append, bytesOf_length]
 have hc : nums .u8 (xs ++ bytesOf y) = nums .u8 xs ++ Lib.strCells y := by
  rw [nums_append]
  congr 1
  simp [nums, bytesOf, Lib.strCells]
 rw [if_pos hw]
 unfold Oper.wp execOp
 simp only [ho, resolve, invoke, builtin, Sem.run_bind, Sem.run_pure, Result.andThen_ok, List.map_toArray, List.map_cons, List.map_nil, hs, hx, hr]
 exact h v1 w1 (by rw [hl2, hc]; exact h2) h3
theorem falseworkref6_CmdPut.w8_mod (v : Int) : cmd_Put.w8 (v % 18446744073709551616) = cmd_Put.w8 v := by
 unfold cmd_Put.w8
 have h1 : v % 18446744073709551616 / 72057594037927936 % 256 = v / 72057594037927936 % 256 := by omega
 have h2 : v % 18446744073709551616 / 281474976710656 % 256 = v / 281474976710656 % 256 := by omega
 have h3 : v % 18446744073709551616 / 1099511627776 % 256 = v / 1099511627776 % 256 := by omega
 have h4 : v % 18446744073709551616 / 4294967296 % 256 = v / 4294967296 % 256 := by omega
 have h5 : v % 18446744073709551616 / 16777216 % 256 = v / 16777216 % 256 := by omega
 have h6 : v % 18446744073709551616 / 65536 % 256 = v / 65536 % 256 := by omega
 have h7 : v % 18446744073709551616 / 256 % 256 = v / 256 % 256 := by omega
 have h8 : v % 18446744073709551616 % 256 = v % 256 := by omega
 rw [h1, h2, h3, h4, h5, h6, h7, h8]
theorem falseworkref6_CmdPut.w8_i64 (v : Int) : cmd_Put.w8 (IntKind.i64.wrap v) = cmd_Put.w8 v := by
 rw [← falseworkref6_CmdPut.w8_mod (IntKind.i64.wrap v), ← falseworkref6_CmdPut.w8_mod v]
 congr 1
 rw [i64_w]
 unfold wrap64
 omega
theorem falseworkref6_CmdPut.eight (u : Int) : falseworkref2_eight.f 9 u = some (strOfNums (cmd_Put.w8 u)) := by
 unfold falseworkref2_eight.f
 rw [if_pos (by decide)]
 have step : ∀ (m : Nat) (x i : Int) (l : List Int), 0 ≤ i → i ≤ 7 → l.length = 8 → falseworkref2_eight.l0 (m + 1) x l i = falseworkref2_eight.l0 m (x / 256) (l.set i.toNat (x % 256)) (i - 1) := by
  intro m x i l h0 hi hl
  simp only [falseworkref2_eight.l0]
  rw [if_pos (by omega), if_pos (by omega), if_pos (by omega), show wrap64 (i - 1) = i - 1 by unfold wrap64; omega]
 have hr : (List.replicate 8 (0 : Int)) = [0, 0, 0, 0, 0, 0, 0, 0] := rfl
 rw [hr, step 8 _ 7 _ (by decide) (by decide) rfl, step 7 _ _ _ (by decide) (by decide) rfl, step 6 _ _ _ (by decide) (by decide) rfl, step 5 _ _ _ (by decide) (by decide) rfl, step 4 _ _ _ (by decide) (by decide) rfl, step 3 _ _ _ (by decide) (by decide) rfl, step 2 _ _ _ (by decide) (by decide) rfl, step 1 _ _ _ (by decide) (by decide) rfl]
 simp only [falseworkref2_eight.l0]
 rw [if_neg (by decide)]
 congr 2
 unfold cmd_Put.w8
 have h2 : u / 256 / 256 = u / 65536 := by omega
 have h3 : u / 65536 / 256 = u / 16777216 := by omega
 have h4 : u / 16777216 / 256 = u / 4294967296 := by omega
 have h5 : u / 4294967296 / 256 = u / 1099511627776 := by omega
 have h6 : u / 1099511627776 / 256 = u / 281474976710656 := by omega
 have h7 : u / 281474976710656 / 256 = u / 72057594037927936 := by omega
 rw [h2, h3, h4, h5, h6, h7]
 rfl
theorem falseworkref6_CmdPut.Eight (n : Int) : falseworkref2_Eight.f 9 n = some (strOfNums (cmd_Put.w8 n)) := by
 unfold falseworkref2_Eight.f
 rw [falseworkref6_CmdPut.eight, Option.bind_some, cmd_Put.u64w, falseworkref6_CmdPut.w8_mod]
theorem falseworkref6_CmdPut.bytes_w8 (n : Int) : bytesOf (strOfNums (cmd_Put.w8 n)) = cmd_Put.w8 n := by
 have key : ∀ l : List Int, (∀ x ∈ l, 0 ≤ x ∧ x < 256) → bytesOf (strOfNums l) = l := by
  intro l h
  unfold bytesOf strOfNums
  simp only [List.map_map]
  conv => rhs; rw [← List.map_id l]
  refine List.map_congr_left (fun x hx => ?_)
  obtain ⟨h0, h1⟩ := h x hx
  simp
  omega
 refine key _ (fun x hx => ?_)
 simp only [cmd_Put.w8, List.mem_cons, List.mem_nil_iff, or_false] at hx
 omega
theorem falseworkref6_CmdPut.nb1 (x : Int) : cmd_Put.nb [x] = cmd_Put.w8 x := by
 show cmd_Put.w8 (x % 18446744073709551616) ++ [] = _
 rw [List.append_nil, falseworkref6_CmdPut.w8_mod]
/-- What is so behind an append onto what a writer holds, and the store of it. -/
theorem falseworkref6_CmdPut.after {base bw : Nat} {w0 w W1 w2 : World} {F X R cur : List Int} {v v2 : Value} {y : ByteArray} (h : cmd_Put.St 63 base bw w0 w F (X ++ R)) (he : cur ++ (X ++ R) = F) (hb1 : W1.heap[bw]? = some (.cells #[v] 63 (0, 0))) (hr1 : Kd.R cmd_Put.kb 5 W1 base (fun _ => True) v cur) (hk : cmd_Put.Kp base bw w W1)
  (hy : bytesOf y = X) (ho : w2.ownsRow base 5 1 v2 (cur ++ bytesOf y).length (nums .u8 (cur ++ bytesOf y))) (hg : W1.grownBy w2 v.ownBlock) :
  (∃ A m c, v2 = .slice A m c) ∧ w2.heap[bw]? = some (.cells #[v] 63 (0, 0)) ∧ (cmd_Put.St 63 base bw w0 (w2.setCell ⟨bw, 0, none⟩ v2) F R ∧ cmd_Put.Kp base bw w (w2.setCell ⟨bw, 0, none⟩ v2)) := by
 rw [hy] at ho
 have HO2 : Kd.R cmd_Put.kb 5 w2 base (fun _ => True) v2 (cur ++ X) := Kd.R_of_own ho (fun _ _ => trivial)
 have HK2 := cmd_Put.Kp.grown (bw := bw) hr1 hg
 have HB2 := blk_grown hb1 hg (Kd.R_ne hr1 hb1 (by decide))
 have hk2 : cmd_Put.Kp base bw w (w2.setCell ⟨bw, 0, none⟩ v2) := hk.trans (HK2.trans (cmd_Put.Kp.set _ _ _ _ _))
 refine ⟨?_, HB2, h.next he ⟨_, blk_set HB2 0 _, ?_⟩ hk2, hk2⟩
 ·obtain ⟨A, c, h⟩ := Kd.R_slice HO2; exact ⟨A, _, c, h⟩
 ·exact Kd.R_mono (Kd.R_far (p := ⟨bw, 0, none⟩) (Kd.R_types HO2 HB2 (by decide)) (fun _ hk => hk.2) _) (fun _ _ => trivial)
theorem falseworkref6_CmdPut.lim {F X R cur : List Int} (he : cur ++ (X ++ R) = F) (hl : F.length < 800000000) {y : ByteArray} (hy : bytesOf y = X) : cur.length + y.size ≤ 140737488355328 := by
 have h := cmd_Put.St.len he hl
 rw [← hy, bytesOf_length] at h
 omega
set_option maxHeartbeats 8000000 in
set_option maxRecDepth 100000 in
theorem falseworkref6_CmdPut.Num {base bw : Nat} {w0 w : World} {F R : List Int} {x : Int} (h : cmd_Put.St 63 base bw w0 w F (cmd_Put.nb [x] ++ R)) :
  Calls Try.prog 26 #[.pointer (some ⟨bw, 0, none⟩), .int .i64 x] w fun e W' => e = .returned (.tuple #[]) ∧ cmd_Put.St 63 base bw w0 W' F R ∧ cmd_Put.Kp base bw w W' := by
 have HS := Aside0.mk h
 obtain ⟨cur, ⟨v, hb, hr⟩, he⟩ := h.wr
 obtain ⟨A, m, c, rfl⟩ : ∃ A m c, v = .slice A m c := by
  obtain ⟨A, c, h⟩ := Kd.R_slice hr
  exact ⟨A, _, c, h⟩
 have y0 : w.cell? ⟨bw, 0, none⟩ = some (.slice A m c) := (blk_cell hb 0).trans rfl
 have g0 := blk_frozen hb 0
 have HB := Aside0.mk hb
 have HR := Aside0.mk hr
 have HE := Aside0.mk he
 have HY := Aside0.mk ((falseworkref6_CmdPut.bytes_w8 x).trans (falseworkref6_CmdPut.nb1 x).symm)
 have HLIM := Aside0.mk (falseworkref6_CmdPut.lim he h.lim HY.out)
 clear h hb hr he
 go_enter Try.func26, Try.ntmps26
 go_wp2
 refine wp_region_any (by kernel_rfl) ?_
 try (change wpAny _ _ _ _ _ _ _ (World.drew _))
 refine wpAny_take (i := 0) (v := ?_) rfl (by kernel_rfl) (by kernel_rfl) (by kernel_rfl) (fun _ _ _ h => h) (Or.inl ⟨by rfl, ?_⟩) ?_
 rotate_left
 ·intro w; first | (go_simp; done) | (go_simp; with_reducible rfl)
 refine wpAny_take (i := 1) (v := ?_) rfl (by kernel_rfl) (by kernel_rfl) (by kernel_rfl) (fun _ _ _ h => h) (Or.inl ⟨by rfl, ?_⟩) ?_
 rotate_left
 ·intro w; first | (go_simp; done) | (go_simp; with_reducible rfl)
 refine wpAny_take (i := 2) (v := ?_) rfl (by kernel_rfl) (by kernel_rfl) (by kernel_rfl) (fun _ _ _ h => h) (Or.inl ⟨by rfl, ?_⟩) ?_
 rotate_left
 ·intro w; first | (go_simp; done) | (go_simp; with_reducible rfl)
 refine wpAny_take (i := 3) (v := ?_) rfl (by kernel_rfl) (by kernel_rfl) (by kernel_rfl) (fun _ _ _ h => h) (Or.inl ⟨by rfl, ?_⟩) ?_
 rotate_left
 ·intro w; first | (go_simp; done) | (go_simp; with_reducible rfl)
 refine wpAny_take (i := 5) (v := ?_) rfl (by kernel_rfl) (by kernel_rfl) (by kernel_rfl) (fun _ _ _ h => h) (Or.inl ⟨by rfl, ?_⟩) ?_
 rotate_left
 ·intro w; first | (go_simp; done) | (go_simp; with_reducible rfl)
 refine wpAny_ready (rs := [4, 6]) (by kernel_rfl) (by simp) ?_
 refine AllReady.cons rfl (fun K hK => ?_) (AllReady.cons rfl (fun K hK => ?_) (AllReady.nil))
 focus
  go_simp
  refine hK _ _ ?_
  clear hK K
  refine wpAny_ready (rs := [6]) (by kernel_rfl) (by simp) ?_
  refine AllReady.cons rfl (fun K hK => ?_) AllReady.nil
  go_simp
  go_at_call 45
  refine (falseworkref2_Eight.calls 9 _ _ _ (falseworkref6_CmdPut.Eight _)).mono ?_
  rintro e w1 ⟨rfl, hb1⟩
  dsimp only
  refine hK _ _ ?_
  clear hK K
  have y1 : w1.cell? ⟨bw, 0, none⟩ = some (.slice A m c) := (blk_cell (yB (w := w.drew) HB.out hb1) 0).trans rfl
  have HB1 := Aside0.mk (yB (w := w.drew) HB.out hb1)
  have HR1 := Aside0.mk (Kd.R_below (Kd.R_drew HR.out) hb1)
  have HK1 := Aside0.mk ((cmd_Put.Kp.drew base bw w).trans (cmd_Put.Kp.below hb1))
  have HBS1 := Aside0.mk (Nat.le_trans HS.out.b3 hb1.size)
  clear hb1
  refine wpAny_ready (rs := [7]) (by kernel_rfl) (by simp) ?_
  refine AllReady.cons rfl (fun K hK => ?_) AllReady.nil
  refine falseworkref6_CmdPut.str_step base rfl (.tmp 8) (.tmp 10) 46 9 5 rfl Try.underlying46 Try.underlying9 info5 (.slice A m c) cur (strOfNums (cmd_Put.w8 x)) (by first | rfl | (go_simp; done)) (by first | rfl | (go_simp; done)) (Kd.own_of_R HR1.out) HBS1.out HLIM.out ?_
  intro v2 w2 ho hg
  refine hK _ _ ?_
  clear hK K
  obtain ⟨⟨A2, m2, c2, rfl⟩, hb2, hf⟩ := falseworkref6_CmdPut.after HS.out HE.out HB1.out HR1.out HK1.out HY.out ho hg
  have HF2 := Aside0.mk hf
  have z0 : w2.cell? ⟨bw, 0, none⟩ = some (.slice A m c) := (blk_cell hb2 0).trans rfl
  have z1 := blk_frozen hb2 0
  clear ho hg hb2 hf
  refine wpAny_take (i := 8) (v := ?_) rfl (by kernel_rfl) (by kernel_rfl) (by kernel_rfl) (fun _ _ _ h => h) (Or.inl ⟨by rfl, ?_⟩) ?_
  rotate_left
  ·intro w; first | (go_simp; done) | (go_simp; with_reducible rfl)
  refine wpAny_take (i := 9) (v := ?_) rfl (by kernel_rfl) (by kernel_rfl) (by kernel_rfl) (fun _ _ _ h => h) (Or.inl ⟨by rfl, ?_⟩) ?_
  rotate_left
  ·intro w; first | (go_simp; done) | (go_simp; with_reducible rfl)
  refine wpAny_ready (rs := [10]) (by kernel_rfl) (by simp) ?_
  refine AllReady.cons rfl (fun K hK => ?_) AllReady.nil
  go_simp
  refine hK _ _ ?_
  clear hK K
  refine wpAny_done (by kernel_rfl) ?_ _
 rotate_left 1
 focus
  go_simp
  go_at_call 45
  refine (falseworkref2_Eight.calls 9 _ _ _ (falseworkref6_CmdPut.Eight _)).mono ?_
  rintro e w1 ⟨rfl, hb1⟩
  dsimp only
  refine hK _ _ ?_
  clear hK K
  have y1 : w1.cell? ⟨bw, 0, none⟩ = some (.slice A m c) := (blk_cell (yB (w := w.drew) HB.out hb1) 0).trans rfl
  have HB1 := Aside0.mk (yB (w := w.drew) HB.out hb1)
  have HR1 := Aside0.mk (Kd.R_below (Kd.R_drew HR.out) hb1)
  have HK1 := Aside0.mk ((cmd_Put.Kp.drew base bw w).trans (cmd_Put.Kp.below hb1))
  have HBS1 := Aside0.mk (Nat.le_trans HS.out.b3 hb1.size)
  clear hb1
  refine wpAny_ready (rs := [4]) (by kernel_rfl) (by simp) ?_
  refine AllReady.cons rfl (fun K hK => ?_) AllReady.nil
  go_simp
  refine hK _ _ ?_
  clear hK K
  refine wpAny_ready (rs := [7]) (by kernel_rfl) (by simp) ?_
  refine AllReady.cons rfl (fun K hK => ?_) AllReady.nil
  refine falseworkref6_CmdPut.str_step base rfl (.tmp 8) (.tmp 10) 46 9 5 rfl Try.underlying46 Try.underlying9 info5 (.slice A m c) cur (strOfNums (cmd_Put.w8 x)) (by first | rfl | (go_simp; done)) (by first | rfl | (go_simp; done)) (Kd.own_of_R HR1.out) HBS1.out HLIM.out ?_
  intro v2 w2 ho hg
  refine hK _ _ ?_
  clear hK K
  obtain ⟨⟨A2, m2, c2, rfl⟩, hb2, hf⟩ := falseworkref6_CmdPut.after HS.out HE.out HB1.out HR1.out HK1.out HY.out ho hg
  have HF2 := Aside0.mk hf
  have z0 : w2.cell? ⟨bw, 0, none⟩ = some (.slice A m c) := (blk_cell hb2 0).trans rfl
  have z1 := blk_frozen hb2 0
  clear ho hg hb2 hf
  refine wpAny_take (i := 8) (v := ?_) rfl (by kernel_rfl) (by kernel_rfl) (by kernel_rfl) (fun _ _ _ h => h) (Or.inl ⟨by rfl, ?_⟩) ?_
  rotate_left
  ·intro w; first | (go_simp; done) | (go_simp; with_reducible rfl)
  refine wpAny_take (i := 9) (v := ?_) rfl (by kernel_rfl) (by kernel_rfl) (by kernel_rfl) (fun _ _ _ h => h) (Or.inl ⟨by rfl, ?_⟩) ?_
  rotate_left
  ·intro w; first | (go_simp; done) | (go_simp; with_reducible rfl)
  refine wpAny_ready (rs := [10]) (by kernel_rfl) (by simp) ?_
  refine AllReady.cons rfl (fun K hK => ?_) AllReady.nil
  go_simp
  refine hK _ _ ?_
  clear hK K
  refine wpAny_done (by kernel_rfl) ?_ _
 all_goals
  go_wp2
  go_end0
  exact ⟨rfl, HF2.out.1, HF2.out.2⟩
set_option maxHeartbeats 8000000 in
set_option maxRecDepth 100000 in
theorem falseworkref6_CmdPut.Text {base bw : Nat} {w0 w : World} {F R : List Int} {s : ByteArray} (h : cmd_Put.St 63 base bw w0 w F (cmd_Put.tb s ++ R)) :
  Calls Try.prog 27 #[.pointer (some ⟨bw, 0, none⟩), .string s] w fun e W' => e = .returned (.tuple #[]) ∧ cmd_Put.St 63 base bw w0 W' F R ∧ cmd_Put.Kp base bw w W' := by
 have HS := Aside0.mk (h.re (R' := cmd_Put.nb [(s.size : Int)] ++ (bytesOf s ++ R)) (by rw [cmd_Put.tb, List.append_assoc]))
 clear h
 go_enter Try.func27, Try.ntmps27
 go_wp2_with (first | ((with_reducible refine gate_builtin (b := .append) (xs := #[.tmp 12, .tmp 13]) rfl ?_); at_builtin; go_loud (refine print_append_str (w0 := w1) base rfl (.tmp 12) (.tmp 13) 46 9 5 rfl Try.underlying46 Try.underlying9 info5 (.slice A m c) cur s rfl rfl (Kd.own_of_R HR.out) (Below.refl _ _) HS1.out.b3 HLIM.out ?_; intro v2 w2 ho hb hg; obtain ⟨⟨A2, m2, c2, rfl⟩, hb2, hf⟩ := falseworkref6_CmdPut.after HS1.out HE.out HB.out HR.out (cmd_Put.Kp.refl _ _ _) rfl ho hg; have HF2 := Aside0.mk hf; have z0 : w2.cell? ⟨bw, 0, none⟩ = some (.slice A m c) := (blk_cell hb2 0).trans rfl; have z1 := blk_frozen hb2 0; clear ho hb hg hb2 hf)) | (go_at_call 26; go_loud (refine (falseworkref6_CmdPut.Num HS.out).mono ?_; rintro e w1 ⟨rfl, hs, hk⟩; have HS1 := Aside0.mk hs; have HK1 := Aside0.mk hk; obtain ⟨cur, ⟨v, hb, hr⟩, he⟩ := hs.wr; obtain ⟨A, m, c, rfl⟩ : ∃ A m c, v = .slice A m c := (by obtain ⟨A, c, h⟩ := Kd.R_slice hr; exact ⟨A, _, c, h⟩); have y0 : w1.cell? ⟨bw, 0, none⟩ = some (.slice A m c) := (blk_cell hb 0).trans rfl; have g0 := blk_frozen hb 0; have HB := Aside0.mk hb; have HR := Aside0.mk hr; have HE := Aside0.mk he; have HLIM := Aside0.mk (falseworkref6_CmdPut.lim (y := s) he hs.lim rfl); clear hs hk hb hr he)))
 go_end0
 exact ⟨rfl, HF2.out.1, HK1.out.trans HF2.out.2⟩
set_option maxHeartbeats 8000000 in
set_option maxRecDepth 100000 in
theorem falseworkref6_CmdPut.Bool {base bw : Nat} {w0 w : World} {F R : List Int} {b : Bool} (h : cmd_Put.St 63 base bw w0 w F (cmd_Put.nb [if b then 1 else 0] ++ R)) :
  Calls Try.prog 28 #[.pointer (some ⟨bw, 0, none⟩), .bool b] w fun e W' => e = .returned (.tuple #[]) ∧ cmd_Put.St 63 base bw w0 W' F R ∧ cmd_Put.Kp base bw w W' := by
 have HS := Aside0.mk h
 clear h
 cases b
 all_goals
  go_enter Try.func28, Try.ntmps28
  go_wp2_with (go_at_call 26; go_loud (refine (falseworkref6_CmdPut.Num HS.out).mono ?_; rintro e w1 ⟨rfl, hs, hk⟩; have HS1 := Aside0.mk hs; have HK1 := Aside0.mk hk; clear hs hk))
  go_end0
  exact ⟨rfl, HS1.out, HK1.out⟩
set_option maxHeartbeats 8000000 in
set_option maxRecDepth 100000 in
theorem falseworkref6_CmdPut.Value {base bw : Nat} {w0 w : World} {F R : List Int} {x : S45} (h : cmd_Put.St 63 base bw w0 w F (cmd_Put.vb x ++ R)) :
  Calls Try.prog 29 #[.pointer (some ⟨bw, 0, none⟩), .agg #[.int .i64 x.f0, .int .i64 x.f1, .int .u64 x.f2, .string x.f3]] w fun e W' => e = .returned (.tuple #[]) ∧ cmd_Put.St 63 base bw w0 W' F R ∧ cmd_Put.Kp base bw w W' := by
 have hu45 := Try.underlying45
 obtain ⟨x0, x1, x2, x3⟩ := x
 have HS0 := Aside0.mk (h.re (R' := cmd_Put.nb [x0] ++ (cmd_Put.w8 (x1 % 18446744073709551616) ++ (cmd_Put.w8 x2 ++ (cmd_Put.tb x3 ++ R)))) (by rw [cmd_Put.vb]; simp only [List.append_assoc]))
 clear h
 go_enter Try.func29, Try.ntmps29
 go_wp2_with (first | (go_at_call 26; go_loud (refine (falseworkref6_CmdPut.Num HS1.out).mono ?_; rintro e wA ⟨rfl, hs, hk⟩; have HGA := Aside0.mk (HS1.out.blk hk HG1.out (by decide) (by decide)); have HSA := Aside0.mk hs; have HKA := Aside0.mk (HK0.out.trans hk); have k1_wA : wA.cell? ⟨gb, 1, none⟩ = some (.int .i64 x1) := (blk_cell HGA.out 1).trans rfl; obtain ⟨curA, ⟨vA, hb, hr⟩, he⟩ := hs.wr; obtain ⟨AA, mA, cA, rfl⟩ : ∃ A m c, vA = .slice A m c := (by obtain ⟨A, c, h⟩ := Kd.R_slice hr; exact ⟨A, _, c, h⟩); have y0A : wA.cell? ⟨bw, 0, none⟩ = some (.slice AA mA cA) := (blk_cell hb 0).trans rfl; have g0A := blk_frozen hb 0; have HBA := Aside0.mk hb; have HRA := Aside0.mk hr; have HEA := Aside0.mk he; have HYA := Aside0.mk ((falseworkref6_CmdPut.bytes_w8 x1).trans (falseworkref6_CmdPut.w8_mod x1).symm); have HLIMA := Aside0.mk (falseworkref6_CmdPut.lim he hs.lim HYA.out); clear hb hr he; clear hs hk)) | ((with_reducible refine gate_dst (N := 3) rfl ?_); (try (refine gate_guard (by rfl) ?_; dsimp only)); go_loud (refine box_event ?hg (N := 3) ?hd (cs := #[.int .i64 x0, .int .i64 x1, .int .u64 x2, .string x3]) (t := 45) ?hr ?_; (case hd => rfl); (case hg => rfl); (case hr => first | (go_simp; done) | (go_simp; rfl)); intro gb hg wB hbox hb; have HG1 := Aside0.mk hbox; have HS1 := Aside0.mk (HS0.out.go hb); have HK0 := Aside0.mk (cmd_Put.Kp.below (base := base) (bw := bw) hb); clear hbox hb hg; have k0_wB : wB.cell? ⟨gb, 0, none⟩ = some (.int .i64 x0) := (blk_cell HG1.out 0).trans rfl)))
 refine wp_region_any (by kernel_rfl) ?_
 try (change wpAny _ _ _ _ _ _ _ (World.drew _))
 refine wpAny_take (i := 0) (v := ?_) rfl (by kernel_rfl) (by kernel_rfl) (by kernel_rfl) (fun _ _ _ h => h) (Or.inl ⟨by rfl, ?_⟩) ?_
 rotate_left
 ·intro w; first | (go_simp; done) | (go_simp; with_reducible rfl)
 refine wpAny_take (i := 1) (v := ?_) rfl (by kernel_rfl) (by kernel_rfl) (by kernel_rfl) (fun _ _ _ h => h) (Or.inl ⟨by rfl, ?_⟩) ?_
 rotate_left
 ·intro w; first | (go_simp; done) | (go_simp; with_reducible rfl)
 refine wpAny_take (i := 2) (v := ?_) rfl (by kernel_rfl) (by kernel_rfl) (by kernel_rfl) (fun _ _ _ h => h) (Or.inl ⟨by rfl, ?_⟩) ?_
 rotate_left
 ·intro w; first | (go_simp; done) | (go_simp; with_reducible rfl)
 refine wpAny_take (i := 3) (v := ?_) rfl (by kernel_rfl) (by kernel_rfl) (by kernel_rfl) (fun _ _ _ h => h) (Or.inl ⟨by rfl, ?_⟩) ?_
 rotate_left
 ·intro w; first | (go_simp; done) | (go_simp; with_reducible rfl)
 refine wpAny_take (i := 5) (v := ?_) rfl (by kernel_rfl) (by kernel_rfl) (by kernel_rfl) (fun _ _ _ h => h) (Or.inl ⟨by rfl, ?_⟩) ?_
 rotate_left
 ·intro w; first | (go_simp; done) | (go_simp; with_reducible rfl)
 refine wpAny_ready (rs := [4, 6]) (by kernel_rfl) (by simp) ?_
 refine AllReady.cons rfl (fun K hK => ?_) (AllReady.cons rfl (fun K hK => ?_) (AllReady.nil))
 focus
  go_simp
  refine hK _ _ ?_
  clear hK K
  refine wpAny_ready (rs := [6]) (by kernel_rfl) (by simp) ?_
  refine AllReady.cons rfl (fun K hK => ?_) AllReady.nil
  go_simp
  refine hK _ _ ?_
  clear hK K
  refine wpAny_ready (rs := [7]) (by kernel_rfl) (by simp) ?_
  refine AllReady.cons rfl (fun K hK => ?_) AllReady.nil
  go_simp
  go_at_call 45
  refine (falseworkref2_Eight.calls 9 _ _ _ (falseworkref6_CmdPut.Eight _)).mono ?_
  rintro e w1A ⟨rfl, hb1⟩
  dsimp only
  refine hK _ _ ?_
  clear hK K
  have y1A : w1A.cell? ⟨bw, 0, none⟩ = some (.slice AA mA cA) := (blk_cell (yB (w := wA.drew) HBA.out hb1) 0).trans rfl
  have HB1A := Aside0.mk (yB (w := wA.drew) HBA.out hb1)
  have HR1A := Aside0.mk (Kd.R_below (Kd.R_drew HRA.out) hb1)
  have HK1A := Aside0.mk ((cmd_Put.Kp.drew base bw wA).trans (cmd_Put.Kp.below hb1))
  have HBS1A := Aside0.mk (Nat.le_trans HSA.out.b3 hb1.size)
  clear hb1
  refine wpAny_ready (rs := [8]) (by kernel_rfl) (by simp) ?_
  refine AllReady.cons rfl (fun K hK => ?_) AllReady.nil
  refine falseworkref6_CmdPut.str_step base rfl (.tmp 12) (.tmp 15) 46 9 5 rfl Try.underlying46 Try.underlying9 info5 (.slice AA mA cA) curA (strOfNums (cmd_Put.w8 x1)) (by first | rfl | (go_simp; done)) (by first | rfl | (go_simp; done)) (Kd.own_of_R HR1A.out) HBS1A.out HLIMA.out ?_
  intro v2 w2A ho hg
  refine hK _ _ ?_
  clear hK K
  obtain ⟨⟨A2A, m2A, c2A, rfl⟩, hb2, hf⟩ := falseworkref6_CmdPut.after HSA.out HEA.out HB1A.out HR1A.out HK1A.out HYA.out ho hg
  have HF2A := Aside0.mk hf
  have z0A : w2A.cell? ⟨bw, 0, none⟩ = some (.slice AA mA cA) := (blk_cell hb2 0).trans rfl
  have z1A := blk_frozen hb2 0
  clear ho hg hb2 hf
  refine wpAny_take (i := 9) (v := ?_) rfl (by kernel_rfl) (by kernel_rfl) (by kernel_rfl) (fun _ _ _ h => h) (Or.inl ⟨by rfl, ?_⟩) ?_
  rotate_left
  ·intro w; first | (go_simp; done) | (go_simp; with_reducible rfl)
  refine wpAny_take (i := 10) (v := ?_) rfl (by kernel_rfl) (by kernel_rfl) (by kernel_rfl) (fun _ _ _ h => h) (Or.inl ⟨by rfl, ?_⟩) ?_
  rotate_left
  ·intro w; first | (go_simp; done) | (go_simp; with_reducible rfl)
  refine wpAny_ready (rs := [11]) (by kernel_rfl) (by simp) ?_
  refine AllReady.cons rfl (fun K hK => ?_) AllReady.nil
  go_simp
  refine hK _ _ ?_
  clear hK K
  refine wpAny_done (by kernel_rfl) ?_ _
 rotate_left 1
 focus
  go_simp
  refine hK _ _ ?_
  clear hK K
  refine wpAny_ready (rs := [4, 7]) (by kernel_rfl) (by simp) ?_
  refine AllReady.cons rfl (fun K hK => ?_) (AllReady.cons rfl (fun K hK => ?_) (AllReady.nil))
  focus
   go_simp
   refine hK _ _ ?_
   clear hK K
   refine wpAny_ready (rs := [7]) (by kernel_rfl) (by simp) ?_
   refine AllReady.cons rfl (fun K hK => ?_) AllReady.nil
   go_simp
   go_at_call 45
   refine (falseworkref2_Eight.calls 9 _ _ _ (falseworkref6_CmdPut.Eight _)).mono ?_
   rintro e w1A ⟨rfl, hb1⟩
   dsimp only
   refine hK _ _ ?_
   clear hK K
   have y1A : w1A.cell? ⟨bw, 0, none⟩ = some (.slice AA mA cA) := (blk_cell (yB (w := wA.drew) HBA.out hb1) 0).trans rfl
   have HB1A := Aside0.mk (yB (w := wA.drew) HBA.out hb1)
   have HR1A := Aside0.mk (Kd.R_below (Kd.R_drew HRA.out) hb1)
   have HK1A := Aside0.mk ((cmd_Put.Kp.drew base bw wA).trans (cmd_Put.Kp.below hb1))
   have HBS1A := Aside0.mk (Nat.le_trans HSA.out.b3 hb1.size)
   clear hb1
   refine wpAny_ready (rs := [8]) (by kernel_rfl) (by simp) ?_
   refine AllReady.cons rfl (fun K hK => ?_) AllReady.nil
   refine falseworkref6_CmdPut.str_step base rfl (.tmp 12) (.tmp 15) 46 9 5 rfl Try.underlying46 Try.underlying9 info5 (.slice AA mA cA) curA (strOfNums (cmd_Put.w8 x1)) (by first | rfl | (go_simp; done)) (by first | rfl | (go_simp; done)) (Kd.own_of_R HR1A.out) HBS1A.out HLIMA.out ?_
   intro v2 w2A ho hg
   refine hK _ _ ?_
   clear hK K
   obtain ⟨⟨A2A, m2A, c2A, rfl⟩, hb2, hf⟩ := falseworkref6_CmdPut.after HSA.out HEA.out HB1A.out HR1A.out HK1A.out HYA.out ho hg
   have HF2A := Aside0.mk hf
   have z0A : w2A.cell? ⟨bw, 0, none⟩ = some (.slice AA mA cA) := (blk_cell hb2 0).trans rfl
   have z1A := blk_frozen hb2 0
   clear ho hg hb2 hf
   refine wpAny_take (i := 9) (v := ?_) rfl (by kernel_rfl) (by kernel_rfl) (by kernel_rfl) (fun _ _ _ h => h) (Or.inl ⟨by rfl, ?_⟩) ?_
   rotate_left
   ·intro w; first | (go_simp; done) | (go_simp; with_reducible rfl)
   refine wpAny_take (i := 10) (v := ?_) rfl (by kernel_rfl) (by kernel_rfl) (by kernel_rfl) (fun _ _ _ h => h) (Or.inl ⟨by rfl, ?_⟩) ?_
   rotate_left
   ·intro w; first | (go_simp; done) | (go_simp; with_reducible rfl)
   refine wpAny_ready (rs := [11]) (by kernel_rfl) (by simp) ?_
   refine AllReady.cons rfl (fun K hK => ?_) AllReady.nil
   go_simp
   refine hK _ _ ?_
   clear hK K
   refine wpAny_done (by kernel_rfl) ?_ _
  rotate_left 1
  focus
   go_simp
   go_at_call 45
   refine (falseworkref2_Eight.calls 9 _ _ _ (falseworkref6_CmdPut.Eight _)).mono ?_
   rintro e w1A ⟨rfl, hb1⟩
   dsimp only
   refine hK _ _ ?_
   clear hK K
   have y1A : w1A.cell? ⟨bw, 0, none⟩ = some (.slice AA mA cA) := (blk_cell (yB (w := wA.drew) HBA.out hb1) 0).trans rfl
   have HB1A := Aside0.mk (yB (w := wA.drew) HBA.out hb1)
   have HR1A := Aside0.mk (Kd.R_below (Kd.R_drew HRA.out) hb1)
   have HK1A := Aside0.mk ((cmd_Put.Kp.drew base bw wA).trans (cmd_Put.Kp.below hb1))
   have HBS1A := Aside0.mk (Nat.le_trans HSA.out.b3 hb1.size)
   clear hb1
   refine wpAny_ready (rs := [4]) (by kernel_rfl) (by simp) ?_
   refine AllReady.cons rfl (fun K hK => ?_) AllReady.nil
   go_simp
   refine hK _ _ ?_
   clear hK K
   refine wpAny_ready (rs := [8]) (by kernel_rfl) (by simp) ?_
   refine AllReady.cons rfl (fun K hK => ?_) AllReady.nil
   refine falseworkref6_CmdPut.str_step base rfl (.tmp 12) (.tmp 15) 46 9 5 rfl Try.underlying46 Try.underlying9 info5 (.slice AA mA cA) curA (strOfNums (cmd_Put.w8 x1)) (by first | rfl | (go_simp; done)) (by first | rfl | (go_simp; done)) (Kd.own_of_R HR1A.out) HBS1A.out HLIMA.out ?_
   intro v2 w2A ho hg
   refine hK _ _ ?_
   clear hK K
   obtain ⟨⟨A2A, m2A, c2A, rfl⟩, hb2, hf⟩ := falseworkref6_CmdPut.after HSA.out HEA.out HB1A.out HR1A.out HK1A.out HYA.out ho hg
   have HF2A := Aside0.mk hf
   have z0A : w2A.cell? ⟨bw, 0, none⟩ = some (.slice AA mA cA) := (blk_cell hb2 0).trans rfl
   have z1A := blk_frozen hb2 0
   clear ho hg hb2 hf
   refine wpAny_take (i := 9) (v := ?_) rfl (by kernel_rfl) (by kernel_rfl) (by kernel_rfl) (fun _ _ _ h => h) (Or.inl ⟨by rfl, ?_⟩) ?_
   rotate_left
   ·intro w; first | (go_simp; done) | (go_simp; with_reducible rfl)
   refine wpAny_take (i := 10) (v := ?_) rfl (by kernel_rfl) (by kernel_rfl) (by kernel_rfl) (fun _ _ _ h => h) (Or.inl ⟨by rfl, ?_⟩) ?_
   rotate_left
   ·intro w; first | (go_simp; done) | (go_simp; with_reducible rfl)
   refine wpAny_ready (rs := [11]) (by kernel_rfl) (by simp) ?_
   refine AllReady.cons rfl (fun K hK => ?_) AllReady.nil
   go_simp
   refine hK _ _ ?_
   clear hK K
   refine wpAny_done (by kernel_rfl) ?_ _
 all_goals
  obtain ⟨wC, e5⟩ : ∃ W, w2A.setCell ⟨bw, 0, none⟩ (.slice A2A m2A c2A) = W := ⟨_, rfl⟩
  rw [e5] at HF2A
  rw [e5]
  clear e5 z0A z1A
  have HSC := Aside0.mk HF2A.out.1
  have HGC := Aside0.mk (HSA.out.blk HF2A.out.2 HGA.out (by decide) (by decide))
  have HKC := Aside0.mk (HKA.out.trans HF2A.out.2)
  have k2_wC : wC.cell? ⟨gb, 2, none⟩ = some (.int .u64 x2) := (blk_cell HGC.out 2).trans rfl
  obtain ⟨curC, ⟨vC, hb, hr⟩, he⟩ := HSC.out.wr; obtain ⟨AC, mC, cC, rfl⟩ : ∃ A m c, vC = .slice A m c := (by obtain ⟨A, c, h⟩ := Kd.R_slice hr; exact ⟨A, _, c, h⟩); have y0C : wC.cell? ⟨bw, 0, none⟩ = some (.slice AC mC cC) := (blk_cell hb 0).trans rfl; have g0C := blk_frozen hb 0; have HBC := Aside0.mk hb; have HRC := Aside0.mk hr; have HEC := Aside0.mk he; have HYC := Aside0.mk (falseworkref6_CmdPut.bytes_w8 (IntKind.i64.wrap x2) |>.trans (falseworkref6_CmdPut.w8_i64 x2)); have HLIMC := Aside0.mk (falseworkref6_CmdPut.lim he HSC.out.lim HYC.out); clear hb hr he
  go_wp2
  refine wp_region_any (by kernel_rfl) ?_
  try (change wpAny _ _ _ _ _ _ _ (World.drew _))
  refine wpAny_take (i := 0) (v := ?_) rfl (by kernel_rfl) (by kernel_rfl) (by kernel_rfl) (fun _ _ _ h => h) (Or.inl ⟨by rfl, ?_⟩) ?_
  rotate_left
  ·intro w; first | (go_simp; done) | (go_simp; with_reducible rfl)
  refine wpAny_take (i := 1) (v := ?_) rfl (by kernel_rfl) (by kernel_rfl) (by kernel_rfl) (fun _ _ _ h => h) (Or.inl ⟨by rfl, ?_⟩) ?_
  rotate_left
  ·intro w; first | (go_simp; done) | (go_simp; with_reducible rfl)
  refine wpAny_take (i := 2) (v := ?_) rfl (by kernel_rfl) (by kernel_rfl) (by kernel_rfl) (fun _ _ _ h => h) (Or.inl ⟨by rfl, ?_⟩) ?_
  rotate_left
  ·intro w; first | (go_simp; done) | (go_simp; with_reducible rfl)
  refine wpAny_take (i := 3) (v := ?_) rfl (by kernel_rfl) (by kernel_rfl) (by kernel_rfl) (fun _ _ _ h => h) (Or.inl ⟨by rfl, ?_⟩) ?_
  rotate_left
  ·intro w; first | (go_simp; done) | (go_simp; with_reducible rfl)
  refine wpAny_take (i := 5) (v := ?_) rfl (by kernel_rfl) (by kernel_rfl) (by kernel_rfl) (fun _ _ _ h => h) (Or.inl ⟨by rfl, ?_⟩) ?_
  rotate_left
  ·intro w; first | (go_simp; done) | (go_simp; with_reducible rfl)
  refine wpAny_ready (rs := [4, 6]) (by kernel_rfl) (by simp) ?_
  refine AllReady.cons rfl (fun K hK => ?_) (AllReady.cons rfl (fun K hK => ?_) (AllReady.nil))
  focus
   go_simp
   refine hK _ _ ?_
   clear hK K
   refine wpAny_ready (rs := [6]) (by kernel_rfl) (by simp) ?_
   refine AllReady.cons rfl (fun K hK => ?_) AllReady.nil
   go_simp
   refine hK _ _ ?_
   clear hK K
   refine wpAny_take (i := 7) (v := ?_) rfl (by kernel_rfl) (by kernel_rfl) (by kernel_rfl) (fun _ _ _ h => h) (Or.inl ⟨by rfl, ?_⟩) ?_
   rotate_left
   ·intro w; first | (go_simp; done) | (go_simp; with_reducible rfl)
   refine wpAny_ready (rs := [8]) (by kernel_rfl) (by simp) ?_
   refine AllReady.cons rfl (fun K hK => ?_) AllReady.nil
   go_simp
   go_at_call 45
   refine (falseworkref2_Eight.calls 9 _ _ _ (falseworkref6_CmdPut.Eight _)).mono ?_
   rintro e w1C ⟨rfl, hb1⟩
   dsimp only
   refine hK _ _ ?_
   clear hK K
   have y1C : w1C.cell? ⟨bw, 0, none⟩ = some (.slice AC mC cC) := (blk_cell (yB (w := wC.drew) HBC.out hb1) 0).trans rfl
   have HB1C := Aside0.mk (yB (w := wC.drew) HBC.out hb1)
   have HR1C := Aside0.mk (Kd.R_below (Kd.R_drew HRC.out) hb1)
   have HK1C := Aside0.mk ((cmd_Put.Kp.drew base bw wC).trans (cmd_Put.Kp.below hb1))
   have HBS1C := Aside0.mk (Nat.le_trans HSC.out.b3 hb1.size)
   clear hb1
   refine wpAny_ready (rs := [9]) (by kernel_rfl) (by simp) ?_
   refine AllReady.cons rfl (fun K hK => ?_) AllReady.nil
   refine falseworkref6_CmdPut.str_step base rfl (.tmp 23) (.tmp 27) 46 9 5 rfl Try.underlying46 Try.underlying9 info5 (.slice AC mC cC) curC (strOfNums (cmd_Put.w8 (IntKind.i64.wrap x2))) (by first | rfl | (go_simp; done)) (by first | rfl | (go_simp; done)) (Kd.own_of_R HR1C.out) HBS1C.out HLIMC.out ?_
   intro v2 w2C ho hg
   refine hK _ _ ?_
   clear hK K
   obtain ⟨⟨A2C, m2C, c2C, rfl⟩, hb2, hf⟩ := falseworkref6_CmdPut.after HSC.out HEC.out HB1C.out HR1C.out HK1C.out HYC.out ho hg
   have HF2C := Aside0.mk hf
   have z0C : w2C.cell? ⟨bw, 0, none⟩ = some (.slice AC mC cC) := (blk_cell hb2 0).trans rfl
   have z1C := blk_frozen hb2 0
   clear ho hg hb2 hf
   refine wpAny_take (i := 10) (v := ?_) rfl (by kernel_rfl) (by kernel_rfl) (by kernel_rfl) (fun _ _ _ h => h) (Or.inl ⟨by rfl, ?_⟩) ?_
   rotate_left
   ·intro w; first | (go_simp; done) | (go_simp; with_reducible rfl)
   refine wpAny_take (i := 11) (v := ?_) rfl (by kernel_rfl) (by kernel_rfl) (by kernel_rfl) (fun _ _ _ h => h) (Or.inl ⟨by rfl, ?_⟩) ?_
   rotate_left
   ·intro w; first | (go_simp; done) | (go_simp; with_reducible rfl)
   refine wpAny_ready (rs := [12]) (by kernel_rfl) (by simp) ?_
   refine AllReady.cons rfl (fun K hK => ?_) AllReady.nil
   go_simp
   refine hK _ _ ?_
   clear hK K
   refine wpAny_done (by kernel_rfl) ?_ _
  rotate_left 1
  focus
   go_simp
   refine hK _ _ ?_
   clear hK K
   refine wpAny_take (i := 7) (v := ?_) rfl (by kernel_rfl) (by kernel_rfl) (by kernel_rfl) (fun _ _ _ h => h) (Or.inl ⟨by rfl, ?_⟩) ?_
   rotate_left
   ·intro w; first | (go_simp; done) | (go_simp; with_reducible rfl)
   refine wpAny_ready (rs := [4, 8]) (by kernel_rfl) (by simp) ?_
   refine AllReady.cons rfl (fun K hK => ?_) (AllReady.cons rfl (fun K hK => ?_) (AllReady.nil))
   focus
    go_simp
    refine hK _ _ ?_
    clear hK K
    refine wpAny_ready (rs := [8]) (by kernel_rfl) (by simp) ?_
    refine AllReady.cons rfl (fun K hK => ?_) AllReady.nil
    go_simp
    go_at_call 45
    refine (falseworkref2_Eight.calls 9 _ _ _ (falseworkref6_CmdPut.Eight _)).mono ?_
    rintro e w1C ⟨rfl, hb1⟩
    dsimp only
    refine hK _ _ ?_
    clear hK K
    have y1C : w1C.cell? ⟨bw, 0, none⟩ = some (.slice AC mC cC) := (blk_cell (yB (w := wC.drew) HBC.out hb1) 0).trans rfl
    have HB1C := Aside0.mk (yB (w := wC.drew) HBC.out hb1)
    have HR1C := Aside0.mk (Kd.R_below (Kd.R_drew HRC.out) hb1)
    have HK1C := Aside0.mk ((cmd_Put.Kp.drew base bw wC).trans (cmd_Put.Kp.below hb1))
    have HBS1C := Aside0.mk (Nat.le_trans HSC.out.b3 hb1.size)
    clear hb1
    refine wpAny_ready (rs := [9]) (by kernel_rfl) (by simp) ?_
    refine AllReady.cons rfl (fun K hK => ?_) AllReady.nil
    refine falseworkref6_CmdPut.str_step base rfl (.tmp 23) (.tmp 27) 46 9 5 rfl Try.underlying46 Try.underlying9 info5 (.slice AC mC cC) curC (strOfNums (cmd_Put.w8 (IntKind.i64.wrap x2))) (by first | rfl | (go_simp; done)) (by first | rfl | (go_simp; done)) (Kd.own_of_R HR1C.out) HBS1C.out HLIMC.out ?_
    intro v2 w2C ho hg
    refine hK _ _ ?_
    clear hK K
    obtain ⟨⟨A2C, m2C, c2C, rfl⟩, hb2, hf⟩ := falseworkref6_CmdPut.after HSC.out HEC.out HB1C.out HR1C.out HK1C.out HYC.out ho hg
    have HF2C := Aside0.mk hf
    have z0C : w2C.cell? ⟨bw, 0, none⟩ = some (.slice AC mC cC) := (blk_cell hb2 0).trans rfl
    have z1C := blk_frozen hb2 0
    clear ho hg hb2 hf
    refine wpAny_take (i := 10) (v := ?_) rfl (by kernel_rfl) (by kernel_rfl) (by kernel_rfl) (fun _ _ _ h => h) (Or.inl ⟨by rfl, ?_⟩) ?_
    rotate_left
    ·intro w; first | (go_simp; done) | (go_simp; with_reducible rfl)
    refine wpAny_take (i := 11) (v := ?_) rfl (by kernel_rfl) (by kernel_rfl) (by kernel_rfl) (fun _ _ _ h => h) (Or.inl ⟨by rfl, ?_⟩) ?_
    rotate_left
    ·intro w; first | (go_simp; done) | (go_simp; with_reducible rfl)
    refine wpAny_ready (rs := [12]) (by kernel_rfl) (by simp) ?_
    refine AllReady.cons rfl (fun K hK => ?_) AllReady.nil
    go_simp
    refine hK _ _ ?_
    clear hK K
    refine wpAny_done (by kernel_rfl) ?_ _
   rotate_left 1
   focus
    go_simp
    go_at_call 45
    refine (falseworkref2_Eight.calls 9 _ _ _ (falseworkref6_CmdPut.Eight _)).mono ?_
    rintro e w1C ⟨rfl, hb1⟩
    dsimp only
    refine hK _ _ ?_
    clear hK K
    have y1C : w1C.cell? ⟨bw, 0, none⟩ = some (.slice AC mC cC) := (blk_cell (yB (w := wC.drew) HBC.out hb1) 0).trans rfl
    have HB1C := Aside0.mk (yB (w := wC.drew) HBC.out hb1)
    have HR1C := Aside0.mk (Kd.R_below (Kd.R_drew HRC.out) hb1)
    have HK1C := Aside0.mk ((cmd_Put.Kp.drew base bw wC).trans (cmd_Put.Kp.below hb1))
    have HBS1C := Aside0.mk (Nat.le_trans HSC.out.b3 hb1.size)
    clear hb1
    refine wpAny_ready (rs := [4]) (by kernel_rfl) (by simp) ?_
    refine AllReady.cons rfl (fun K hK => ?_) AllReady.nil
    go_simp
    refine hK _ _ ?_
    clear hK K
    refine wpAny_ready (rs := [9]) (by kernel_rfl) (by simp) ?_
    refine AllReady.cons rfl (fun K hK => ?_) AllReady.nil
    refine falseworkref6_CmdPut.str_step base rfl (.tmp 23) (.tmp 27) 46 9 5 rfl Try.underlying46 Try.underlying9 info5 (.slice AC mC cC) curC (strOfNums (cmd_Put.w8 (IntKind.i64.wrap x2))) (by first | rfl | (go_simp; done)) (by first | rfl | (go_simp; done)) (Kd.own_of_R HR1C.out) HBS1C.out HLIMC.out ?_
    intro v2 w2C ho hg
    refine hK _ _ ?_
    clear hK K
    obtain ⟨⟨A2C, m2C, c2C, rfl⟩, hb2, hf⟩ := falseworkref6_CmdPut.after HSC.out HEC.out HB1C.out HR1C.out HK1C.out HYC.out ho hg
    have HF2C := Aside0.mk hf
    have z0C : w2C.cell? ⟨bw, 0, none⟩ = some (.slice AC mC cC) := (blk_cell hb2 0).trans rfl
    have z1C := blk_frozen hb2 0
    clear ho hg hb2 hf
    refine wpAny_take (i := 10) (v := ?_) rfl (by kernel_rfl) (by kernel_rfl) (by kernel_rfl) (fun _ _ _ h => h) (Or.inl ⟨by rfl, ?_⟩) ?_
    rotate_left
    ·intro w; first | (go_simp; done) | (go_simp; with_reducible rfl)
    refine wpAny_take (i := 11) (v := ?_) rfl (by kernel_rfl) (by kernel_rfl) (by kernel_rfl) (fun _ _ _ h => h) (Or.inl ⟨by rfl, ?_⟩) ?_
    rotate_left
    ·intro w; first | (go_simp; done) | (go_simp; with_reducible rfl)
    refine wpAny_ready (rs := [12]) (by kernel_rfl) (by simp) ?_
    refine AllReady.cons rfl (fun K hK => ?_) AllReady.nil
    go_simp
    refine hK _ _ ?_
    clear hK K
    refine wpAny_done (by kernel_rfl) ?_ _
  all_goals
   obtain ⟨wD, e5⟩ : ∃ W, w2C.setCell ⟨bw, 0, none⟩ (.slice A2C m2C c2C) = W := ⟨_, rfl⟩
   rw [e5] at HF2C
   rw [e5]
   clear e5 z0C z1C
   have HSD := Aside0.mk HF2C.out.1
   have HGD := Aside0.mk (HSC.out.blk HF2C.out.2 HGC.out (by decide) (by decide))
   have HKD := Aside0.mk (HKC.out.trans HF2C.out.2)
   have k3_wD : wD.cell? ⟨gb, 3, none⟩ = some (.string x3) := (blk_cell HGD.out 3).trans rfl
   go_wp2_with (go_at_call 27; go_loud (refine (falseworkref6_CmdPut.Text HSD.out).mono ?_; rintro e wE ⟨rfl, hs, hk⟩; have HSE := Aside0.mk hs; have HKE := Aside0.mk (HKD.out.trans hk); clear hs hk))
   go_end0
   exact ⟨rfl, HSE.out, HKE.out⟩
def falseworkref6_CmdPut.put (k : Nat) (F : List Int) : Option (ByteArray × Int) := if F.length < 800000000 then (if (F.length : Int) > 19996 then some ((⟨#[]⟩ : ByteArray), 2) else (falseworkref4_Seal.f k (strOfNums F)).bind fun s => some (s, 0)) else none
def falseworkref6_CmdPut.f (k : Nat) (a0_0 a0_1 a0_2 a0_3 : Int) (l0_4 : List ByteArray) (l0_5 : List (S50)) (l0_6 : List (S41)) (a0_7 a0_8 a0_9 : Int) (a0_10 : ByteArray) (a0_11 : Int) (l0_12 : List (List (S45))) : Option (ByteArray × Int) :=
 (falseworkref6_CmdMay.f k a0_0 a0_1 a0_2 a0_3 l0_4 l0_5 l0_6 a0_7 a0_8 a0_9 a0_10 a0_11 l0_12).bind fun m => if m = true then falseworkref6_CmdPut.put k (cmd_Put.cb a0_0 a0_1 a0_2 a0_3 l0_4 l0_5 l0_6 a0_7 a0_8 a0_9 a0_10 a0_11 l0_12) else some ((⟨#[]⟩ : ByteArray), 1)
theorem falseworkref6_CmdPut.mono : ∀ a0 a1 a2 a3 a4 a5 a6 a7 a8 a9 a10 a11 a12 k, LeO (falseworkref6_CmdPut.f k a0 a1 a2 a3 a4 a5 a6 a7 a8 a9 a10 a11 a12) (falseworkref6_CmdPut.f (k + 1) a0 a1 a2 a3 a4 a5 a6 a7 a8 a9 a10 a11 a12) := by
 intro a0 a1 a2 a3 a4 a5 a6 a7 a8 a9 a10 a11 a12 k
 unfold falseworkref6_CmdPut.f falseworkref6_CmdPut.put
 refine LeO.bind (falseworkref6_CmdMay.mono _ _ _ _ _ _ _ _ _ _ _ _ _ _) (fun _ => ?_)
 refine LeO.ite ?_ (LeO.refl _)
 refine LeO.ite ?_ (LeO.refl _)
 refine LeO.ite (LeO.refl _) ?_
 exact LeO.bind (falseworkref4_Seal.mono _ _) (fun _ => LeO.refl _)
set_option maxHeartbeats 32000000 in
set_option maxRecDepth 100000 in
theorem falseworkref6_CmdPut.calls (k : Nat) (a0_0 : Int) (a0_1 : Int) (a0_2 : Int) (a0_3 : Int) (A0_4 : Option Addr) (c0_4 : Nat) (l0_4 : List ByteArray) (A0_5 : Option Addr) (c0_5 : Nat) (l0_5 : List (S50)) (A0_6 : Option Addr) (c0_6 : Nat) (l0_6 : List (S41)) (a0_7 : Int) (a0_8 : Int) (a0_9 : Int) (a0_10 : ByteArray) (a0_11 : Int) (A0_12 : Option Addr) (c0_12 : Nat) (l0_12 : List (List (S45))) (r1 : ByteArray) (r2 : Int) (w : World) (hr0_4 : Kd.C Kd.string w A0_4 l0_4.length l0_4) (hc0_4 : l0_4.length ≤ c0_4) (hr0_5 : Kd.C k50 w A0_5 l0_5.length l0_5) (hc0_5 : l0_5.length ≤ c0_5) (hr0_6 : Kd.C k41 w A0_6 l0_6.length l0_6) (hc0_6 : l0_6.length ≤ c0_6) (hr0_12 : Kd.C (Kd.slice 45 k45) w A0_12 l0_12.length l0_12) (hc0_12 : l0_12.length ≤ c0_12) (h : falseworkref6_CmdPut.f k a0_0 a0_1 a0_2 a0_3 l0_4 l0_5 l0_6 a0_7 a0_8 a0_9 a0_10 a0_11 l0_12 = some (r1, r2)) :
  Calls Try.prog 13 #[.agg #[.int .i64 a0_0, .int .i64 a0_1, .int .i64 a0_2, .int .i64 a0_3, .slice A0_4 l0_4.length c0_4, .slice A0_5 l0_5.length c0_5, .slice A0_6 l0_6.length c0_6, .int .i64 a0_7, .int .i64 a0_8, .int .i64 a0_9, .string a0_10, .int .i64 a0_11, .slice A0_12 l0_12.length c0_12]] w fun e w' => e = .returned (.tuple #[.string r1, .int .i64 r2]) ∧ Below w.heap.size w w' := by
 have hu27 := Try.underlying27
 have hu58 := Try.underlying63
 have hu50 := Try.underlying50
 have hu41 := Try.underlying41
 have hu45 := Try.underlying45
 have H4 := Aside0.mk hr0_4
 have C4 := Aside0.mk hc0_4
 have H5 := Aside0.mk hr0_5
 have C5 := Aside0.mk hc0_5
 have H6 := Aside0.mk hr0_6
 have C6 := Aside0.mk hc0_6
 have H12 := Aside0.mk hr0_12
 have C12 := Aside0.mk hc0_12
 clear hr0_4 hc0_4 hr0_5 hc0_5 hr0_6 hc0_6 hr0_12 hc0_12
 unfold falseworkref6_CmdPut.f at h
 obtain ⟨m, hm, h⟩ := Option.bind_eq_some_iff.mp h
 have HM := Aside0.mk hm
 clear hm
 obtain ⟨F, hF⟩ : ∃ F, F = cmd_Put.cb a0_0 a0_1 a0_2 a0_3 l0_4 l0_5 l0_6 a0_7 a0_8 a0_9 a0_10 a0_11 l0_12 := ⟨_, rfl⟩
 rw [← hF] at h
 have HF := Aside0.mk hF
 clear hF
 cases m with
 | false =>
  have hr : ((⟨#[]⟩ : ByteArray), (1 : Int)) = (r1, r2) := by rw [if_neg (by decide)] at h; exact Option.some.inj h
  obtain ⟨rfl, rfl⟩ := Prod.mk.inj hr
  clear hr h
  go_enter Try.func13, Try.ntmps13
  go_wp2_with (first | ((with_reducible refine gate_dst (N := 1) rfl ?_); (try (refine gate_guard (by rfl) ?_; dsimp only)); refine box_event ?hg (N := 1) ?hd (cs := #[.int .i64 a0_0, .int .i64 a0_1, .int .i64 a0_2, .int .i64 a0_3, .slice A0_4 l0_4.length c0_4, .slice A0_5 l0_5.length c0_5, .slice A0_6 l0_6.length c0_6, .int .i64 a0_7, .int .i64 a0_8, .int .i64 a0_9, .string a0_10, .int .i64 a0_11, .slice A0_12 l0_12.length c0_12]) (t := 27) ?hr ?_; (case hd => rfl); (case hg => rfl); (case hr => first | (go_simp; done) | (go_simp; rfl)); intro g hg w1 hbox hb; have HQ1 := Aside0.mk hbox; have HB1 := Aside0.mk hb; clear hbox hb hg; have k0_w1 : w1.cell? ⟨g, 0, none⟩ = some (.int .i64 a0_0) := (blk_cell HQ1.out 0).trans rfl; have k1_w1 : w1.cell? ⟨g, 1, none⟩ = some (.int .i64 a0_1) := (blk_cell HQ1.out 1).trans rfl; have k2_w1 : w1.cell? ⟨g, 2, none⟩ = some (.int .i64 a0_2) := (blk_cell HQ1.out 2).trans rfl; have k3_w1 : w1.cell? ⟨g, 3, none⟩ = some (.int .i64 a0_3) := (blk_cell HQ1.out 3).trans rfl; have k4_w1 : w1.cell? ⟨g, 4, none⟩ = some (.slice A0_4 l0_4.length c0_4) := (blk_cell HQ1.out 4).trans rfl; have k5_w1 : w1.cell? ⟨g, 5, none⟩ = some (.slice A0_5 l0_5.length c0_5) := (blk_cell HQ1.out 5).trans rfl; have k6_w1 : w1.cell? ⟨g, 6, none⟩ = some (.slice A0_6 l0_6.length c0_6) := (blk_cell HQ1.out 6).trans rfl; have k7_w1 : w1.cell? ⟨g, 7, none⟩ = some (.int .i64 a0_7) := (blk_cell HQ1.out 7).trans rfl; have k8_w1 : w1.cell? ⟨g, 8, none⟩ = some (.int .i64 a0_8) := (blk_cell HQ1.out 8).trans rfl; have k9_w1 : w1.cell? ⟨g, 9, none⟩ = some (.int .i64 a0_9) := (blk_cell HQ1.out 9).trans rfl; have k10_w1 : w1.cell? ⟨g, 10, none⟩ = some (.string a0_10) := (blk_cell HQ1.out 10).trans rfl; have k11_w1 : w1.cell? ⟨g, 11, none⟩ = some (.int .i64 a0_11) := (blk_cell HQ1.out 11).trans rfl; have k12_w1 : w1.cell? ⟨g, 12, none⟩ = some (.slice A0_12 l0_12.length c0_12) := (blk_cell HQ1.out 12).trans rfl) | (go_at_call 10; go_loud (refine (falseworkref6_CmdMay.calls k a0_0 a0_1 a0_2 a0_3 A0_4 c0_4 l0_4 A0_5 c0_5 l0_5 A0_6 c0_6 l0_6 a0_7 a0_8 a0_9 a0_10 a0_11 A0_12 c0_12 l0_12 false _ (Kd.C_below H4.out HB1.out) C4.out (Kd.C_below H5.out HB1.out) C5.out (Kd.C_below H6.out HB1.out) C6.out (Kd.C_below H12.out HB1.out) C12.out HM.out).mono ?_; rintro e w2 ⟨rfl, hb⟩; have HQ2 := Aside0.mk (yB HQ1.out hb); have HB2 := Aside0.mk (zS HB1.out hb); clear hb)))
  go_ret2
  exact ⟨rfl, HB2.out⟩
 | true =>
  rw [if_pos rfl, falseworkref6_CmdPut.put] at h
  by_cases hl : F.length < 800000000
  rotate_left
  ·rw [if_neg hl] at h; exact absurd h (by simp)
  rw [if_pos hl] at h
  have HL := Aside0.mk hl
  have HH := Aside0.mk h
  clear hl h
  obtain ⟨R6, e6⟩ : ∃ R, R = cmd_Put.nb [a0_7] ++ (cmd_Put.nb [a0_8] ++ (cmd_Put.nb [a0_9] ++ (cmd_Put.tb a0_10 ++ (cmd_Put.nb [a0_11] ++ (cmd_Put.nb [(l0_12.length : Int)] ++ (cmd_Put.rsb l0_12 ++ [])))))) := ⟨_, rfl⟩
  obtain ⟨R4, e4⟩ : ∃ R, R = cmd_Put.nb [(l0_6.length : Int)] ++ (cmd_Put.wsb l0_6 ++ R6) := ⟨_, rfl⟩
  obtain ⟨R2, e2⟩ : ∃ R, R = cmd_Put.nb [(l0_5.length : Int)] ++ (cmd_Put.rgb l0_5 ++ R4) := ⟨_, rfl⟩
  have HX := Aside0.mk (show F = cmd_Put.nb [a0_0] ++ (cmd_Put.nb [a0_1] ++ (cmd_Put.nb [a0_2] ++ (cmd_Put.nb [a0_3] ++ (cmd_Put.nb [(l0_4.length : Int)] ++ (cmd_Put.ksb l0_4 ++ R2))))) by
   rw [HF.out, e2, e4, e6, cmd_Put.cb, cmd_Put.rb]; simp only [cmd_Put.nb, List.flatMap_cons, List.flatMap_nil, List.append_assoc, List.nil_append, List.append_nil])
  have E6 := Aside0.mk e6
  have E4 := Aside0.mk e4
  have E2 := Aside0.mk e2
  clear e2 e4 e6
  go_enter Try.func13, Try.ntmps13
  go_wp2_with (first | (go_at_call 26; go_loud (refine (falseworkref6_CmdPut.Num HS7.out).mono ?_; rintro e n5 ⟨rfl, hs, hk⟩; have HQ8 := Aside0.mk (HS7.out.blk hk HQ7.out (by decide) (by decide)); have HS8 := Aside0.mk hs; clear hs hk)) | (go_at_call 26; go_loud (refine (falseworkref6_CmdPut.Num HS6.out).mono ?_; rintro e n4 ⟨rfl, hs, hk⟩; have HQ7 := Aside0.mk (HS6.out.blk hk HQ6.out (by decide) (by decide)); have HS7 := Aside0.mk hs; clear hs hk; have k4_n4 : n4.cell? ⟨g, 4, none⟩ = some (.slice A0_4 l0_4.length c0_4) := (blk_cell HQ7.out 4).trans rfl)) | (go_at_call 26; go_loud (refine (falseworkref6_CmdPut.Num HS5.out).mono ?_; rintro e n3 ⟨rfl, hs, hk⟩; have HQ6 := Aside0.mk (HS5.out.blk hk HQ5.out (by decide) (by decide)); have HS6 := Aside0.mk hs; clear hs hk; have k3_n3 : n3.cell? ⟨g, 3, none⟩ = some (.int .i64 a0_3) := (blk_cell HQ6.out 3).trans rfl)) | (go_at_call 26; go_loud (refine (falseworkref6_CmdPut.Num HS4.out).mono ?_; rintro e n2 ⟨rfl, hs, hk⟩; have HQ5 := Aside0.mk (HS4.out.blk hk HQ4.out (by decide) (by decide)); have HS5 := Aside0.mk hs; clear hs hk; have k2_n2 : n2.cell? ⟨g, 2, none⟩ = some (.int .i64 a0_2) := (blk_cell HQ5.out 2).trans rfl)) | (go_at_call 26; go_loud (refine (falseworkref6_CmdPut.Num HS3.out).mono ?_; rintro e n1 ⟨rfl, hs, hk⟩; have HQ4 := Aside0.mk (HS3.out.blk hk HQ3.out (by decide) (by decide)); have HS4 := Aside0.mk hs; clear hs hk; have k1_n1 : n1.cell? ⟨g, 1, none⟩ = some (.int .i64 a0_1) := (blk_cell HQ4.out 1).trans rfl)) | ((with_reducible refine gate_dst (N := 14) rfl ?_); (try (refine gate_guard (by rfl) ?_; dsimp only)); go_loud (refine box_event ?hg (N := 14) ?hd (cs := #[.slice none 0 0]) (t := 63) ?hr ?_; (case hd => rfl); (case hg => rfl); (case hr => first | (go_simp; done) | (go_simp; rfl)); intro bw hg n0 hbox hb; have HQ3 := Aside0.mk (yB HQ2.out hb); have HS3 := Aside0.mk ((cmd_Put.St.re (show cmd_Put.St 63 bw bw w n0 F (F) from ⟨⟨[], ⟨_, hbox, Kd.R_nil _ _ _ _ _⟩, rfl⟩, HL.out, zS HB2.out hb, by rw [hg]; exact HB2.out.size, by rw [hg]; exact HB2.out.size, by rw [hg]; exact hb.size⟩)) HX.out); clear hbox hb hg; have k0_n0 : n0.cell? ⟨g, 0, none⟩ = some (.int .i64 a0_0) := (blk_cell HQ3.out 0).trans rfl)) | (go_at_call 10; go_loud (refine (falseworkref6_CmdMay.calls k a0_0 a0_1 a0_2 a0_3 A0_4 c0_4 l0_4 A0_5 c0_5 l0_5 A0_6 c0_6 l0_6 a0_7 a0_8 a0_9 a0_10 a0_11 A0_12 c0_12 l0_12 true _ (Kd.C_below H4.out HB1.out) C4.out (Kd.C_below H5.out HB1.out) C5.out (Kd.C_below H6.out HB1.out) C6.out (Kd.C_below H12.out HB1.out) C12.out HM.out).mono ?_; rintro e w2 ⟨rfl, hb⟩; have HQ2 := Aside0.mk (yB HQ1.out hb); have HB2 := Aside0.mk (zS HB1.out hb); clear hb)) | ((with_reducible refine gate_dst (N := 1) rfl ?_); (try (refine gate_guard (by rfl) ?_; dsimp only)); refine box_event ?hg (N := 1) ?hd (cs := #[.int .i64 a0_0, .int .i64 a0_1, .int .i64 a0_2, .int .i64 a0_3, .slice A0_4 l0_4.length c0_4, .slice A0_5 l0_5.length c0_5, .slice A0_6 l0_6.length c0_6, .int .i64 a0_7, .int .i64 a0_8, .int .i64 a0_9, .string a0_10, .int .i64 a0_11, .slice A0_12 l0_12.length c0_12]) (t := 27) ?hr ?_; (case hd => rfl); (case hg => rfl); (case hr => first | (go_simp; done) | (go_simp; rfl)); intro g hg w1 hbox hb; have HQ1 := Aside0.mk hbox; have HB1 := Aside0.mk hb; clear hbox hb hg; have k0_w1 : w1.cell? ⟨g, 0, none⟩ = some (.int .i64 a0_0) := (blk_cell HQ1.out 0).trans rfl; have k1_w1 : w1.cell? ⟨g, 1, none⟩ = some (.int .i64 a0_1) := (blk_cell HQ1.out 1).trans rfl; have k2_w1 : w1.cell? ⟨g, 2, none⟩ = some (.int .i64 a0_2) := (blk_cell HQ1.out 2).trans rfl; have k3_w1 : w1.cell? ⟨g, 3, none⟩ = some (.int .i64 a0_3) := (blk_cell HQ1.out 3).trans rfl; have k4_w1 : w1.cell? ⟨g, 4, none⟩ = some (.slice A0_4 l0_4.length c0_4) := (blk_cell HQ1.out 4).trans rfl; have k5_w1 : w1.cell? ⟨g, 5, none⟩ = some (.slice A0_5 l0_5.length c0_5) := (blk_cell HQ1.out 5).trans rfl; have k6_w1 : w1.cell? ⟨g, 6, none⟩ = some (.slice A0_6 l0_6.length c0_6) := (blk_cell HQ1.out 6).trans rfl; have k7_w1 : w1.cell? ⟨g, 7, none⟩ = some (.int .i64 a0_7) := (blk_cell HQ1.out 7).trans rfl; have k8_w1 : w1.cell? ⟨g, 8, none⟩ = some (.int .i64 a0_8) := (blk_cell HQ1.out 8).trans rfl; have k9_w1 : w1.cell? ⟨g, 9, none⟩ = some (.int .i64 a0_9) := (blk_cell HQ1.out 9).trans rfl; have k10_w1 : w1.cell? ⟨g, 10, none⟩ = some (.string a0_10) := (blk_cell HQ1.out 10).trans rfl; have k11_w1 : w1.cell? ⟨g, 11, none⟩ = some (.int .i64 a0_11) := (blk_cell HQ1.out 11).trans rfl; have k12_w1 : w1.cell? ⟨g, 12, none⟩ = some (.slice A0_12 l0_12.length c0_12) := (blk_cell HQ1.out 12).trans rfl))
  have L4 := Aside0.mk (show l0_4.length < 800000000 by
   have h1 := HS8.out.few
   have h2 := cmd_Put.flat_few cmd_Put.tb cmd_Put.tb_pos l0_4
   rw [cmd_Put.ksb, List.length_append] at h1
   omega)
  go_loopw [5] (fun vi wr => ∃ x : Int, 0 ≤ x ∧ x ≤ (l0_4.length : Int) ∧ vi = .int .i64 x ∧ Aside0 (wr.heap[g]? = some (.cells #[.int .i64 a0_0, .int .i64 a0_1, .int .i64 a0_2, .int .i64 a0_3, .slice A0_4 l0_4.length c0_4, .slice A0_5 l0_5.length c0_5, .slice A0_6 l0_6.length c0_6, .int .i64 a0_7, .int .i64 a0_8, .int .i64 a0_9, .string a0_10, .int .i64 a0_11, .slice A0_12 l0_12.length c0_12] 27 (0, 0))) ∧ Aside0 (cmd_Put.St 63 bw bw w wr F (cmd_Put.ksb (l0_4.drop x.toNat) ++ R2))) (fun v _ => l0_4.length - (intOf v).toNat)
  case atStart => exact ⟨0, by omega, by omega, rfl, ⟨HQ8.out⟩, ⟨HS8.out⟩⟩
  case round =>
   obtain ⟨x, h0, h8, rfl, HB, HO⟩ := hrel
   have k4_wr : wr.cell? ⟨g, 4, none⟩ = some (.slice A0_4 l0_4.length c0_4) := (blk_cell HB.out 4).trans rfl
   by_cases hlt : x < (l0_4.length : Int)
   ·skip
    have q3 : decide (x < (l0_4.length : Int)) = true := decide_eq_true hlt
    have hxl : x.toNat < l0_4.length := by omega
    obtain ⟨s1, hs1⟩ : ∃ s, wrap64 (x + 1) = s := ⟨_, rfl⟩
    have T1 := Aside0.mk (cmd_Put.step1 hs1 h0 hlt L4.out)
    have TX := Aside0.mk (And.intro h0 hlt)
    have p6 := eq_true h0
    have q6 := eq_true hlt
    obtain ⟨ad, e0, m0⟩ := Kd.at_string H4.out x h0 hlt
    cases e0
    obtain ⟨v, hv⟩ : ∃ v, rdOf ByteArray.empty l0_4 x = v := ⟨_, rfl⟩
    rw [hv] at m0
    have HD := Aside0.mk (show l0_4.drop x.toNat = v :: l0_4.drop (x.toNat + 1) from hv ▸ cmd_Put.drop_at hxl ByteArray.empty)
    replace m0 := (HO.out.below.cell (World.block_lt_of_cell? w _ m0)).trans m0
    have HO1 := Aside0.mk (HO.out.re (cmd_Put.ksb_step HD.out R2))
    clear hv hlt hxl
    go_wp2_with (go_at_call 27; go_loud (refine (falseworkref6_CmdPut.Text HO1.out).mono ?_; rintro e w4 ⟨rfl, hs, hk⟩; have HB4 := Aside0.mk (HO1.out.blk hk HB.out (by decide) (by decide)); have HS9 := Aside0.mk hs; clear hs hk))
    go_roundw
    case rel => exact ⟨s1, T1.out.2.1, T1.out.2.2.1, by rw [hs1], ⟨HB4.out⟩, ⟨HS9.out.re (by rw [T1.out.2.2.2])⟩⟩
    case measure => rw [hs1]; have h1 := T1.out.2.2.2; have h2 := TX.out; clear hs1; show l0_4.length - s1.toNat < l0_4.length - x.toNat; omega
   ·skip
    have q3 : decide (x < (l0_4.length : Int)) = false := decide_eq_false hlt
    have HE := Aside0.mk (show l0_4.drop x.toNat = [] from List.drop_eq_nil_of_le (by omega))
    have HS10 := Aside0.mk (show cmd_Put.St 63 bw bw w wr F (cmd_Put.nb [(l0_5.length : Int)] ++ (cmd_Put.rgb l0_5 ++ R4)) by have := HO.out; rw [HE.out] at this; exact this.re E2.out)
    have L5 := Aside0.mk (show l0_5.length < 800000000 by
     have h1 := HS10.out.few
     have h2 := cmd_Put.flat_few (fun r : S50 => cmd_Put.tb r.f0 ++ cmd_Put.tb r.f1) (fun r => by rw [List.length_append]; have := cmd_Put.tb_pos r.f0; omega) l0_5
     rw [cmd_Put.rgb, List.length_append, List.length_append] at h1
     omega)
    have k5_wr : wr.cell? ⟨g, 5, none⟩ = some (.slice A0_5 l0_5.length c0_5) := (blk_cell HB.out 5).trans rfl
    clear hlt
    go_wp2_with (go_at_call 26; go_loud (refine (falseworkref6_CmdPut.Num HS10.out).mono ?_; rintro e n6 ⟨rfl, hs, hk⟩; have HQ11 := Aside0.mk (HS10.out.blk hk HB.out (by decide) (by decide)); have HS11 := Aside0.mk hs; clear hs hk))
    clear q3
    go_loopw [6] (fun vi wr => ∃ y : Int, 0 ≤ y ∧ y ≤ (l0_5.length : Int) ∧ vi = .int .i64 y ∧ Aside0 (wr.heap[g]? = some (.cells #[.int .i64 a0_0, .int .i64 a0_1, .int .i64 a0_2, .int .i64 a0_3, .slice A0_4 l0_4.length c0_4, .slice A0_5 l0_5.length c0_5, .slice A0_6 l0_6.length c0_6, .int .i64 a0_7, .int .i64 a0_8, .int .i64 a0_9, .string a0_10, .int .i64 a0_11, .slice A0_12 l0_12.length c0_12] 27 (0, 0))) ∧ Aside0 (cmd_Put.St 63 bw bw w wr F (cmd_Put.rgb (l0_5.drop y.toNat) ++ R4))) (fun v _ => l0_5.length - (intOf v).toNat)
    case atStart => exact ⟨0, by omega, by omega, rfl, ⟨HQ11.out⟩, ⟨HS11.out⟩⟩
    case round =>
     obtain ⟨y, h0, h8, rfl, HB, HO⟩ := hrel
     have k5_wr : wr.cell? ⟨g, 5, none⟩ = some (.slice A0_5 l0_5.length c0_5) := (blk_cell HB.out 5).trans rfl
     by_cases hlt : y < (l0_5.length : Int)
     ·skip
      have q4 : decide (y < (l0_5.length : Int)) = true := decide_eq_true hlt
      have hxl : y.toNat < l0_5.length := by omega
      obtain ⟨s1, hs1⟩ : ∃ s, wrap64 (y + 1) = s := ⟨_, rfl⟩
      have T1 := Aside0.mk (cmd_Put.step1 hs1 h0 hlt L5.out)
      have TX := Aside0.mk (And.intro h0 hlt)
      have p6 := eq_true h0
      have q6 := eq_true hlt
      obtain ⟨ad, e0, m0, m1⟩ := at_T50 H5.out y h0 hlt
      cases e0
      obtain ⟨v, hv⟩ : ∃ v, rd_T50 l0_5 y = v := ⟨_, rfl⟩
      rw [hv] at m0 m1
      have HD := Aside0.mk (show l0_5.drop y.toNat = v :: l0_5.drop (y.toNat + 1) from hv ▸ cmd_Put.drop_at hxl z50)
      have HM1 := Aside0.mk m1
      replace m0 := (HO.out.below.cell (World.block_lt_of_cell? w _ m0)).trans m0
      have HO1 := Aside0.mk (HO.out.re (cmd_Put.rgb_step HD.out R4))
      clear hv hlt hxl m1
      go_wp2_with (first | (go_at_call 27; go_loud (refine (falseworkref6_CmdPut.Text HS12.out).mono ?_; rintro e w5 ⟨rfl, hs, hk⟩; have HB5 := Aside0.mk (HS12.out.blk hk HB4.out (by decide) (by decide)); have HS13 := Aside0.mk hs; clear hs hk)) | (go_at_call 27; go_loud (refine (falseworkref6_CmdPut.Text HO1.out).mono ?_; rintro e w4 ⟨rfl, hs, hk⟩; have HB4 := Aside0.mk (HO1.out.blk hk HB.out (by decide) (by decide)); have HS12 := Aside0.mk hs; clear hs hk; have k5_w4 : w4.cell? ⟨g, 5, none⟩ = some (.slice (some ad) l0_5.length c0_5) := (blk_cell HB4.out 5).trans rfl; have m1 := (HS12.out.below.cell (World.block_lt_of_cell? w _ HM1.out)).trans HM1.out)))
      go_roundw
      case rel => exact ⟨s1, T1.out.2.1, T1.out.2.2.1, by rw [hs1], ⟨HB5.out⟩, ⟨HS13.out.re (by rw [T1.out.2.2.2])⟩⟩
      case measure => rw [hs1]; have h1 := T1.out.2.2.2; have h2 := TX.out; clear hs1; show l0_5.length - s1.toNat < l0_5.length - y.toNat; omega
     ·skip
      have q4 : decide (y < (l0_5.length : Int)) = false := decide_eq_false hlt
      have HE := Aside0.mk (show l0_5.drop y.toNat = [] from List.drop_eq_nil_of_le (by omega))
      have HS14 := Aside0.mk (show cmd_Put.St 63 bw bw w wr F (cmd_Put.nb [(l0_6.length : Int)] ++ (cmd_Put.wsb l0_6 ++ R6)) by have := HO.out; rw [HE.out] at this; exact this.re E4.out)
      have L6 := Aside0.mk (show l0_6.length < 800000000 by
       have h1 := HS14.out.few
       have h2 := cmd_Put.flat_few (fun x : S41 => cmd_Put.tb x.f0 ++ (cmd_Put.tb x.f1 ++ cmd_Put.nb [if x.f2 then 1 else 0])) (fun r => by rw [List.length_append]; have := cmd_Put.tb_pos r.f0; omega) l0_6
       rw [cmd_Put.wsb, List.length_append, List.length_append] at h1
       omega)
      have k6_wr : wr.cell? ⟨g, 6, none⟩ = some (.slice A0_6 l0_6.length c0_6) := (blk_cell HB.out 6).trans rfl
      clear hlt
      go_wp2_with (go_at_call 26; go_loud (refine (falseworkref6_CmdPut.Num HS14.out).mono ?_; rintro e n7 ⟨rfl, hs, hk⟩; have HQ15 := Aside0.mk (HS14.out.blk hk HB.out (by decide) (by decide)); have HS15 := Aside0.mk hs; clear hs hk))
      clear q4
      go_loopw [7] (fun vi wr => ∃ z : Int, 0 ≤ z ∧ z ≤ (l0_6.length : Int) ∧ vi = .int .i64 z ∧ Aside0 (wr.heap[g]? = some (.cells #[.int .i64 a0_0, .int .i64 a0_1, .int .i64 a0_2, .int .i64 a0_3, .slice A0_4 l0_4.length c0_4, .slice A0_5 l0_5.length c0_5, .slice A0_6 l0_6.length c0_6, .int .i64 a0_7, .int .i64 a0_8, .int .i64 a0_9, .string a0_10, .int .i64 a0_11, .slice A0_12 l0_12.length c0_12] 27 (0, 0))) ∧ Aside0 (cmd_Put.St 63 bw bw w wr F (cmd_Put.wsb (l0_6.drop z.toNat) ++ R6))) (fun v _ => l0_6.length - (intOf v).toNat)
      case atStart => exact ⟨0, by omega, by omega, rfl, ⟨HQ15.out⟩, ⟨HS15.out⟩⟩
      case round =>
       obtain ⟨z, h0, h8, rfl, HB, HO⟩ := hrel
       have k6_wr : wr.cell? ⟨g, 6, none⟩ = some (.slice A0_6 l0_6.length c0_6) := (blk_cell HB.out 6).trans rfl
       by_cases hlt : z < (l0_6.length : Int)
       ·skip
        have q5 : decide (z < (l0_6.length : Int)) = true := decide_eq_true hlt
        have hxl : z.toNat < l0_6.length := by omega
        obtain ⟨s1, hs1⟩ : ∃ s, wrap64 (z + 1) = s := ⟨_, rfl⟩
        have T1 := Aside0.mk (cmd_Put.step1 hs1 h0 hlt L6.out)
        have TX := Aside0.mk (And.intro h0 hlt)
        have p6 := eq_true h0
        have q6 := eq_true hlt
        obtain ⟨ad, e0, m0, m1, m2⟩ := at_T41 H6.out z h0 hlt
        cases e0
        obtain ⟨v, hv⟩ : ∃ v, rd_T41 l0_6 z = v := ⟨_, rfl⟩
        rw [hv] at m0 m1 m2
        have HD := Aside0.mk (show l0_6.drop z.toNat = v :: l0_6.drop (z.toNat + 1) from hv ▸ cmd_Put.drop_at hxl z41)
        have HM1 := Aside0.mk m1
        have HM2 := Aside0.mk m2
        replace m0 := (HO.out.below.cell (World.block_lt_of_cell? w _ m0)).trans m0
        have HO1 := Aside0.mk (HO.out.re (cmd_Put.wsb_step HD.out R6))
        clear hv hlt hxl m1 m2
        go_wp2_with (first | (go_at_call 28; go_loud (refine (falseworkref6_CmdPut.Bool HS17.out).mono ?_; rintro e w6 ⟨rfl, hs, hk⟩; have HB6 := Aside0.mk (HS17.out.blk hk HB5.out (by decide) (by decide)); have HS18 := Aside0.mk hs; clear hs hk)) | (go_at_call 27; go_loud (refine (falseworkref6_CmdPut.Text HS16.out).mono ?_; rintro e w5 ⟨rfl, hs, hk⟩; have HB5 := Aside0.mk (HS16.out.blk hk HB4.out (by decide) (by decide)); have HS17 := Aside0.mk hs; clear hs hk; have k6_w5 : w5.cell? ⟨g, 6, none⟩ = some (.slice (some ad) l0_6.length c0_6) := (blk_cell HB5.out 6).trans rfl; have m2 := (HS17.out.below.cell (World.block_lt_of_cell? w _ HM2.out)).trans HM2.out)) | (go_at_call 27; go_loud (refine (falseworkref6_CmdPut.Text HO1.out).mono ?_; rintro e w4 ⟨rfl, hs, hk⟩; have HB4 := Aside0.mk (HO1.out.blk hk HB.out (by decide) (by decide)); have HS16 := Aside0.mk hs; clear hs hk; have k6_w4 : w4.cell? ⟨g, 6, none⟩ = some (.slice (some ad) l0_6.length c0_6) := (blk_cell HB4.out 6).trans rfl; have m1 := (HS16.out.below.cell (World.block_lt_of_cell? w _ HM1.out)).trans HM1.out)))
        go_roundw
        case rel => exact ⟨s1, T1.out.2.1, T1.out.2.2.1, by rw [hs1], ⟨HB6.out⟩, ⟨HS18.out.re (by rw [T1.out.2.2.2])⟩⟩
        case measure => rw [hs1]; have h1 := T1.out.2.2.2; have h2 := TX.out; clear hs1; show l0_6.length - s1.toNat < l0_6.length - z.toNat; omega
       ·skip
        have q5 : decide (z < (l0_6.length : Int)) = false := decide_eq_false hlt
        have HE := Aside0.mk (show l0_6.drop z.toNat = [] from List.drop_eq_nil_of_le (by omega))
        have HS20 := Aside0.mk (show cmd_Put.St 63 bw bw w wr F (cmd_Put.nb [a0_7] ++ (cmd_Put.nb [a0_8] ++ (cmd_Put.nb [a0_9] ++ (cmd_Put.tb a0_10 ++ (cmd_Put.nb [a0_11] ++ (cmd_Put.nb [(l0_12.length : Int)] ++ (cmd_Put.rsb l0_12 ++ []))))))) by have := HO.out; rw [HE.out] at this; exact this.re E6.out)
        have k7_wr : wr.cell? ⟨g, 7, none⟩ = some (.int .i64 a0_7) := (blk_cell HB.out 7).trans rfl
        clear hlt
        go_wp2_with (first | (go_at_call 26; go_loud (refine (falseworkref6_CmdPut.Num HS25.out).mono ?_; rintro e p5 ⟨rfl, hs, hk⟩; have HQ26 := Aside0.mk (HS25.out.blk hk HQ25.out (by decide) (by decide)); have HS26 := Aside0.mk hs; clear hs hk)) | (go_at_call 26; go_loud (refine (falseworkref6_CmdPut.Num HS24.out).mono ?_; rintro e p4 ⟨rfl, hs, hk⟩; have HQ25 := Aside0.mk (HS24.out.blk hk HQ24.out (by decide) (by decide)); have HS25 := Aside0.mk hs; clear hs hk; have k12_p4 : p4.cell? ⟨g, 12, none⟩ = some (.slice A0_12 l0_12.length c0_12) := (blk_cell HQ25.out 12).trans rfl)) | (go_at_call 27; go_loud (refine (falseworkref6_CmdPut.Text HS23.out).mono ?_; rintro e p3 ⟨rfl, hs, hk⟩; have HQ24 := Aside0.mk (HS23.out.blk hk HQ23.out (by decide) (by decide)); have HS24 := Aside0.mk hs; clear hs hk; have k11_p3 : p3.cell? ⟨g, 11, none⟩ = some (.int .i64 a0_11) := (blk_cell HQ24.out 11).trans rfl)) | (go_at_call 26; go_loud (refine (falseworkref6_CmdPut.Num HS22.out).mono ?_; rintro e p2 ⟨rfl, hs, hk⟩; have HQ23 := Aside0.mk (HS22.out.blk hk HQ22.out (by decide) (by decide)); have HS23 := Aside0.mk hs; clear hs hk; have k10_p2 : p2.cell? ⟨g, 10, none⟩ = some (.string a0_10) := (blk_cell HQ23.out 10).trans rfl)) | (go_at_call 26; go_loud (refine (falseworkref6_CmdPut.Num HS21.out).mono ?_; rintro e p1 ⟨rfl, hs, hk⟩; have HQ22 := Aside0.mk (HS21.out.blk hk HQ21.out (by decide) (by decide)); have HS22 := Aside0.mk hs; clear hs hk; have k9_p1 : p1.cell? ⟨g, 9, none⟩ = some (.int .i64 a0_9) := (blk_cell HQ22.out 9).trans rfl)) | (go_at_call 26; go_loud (refine (falseworkref6_CmdPut.Num HS20.out).mono ?_; rintro e p0 ⟨rfl, hs, hk⟩; have HQ21 := Aside0.mk (HS20.out.blk hk HB.out (by decide) (by decide)); have HS21 := Aside0.mk hs; clear hs hk; have k8_p0 : p0.cell? ⟨g, 8, none⟩ = some (.int .i64 a0_8) := (blk_cell HQ21.out 8).trans rfl)))
        clear q5
        have L12 := Aside0.mk (show l0_12.length < 800000000 by
         have h1 := HS26.out.few
         have h2 := cmd_Put.flat_few cmd_Put.rowb cmd_Put.rowb_pos l0_12
         rw [cmd_Put.rsb, List.length_append] at h1
         omega)
        go_loopw [8] (fun vi wr => ∃ u : Int, 0 ≤ u ∧ u ≤ (l0_12.length : Int) ∧ vi = .int .i64 u ∧ Aside0 (wr.heap[g]? = some (.cells #[.int .i64 a0_0, .int .i64 a0_1, .int .i64 a0_2, .int .i64 a0_3, .slice A0_4 l0_4.length c0_4, .slice A0_5 l0_5.length c0_5, .slice A0_6 l0_6.length c0_6, .int .i64 a0_7, .int .i64 a0_8, .int .i64 a0_9, .string a0_10, .int .i64 a0_11, .slice A0_12 l0_12.length c0_12] 27 (0, 0))) ∧ Aside0 (cmd_Put.St 63 bw bw w wr F (cmd_Put.rsb (l0_12.drop u.toNat) ++ []))) (fun v _ => l0_12.length - (intOf v).toNat)
        case atStart => exact ⟨0, by omega, by omega, rfl, ⟨HQ26.out⟩, ⟨HS26.out⟩⟩
        case round =>
         obtain ⟨u, h0, h8, rfl, HB, HO⟩ := hrel
         have k12_wr : wr.cell? ⟨g, 12, none⟩ = some (.slice A0_12 l0_12.length c0_12) := (blk_cell HB.out 12).trans rfl
         by_cases hlt : u < (l0_12.length : Int)
         ·skip
          have q7 : decide (u < (l0_12.length : Int)) = true := decide_eq_true hlt
          have hxl : u.toNat < l0_12.length := by omega
          obtain ⟨s1, hs1⟩ : ∃ s, wrap64 (u + 1) = s := ⟨_, rfl⟩
          have T1 := Aside0.mk (cmd_Put.step1 hs1 h0 hlt L12.out)
          have TX := Aside0.mk (And.intro h0 hlt)
          have p6 := eq_true h0
          have q6 := eq_true hlt
          obtain ⟨ad, A0, c0, e0, hc0, hg0⟩ := cmd_Put.at_row H12.out u h0 hlt
          cases e0
          obtain ⟨r, hr⟩ : ∃ r, l0_12.getD u.toNat [] = r := ⟨_, rfl⟩
          rw [hr] at hc0 hg0
          have HD := Aside0.mk (hr ▸ cmd_Put.drop_at hxl ([] : List S45))
          have HC0 := Aside0.mk hc0
          have HG := Aside0.mk hg0
          replace hc0 := (HO.out.below.cell (World.block_lt_of_cell? w _ hc0)).trans hc0
          have HO1 := Aside0.mk (HO.out.re (cmd_Put.rsb_step HD.out []))
          clear hr hg0 hlt hxl
          go_wp2_with (go_at_call 26; go_loud (refine (falseworkref6_CmdPut.Num HO1.out).mono ?_; rintro e w4 ⟨rfl, hs, hk⟩; have HB4 := Aside0.mk (HO1.out.blk hk HB.out (by decide) (by decide)); have HS27 := Aside0.mk hs; clear hs hk))
          have LR := Aside0.mk (show r.length < 800000000 by
           have h1 := HS27.out.few
           have h2 := cmd_Put.flat_few cmd_Put.vb cmd_Put.vb_pos r
           rw [cmd_Put.vsb, List.length_append] at h1
           omega)
          clear hc0
          go_loopw [9] (fun vi wr => ∃ y : Int, 0 ≤ y ∧ y ≤ (r.length : Int) ∧ vi = .int .i64 y ∧ Aside0 (wr.heap[g]? = some (.cells #[.int .i64 a0_0, .int .i64 a0_1, .int .i64 a0_2, .int .i64 a0_3, .slice A0_4 l0_4.length c0_4, .slice A0_5 l0_5.length c0_5, .slice A0_6 l0_6.length c0_6, .int .i64 a0_7, .int .i64 a0_8, .int .i64 a0_9, .string a0_10, .int .i64 a0_11, .slice (some ad) l0_12.length c0_12] 27 (0, 0))) ∧ Aside0 (cmd_Put.St 63 bw bw w wr F (cmd_Put.vsb (r.drop y.toNat) ++ (cmd_Put.rsb (l0_12.drop (u.toNat + 1)) ++ [])))) (fun v _ => r.length - (intOf v).toNat)
          case atStart => exact ⟨0, by omega, by omega, rfl, ⟨HB4.out⟩, ⟨HS27.out⟩⟩
          case round =>
           obtain ⟨y, y0, y8, rfl, HB, HO⟩ := hrel
           have k12_wr : wr.cell? ⟨g, 12, none⟩ = some (.slice (some ad) l0_12.length c0_12) := (blk_cell HB.out 12).trans rfl
           have hc0 := (HO.out.below.cell (World.block_lt_of_cell? w _ HC0.out)).trans HC0.out
           by_cases hlt : y < (r.length : Int)
           ·have q4 : decide (y < (r.length : Int)) = true := decide_eq_true hlt
            have hyl : y.toNat < r.length := by omega
            obtain ⟨ad2, e2, m0, m1, m2, m3⟩ := at_T45 HG.out y y0 hlt
            cases e2
            obtain ⟨v, hv⟩ : ∃ v, rd_T45 r y = v := ⟨_, rfl⟩
            rw [hv] at m0 m1 m2 m3
            have HD2 := Aside0.mk (show r.drop y.toNat = v :: r.drop (y.toNat + 1) from hv ▸ cmd_Put.drop_at hyl z45)
            replace m0 := (HO.out.below.cell (World.block_lt_of_cell? w _ m0)).trans m0
            replace m1 := (HO.out.below.cell (World.block_lt_of_cell? w _ m1)).trans m1
            replace m2 := (HO.out.below.cell (World.block_lt_of_cell? w _ m2)).trans m2
            replace m3 := (HO.out.below.cell (World.block_lt_of_cell? w _ m3)).trans m3
            have p7 := eq_true y0
            have q9 := eq_true hlt
            obtain ⟨s2, hs2⟩ : ∃ s, wrap64 (y + 1) = s := ⟨_, rfl⟩
            have T2 := Aside0.mk (cmd_Put.step1 hs2 y0 hlt LR.out)
            have TY := Aside0.mk (And.intro y0 hlt)
            have HO2 := Aside0.mk (show cmd_Put.St 63 bw bw w wr F (cmd_Put.vb v ++ (cmd_Put.vsb (r.drop (y.toNat + 1)) ++ (cmd_Put.rsb (l0_12.drop (u.toNat + 1)) ++ []))) from HO.out.re (by rw [HD2.out]; simp only [cmd_Put.vsb, List.flatMap_cons, List.append_assoc]))
            clear hv hlt hyl hs1
            go_wp2_with (go_at_call 29; go_loud (refine (falseworkref6_CmdPut.Value HO2.out).mono ?_; rintro e w6 ⟨rfl, hs, hk⟩; have HB6 := Aside0.mk (HO2.out.blk hk HB.out (by decide) (by decide)); have HS28 := Aside0.mk hs; clear hs hk))
            go_roundw
            case rel => exact ⟨s2, T2.out.2.1, T2.out.2.2.1, by rw [hs2], ⟨HB6.out⟩, ⟨HS28.out.re (by rw [T2.out.2.2.2])⟩⟩
            case measure => rw [hs2]; have h1 := T2.out.2.2.2; have h2 := TY.out; clear hs2; show r.length - s2.toNat < r.length - y.toNat; omega
           ·have q4 : decide (y < (r.length : Int)) = false := decide_eq_false hlt
            have HE := Aside0.mk (show r.drop y.toNat = [] from List.drop_eq_nil_of_le (by omega))
            have HS29 := Aside0.mk (show cmd_Put.St 63 bw bw w wr F (cmd_Put.rsb (l0_12.drop (u.toNat + 1)) ++ []) by have := HO.out; rw [HE.out] at this; exact this)
            clear hlt
            go_wp2
            go_roundw
            case rel => exact ⟨s1, T1.out.2.1, T1.out.2.2.1, by rw [hs1], ⟨HB.out⟩, ⟨HS29.out.re (by rw [T1.out.2.2.2])⟩⟩
            case measure => rw [hs1]; have h1 := T1.out.2.2.2; have h2 := TX.out; clear hs1; show l0_12.length - s1.toNat < l0_12.length - u.toNat; omega
         ·skip
          have q7 : decide (u < (l0_12.length : Int)) = false := decide_eq_false hlt
          have HE := Aside0.mk (show l0_12.drop u.toNat = [] from List.drop_eq_nil_of_le (by omega))
          have hs : cmd_Put.St 63 bw bw w wr F ([]) := by have := HO.out; rw [HE.out] at this; exact this
          have HB4 := Aside0.mk hs.below
          obtain ⟨cur, ⟨vb, hb, hr⟩, he⟩ := hs.wr
          obtain rfl : cur = F := (List.append_nil _).symm.trans he
          obtain ⟨A, cc, rfl⟩ : ∃ A c, vb = .slice A cur.length c := Kd.R_slice hr
          have y0 : wr.cell? ⟨bw, 0, none⟩ = some (.slice A cur.length cc) := (blk_cell hb 0).trans rfl
          have HR4 := Aside0.mk hr
          clear hb hr he hs hlt
          by_cases hz : (cur.length : Int) > 19996
          ·have hr : ((⟨#[]⟩ : ByteArray), (2 : Int)) = (r1, r2) := by have := HH.out; rw [if_pos hz] at this; exact Option.some.inj this
           obtain ⟨rfl, rfl⟩ := Prod.mk.inj hr
           have q := decide_eq_true hz
           have q2 : decide (19996 < (cur.length : Int)) = true := q
           clear hz hr
           go_wp2
           go_ret2
           exact ⟨rfl, HB4.out⟩
          ·have h9 := HH.out
           rw [if_neg hz] at h9
           obtain ⟨s, hs, h9⟩ := Option.bind_eq_some_iff.mp h9
           obtain ⟨rfl, rfl⟩ := Prod.mk.inj (Option.some.inj h9)
           have HP := Aside0.mk hs
           have q := decide_eq_false hz
           have q2 : decide (19996 < (cur.length : Int)) = false := q
           have hcv := own_string (P := Try.prog) Try.underlying46 Try.underlying5 Try.underlying9 (Kd.own_of_R HR4.out)
           clear hz hs h9
           go_wp2_with (go_at_call 30; go_loud (refine (falseworkref4_Seal.calls k _ s _ HP.out).mono ?_; rintro e w5 ⟨rfl, hb⟩; have HB5 := Aside0.mk (zS HB4.out hb); clear hb))
           go_ret2
           exact ⟨rfl, HB5.out⟩

end Go.Proofs.Ytikiegglebgmpaa.PA
