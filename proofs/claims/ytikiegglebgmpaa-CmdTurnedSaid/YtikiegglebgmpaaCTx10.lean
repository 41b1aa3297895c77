/- Contracts of the Go functions of this seat: what each call returns is what a Lean function of its arguments says; each theorem bears its own conditions. Written by a program of this session (wip/tools/mkprint.py). -/
import Derived.Test.YtikiegglebgmpaaCTx0
import Derived.Test.YtikiegglebgmpaaCTx8
import Derived.Test.YtikiegglebgmpaaCTx9
-- squeezed
namespace Go.Proofs.Ytikiegglebgmpaa.PA
open Go.RowKit Go.Proofs.YtikiegglebgmpaaW.PrintWords Go.Proofs.YtikiegglebgmpaaW.PrintLast Go.Proofs.YtikiegglebgmpaaW.PrintMore
attribute [local go_sem] max2_int min2_int max_two min_two max_three min_three max_four min_four   -- for this text's walks alone
set_option linter.unusedVariables false
set_option linter.unusedSimpArgs false

attribute [local go_sem ↓ high] unary_xor_u32 ux_if_u32
attribute [local go_sem] str_gtr str_leq str_geq
/-! ### cmd_Put: function 12 -/
/-- A word in eight bytes, the highest first. -/
def cmd_Put.w8 (v : Int) : List Int := [(v / 72057594037927936) % 256, (v / 281474976710656) % 256, (v / 1099511627776) % 256, (v / 4294967296) % 256, (v / 16777216) % 256, (v / 65536) % 256, (v / 256) % 256, v % 256]
abbrev cmd_Put.kb : Kd Int := Kd.int .u8
/-- What a writer holds: its block, and the bytes of its own row. -/
def cmd_Put.Wr (T base bw : Nat) (W : World) (L : List Int) : Prop := ∃ v, W.heap[bw]? = some (.cells #[v] T (0, 0)) ∧ Kd.R cmd_Put.kb 5 W base (fun _ => True) v L
/-- What a writer's call keeps: all blocks but its own and rows of bytes. -/
structure cmd_Put.Kp (base bw : Nat) (W W' : World) : Prop where
 os : W'.os = W.os
 tape : W'.tape = W.tape
 output : W'.output = W.output
 size : W.heap.size ≤ W'.heap.size
 block : ∀ k, k < W.heap.size → k ≠ bw → (k < base ∨ ∀ cells, W.heap[k]? ≠ some (.cells cells 5 (0, 0))) → W'.heap[k]? = W.heap[k]?
theorem cmd_Put.Kp.refl (base bw : Nat) (W : World) : cmd_Put.Kp base bw W W := ⟨rfl, rfl, rfl, Nat.le_refl _, fun _ _ _ _ => rfl⟩
theorem cmd_Put.Kp.trans {base bw : Nat} {A B C : World} (h : cmd_Put.Kp base bw A B) (k : cmd_Put.Kp base bw B C) : cmd_Put.Kp base bw A C :=
 ⟨k.os.trans h.os, k.tape.trans h.tape, k.output.trans h.output, Nat.le_trans h.size k.size, fun i hi hne hc => by
  have e := h.block i hi hne hc
  refine (k.block i (Nat.lt_of_lt_of_le hi h.size) hne ?_).trans e
  rcases hc with hc | hc
  ·exact .inl hc
  ·exact .inr (fun cells => by rw [e]; exact hc cells)⟩
theorem cmd_Put.Kp.below {base bw : Nat} {W W' : World} (h : Below W.heap.size W W') : cmd_Put.Kp base bw W W' := ⟨h.os, h.tape, h.output, h.size, fun k hk _ _ => h.block k hk⟩
theorem cmd_Put.Kp.set (base bw i : Nat) (W : World) (v : Value) : cmd_Put.Kp base bw W (W.setCell ⟨bw, i, none⟩ v) := ⟨rfl, rfl, rfl, by rw [World.size_setCell]; exact Nat.le_refl _, fun k _ hne _ => Below.heap_setCell W ⟨bw, i, none⟩ v k hne⟩
theorem cmd_Put.Kp.grown {base bw : Nat} {W W' : World} {v : Value} {L : List Int} (hr : Kd.R cmd_Put.kb 5 W base (fun _ => True) v L) (hg : W.grownBy W' v.ownBlock) : cmd_Put.Kp base bw W W' :=
 ⟨hg.os, hg.tape, hg.output, hg.size, fun k hk _ hc => hg.block k hk (fun e => by
  obtain ⟨_, inner, hown, _⟩ := hr
  obtain ⟨cells, hcell⟩ := own_typed hown k e.symm
  rcases hc with hc | hc
  ·have := own_base hown k e.symm; omega
  ·exact hc cells hcell)⟩
/-- A block that is told stays told. -/
theorem cmd_Put.Kp.blk {base bw : Nat} {W W' : World} (h : cmd_Put.Kp base bw W W') {k t : Nat} {cells : Array Value} (hb : W.heap[k]? = some (.cells cells t (0, 0))) (hne : k ≠ bw) (ht : t ≠ 5) : W'.heap[k]? = some (.cells cells t (0, 0)) :=
 (h.block k (blk_lt hb) hne (.inr (fun c e => by rw [hb] at e; injection e with e; injection e with _ e2; exact ht e2))).trans hb
theorem cmd_Put.Kp.toBelow {base bw B : Nat} {w W W' : World} (h : cmd_Put.Kp base bw W W') (hB : Below B w W) (h1 : B ≤ base) (h2 : B ≤ bw) (h3 : B ≤ W.heap.size) : Below B w W' :=
 hB.trans ⟨h.os, h.tape, h.output, h.size, fun k hk => h.block k (by omega) (by omega) (.inl (by omega))⟩
theorem cmd_Put.Wr.below {T : Nat} {base bw : Nat} {W W' : World} {L : List Int} (h : cmd_Put.Wr T base bw W L) (hb : Below W.heap.size W W') : cmd_Put.Wr T base bw W' L := by
 obtain ⟨v, h1, h2⟩ := h
 exact ⟨v, yB h1 hb, Kd.R_below h2 hb⟩
/-- Bytes that a loop has laid so far. -/
def cmd_Put.part (v : Int) (n : Nat) : List Int := (cmd_Put.w8 v).take n
theorem cmd_Put.part_step (v x s b B : Int) (h0 : 0 ≤ x) (hlt : x < 8) (hs : s = 8 * (7 - x)) (hb : v / 2 ^ min s.toNat 64 = b) (hB : IntKind.u8.wrap b = B) : cmd_Put.part v (x + 1).toNat = cmd_Put.part v x.toNat ++ [B] := by
 rw [IntKind.wrap_u8] at hB
 subst hB
 subst hb
 have h : x = 0 ∨ x = 1 ∨ x = 2 ∨ x = 3 ∨ x = 4 ∨ x = 5 ∨ x = 6 ∨ x = 7 := by omega
 rcases h with rfl | rfl | rfl | rfl | rfl | rfl | rfl | rfl
 ·subst hs; rfl
 ·subst hs; rfl
 ·subst hs; rfl
 ·subst hs; rfl
 ·subst hs; rfl
 ·subst hs; rfl
 ·subst hs; rfl
 ·subst hs
  show cmd_Put.w8 v = _ ++ [v / 2 ^ 0 % 256]
  rw [Int.pow_zero, Int.ediv_one]
  rfl
theorem cmd_Put.Kp.drew (base bw : Nat) (W : World) : cmd_Put.Kp base bw W W.drew := ⟨rfl, rfl, rfl, Nat.le_refl _, fun _ _ _ _ => rfl⟩
set_option maxHeartbeats 8000000 in
set_option maxRecDepth 100000 in
theorem cmd_Put.word (v : Int) (bw base : Nat) (L : List Int) (w : World) (hw : cmd_Put.Wr 58 base bw w L) (hbase : base ≤ w.heap.size) (hlim : L.length < 1000000000) :
  Calls Try.prog 53 #[.pointer (some ⟨bw, 0, none⟩), .int .u64 v] w fun e w' => e = .returned (.tuple #[]) ∧ cmd_Put.Wr 58 base bw w' (L ++ cmd_Put.w8 v) ∧ cmd_Put.Kp base bw w w' := by
 have HW := Aside0.mk hw
 have HBS := Aside0.mk hbase
 have HL := Aside0.mk hlim
 clear hw hbase hlim
 go_enter Try.func53, Try.ntmps53
 go_wp2
 go_loopw [4, 5] (fun _ v5 wr => ∃ x : Int, 0 ≤ x ∧ x ≤ 8 ∧ v5 = .int .i64 x ∧ Aside0 (cmd_Put.Wr 58 base bw wr (L ++ cmd_Put.part v x.toNat)) ∧ Aside0 (cmd_Put.Kp base bw w wr)) (fun _ v _ => 8 - (intOf v).toNat)
 case atStart => exact ⟨0, by omega, by omega, rfl, ⟨by have := HW.out; unfold cmd_Put.part; simpa using this⟩, ⟨cmd_Put.Kp.refl _ _ _⟩⟩
 case round =>
  obtain ⟨x, h0, h8, rfl, HO, HK⟩ := hrel
  obtain ⟨vb, hb, hr⟩ := HO.out
  obtain ⟨A, m, c, rfl⟩ : ∃ A m c, vb = .slice A m c := by
   obtain ⟨A, c, h⟩ := Kd.R_slice hr
   exact ⟨A, _, c, h⟩
  have y0 : wr.cell? ⟨bw, 0, none⟩ = some (.slice A m c) := (blk_cell hb 0).trans rfl
  have g0 := blk_frozen hb 0
  have HR := Aside0.mk hr
  have HBB := Aside0.mk hb
  clear hr hb
  by_cases hlt : x < 8
  ·have q3 : decide (x < 8) = true := decide_eq_true hlt
   obtain ⟨s1, hs1⟩ : ∃ s, 7 - x = s := ⟨_, rfl⟩
   obtain ⟨s2, hs2⟩ : ∃ s, 8 * s1 = s := ⟨_, rfl⟩
   have e0 : 0 ≤ s2 := by omega
   have HS := Aside0.mk (show s2 = 8 * (7 - x) by omega)
   have e1 : wrap64 (7 - x) = s1 := by unfold wrap64; omega
   have e2 : wrap64 (8 * s1) = s2 := by clear e1; unfold wrap64; omega
   have HP := Aside0.mk (show (cmd_Put.part v x.toNat).length ≤ 8 by unfold cmd_Put.part; rw [List.length_take]; exact Nat.le_trans (Nat.min_le_right _ _) (Nat.le_refl 8))
   have e1w : IntKind.i64.wrap (7 - x) = s1 := (i64_w _).trans e1
   have e2w : IntKind.i64.wrap (8 * s1) = s2 := (i64_w _).trans e2
   have e3 := eq_true e0
   have e4 : decide (0 ≤ s2) = true := decide_eq_true e0
   obtain ⟨b, hb9⟩ : ∃ b, (v / 2 ^ min s2.toNat 64) = b := ⟨_, rfl⟩
   have hb8 : (shr .u64 v s2) = b := hb9
   have hb7 : s2 ≤ 64 → (v / 2 ^ s2.toNat) = b := shr_small hb8
   obtain ⟨B, hBw⟩ : ∃ B, IntKind.u8.wrap b = B := ⟨_, rfl⟩
   have HB9 := Aside0.mk (cmd_Put.part_step v x s2 b B h0 hlt HS.out hb9 hBw)
   have HX := Aside0.mk (And.intro h0 hlt)
   have y3 : ((wr.drew).alloc (.cells #[.int .u8 B] 5)).cell? ⟨bw, 0, none⟩ = some (.slice A m c) := (blk_cell (yA (w := wr.drew) HBB.out _) 0).trans rfl
   have y4 : ((wr.alloc (.cells #[.int .u8 B] 5)).drew).cell? ⟨bw, 0, none⟩ = some (.slice A m c) := y3
   clear hs1 hs2
   go_wp2
   refine wp_region_any (by kernel_rfl) ?_
   try (change wpAny _ _ _ _ _ _ _ (World.drew _))
   refine wpAny_take (i := 0) (v := ?v0) rfl (by kernel_rfl) (by kernel_rfl) (by kernel_rfl) (fun _ _ _ h => h) (Or.inl ⟨by rfl, ?y0⟩) ?r0
   case y0 => intro w; first | (go_simp; done) | (go_simp; with_reducible rfl)
   refine wpAny_take (i := 1) (v := ?v1) rfl (by kernel_rfl) (by kernel_rfl) (by kernel_rfl) (fun _ _ _ h => h) (Or.inl ⟨by rfl, ?y1⟩) ?r1
   case y1 => intro w; first | (go_simp; done) | (go_simp; with_reducible rfl)
   refine wpAny_take (i := 5) (v := ?v5) rfl (by kernel_rfl) (by kernel_rfl) (by kernel_rfl) (fun _ _ _ h => h) (Or.inl ⟨by rfl, ?y5⟩) ?r5
   case y5 => intro w; first | (go_simp; done) | (go_simp; with_reducible rfl)
   refine wpAny_take (i := 6) (v := ?v6) rfl (by kernel_rfl) (by kernel_rfl) (by kernel_rfl) (fun _ _ _ h => h) (Or.inl ⟨by rfl, ?y6⟩) ?r6
   case y6 => intro w; first | (go_simp; done) | (go_simp; with_reducible rfl)
   refine wpAny_take (i := 2) (v := ?v2) rfl (by kernel_rfl) (by kernel_rfl) (by kernel_rfl) (fun _ _ _ h => h) (Or.inl ⟨by rfl, ?y2⟩) ?r2
   case y2 => intro w; first | (go_simp; done) | (go_simp; with_reducible rfl)
   refine wpAny_take (i := 3) (v := ?v3) rfl (by kernel_rfl) (by kernel_rfl) (by kernel_rfl) (fun _ _ _ h => h) (Or.inl ⟨by rfl, ?y3⟩) ?r3
   case y3 => intro w; first | (go_simp; done) | (go_simp; with_reducible rfl)
   refine wpAny_take (i := 7) (v := ?v7) rfl (by kernel_rfl) (by kernel_rfl) (by kernel_rfl) (fun _ _ _ h => h) (Or.inl ⟨by rfl, ?y7⟩) ?r7
   case y7 => intro w; first | (go_simp; done) | (go_simp; with_reducible rfl)
   refine wpAny_take (i := 8) (v := ?v8) rfl (by kernel_rfl) (by kernel_rfl) (by kernel_rfl) (fun _ _ _ h => h) (Or.inl ⟨by rfl, ?y8⟩) ?r8
   case y8 => intro w; first | (go_simp; done) | (go_simp; with_reducible rfl)
   refine wpAny_take (i := 9) (v := ?v9) rfl (by kernel_rfl) (by kernel_rfl) (by kernel_rfl) (fun _ _ _ h => h) (Or.inl ⟨by rfl, ?y9⟩) ?r9
   case y9 => intro w; first | (go_simp; done) | (go_simp; with_reducible rfl)
   refine wpAny_take (i := 10) (v := ?v10) rfl (by kernel_rfl) (by kernel_rfl) (by kernel_rfl) (fun _ _ _ h => h) (Or.inl ⟨by rfl, ?y10⟩) ?r10
   case y10 => intro w; first | (go_simp; done) | (go_simp; with_reducible rfl)
   refine wpAny_ready (rs := [4, 11]) (by kernel_rfl) (by simp) ?_
   refine AllReady.cons rfl (fun K hK => ?_) (AllReady.cons rfl (fun K hK => ?_) AllReady.nil)
   ·go_simp
    refine hK _ _ ?_
    clear hK K
    refine wpAny_ready (rs := [11]) (by kernel_rfl) (by simp) ?_
    refine AllReady.cons rfl (fun K hK => ?_) AllReady.nil
    go_simp
    refine hK _ _ ?_
    clear hK K
    refine wpAny_ready (rs := [12]) (by kernel_rfl) (by simp) ?_
    refine AllReady.cons rfl (fun K hK => ?_) AllReady.nil
    refine Kd.R_append_step cmd_Put.kb (w0 := wr.drew) base rfl (.tmp 12) (.tmp 19) 46 5 (.int .u8 0) 1 rfl Try.underlying46 info5 rfl (by decide) (by decide) (.slice A m c) (L ++ cmd_Put.part v x.toNat) B [.int .u8 B] (fun _ => True) (fun _ => False) rfl rfl rfl (fun _ hk => hk.elim) (fun _ _ => trivial) (Kd.R_drew HR.out) (Below.refl _ _) (Nat.le_trans HBS.out HK.out.size) (by have := HL.out; have := HP.out; rw [List.length_append]; omega) ?_
    intro v2 w2 ho hb hg hat
    refine hK _ _ ?_
    clear hK K
    have HO2 := Aside0.mk ho
    have HK2 := Aside0.mk (cmd_Put.Kp.grown (bw := bw) (Kd.R_drew HR.out) hg)
    have HB2 := Aside0.mk (blk_grown (w := wr.drew) HBB.out hg (Kd.R_ne (Kd.R_drew HR.out) HBB.out (by decide)))
    clear ho hb hg hat
    have z0 : w2.cell? ⟨bw, 0, none⟩ = some (.slice A m c) := (blk_cell HB2.out 0).trans rfl
    have z1 := blk_frozen HB2.out 0
    obtain ⟨A2, m2, c2, rfl⟩ : ∃ A m c, v2 = .slice A m c := (by obtain ⟨A, c, h⟩ := Kd.R_slice HO2.out; exact ⟨A, _, c, h⟩)
    refine wpAny_ready (rs := [13]) (by kernel_rfl) (by simp) ?_
    refine AllReady.cons rfl (fun K hK => ?_) AllReady.nil
    go_simp
    refine hK _ _ ?_
    clear hK K
    refine wpAny_ready (rs := [14]) (by kernel_rfl) (by simp) ?_
    refine AllReady.cons rfl (fun K hK => ?_) AllReady.nil
    go_simp
    refine hK _ _ ?_
    clear hK K
    refine wpAny_ready (rs := [15]) (by kernel_rfl) (by simp) ?_
    refine AllReady.cons rfl (fun K hK => ?_) AllReady.nil
    go_simp
    refine hK _ _ ?_
    clear hK K
    refine wpAny_done (by kernel_rfl) ?_ _
    go_wp2
    refine ⟨⟨x + 1, ?_, ?_, rfl, ⟨⟨_, blk_set HB2.out 0 _, ?_⟩⟩, ⟨(HK.out.trans (cmd_Put.Kp.drew _ _ _)).trans (HK2.out.trans (cmd_Put.Kp.set _ _ _ _ _))⟩⟩, ?_⟩
    ·have := HX.out; clear e1 e2 e1w e2w; omega
    ·have := HX.out; clear e1 e2 e1w e2w; omega
    ·rw [HB9.out, ← List.append_assoc]
     exact Kd.R_mono (Kd.R_far (p := ⟨bw, 0, none⟩) (Kd.R_types HO2.out HB2.out (by decide)) (fun _ hk => hk.2) _) (fun _ _ => trivial)
    ·have := HX.out; clear e1 e2 e1w e2w; simp only [intOf]; omega
   ·go_simp
    refine hK _ _ ?_
    clear hK K
    refine wpAny_ready (rs := [4]) (by kernel_rfl) (by simp) ?_
    refine AllReady.cons rfl (fun K hK => ?_) AllReady.nil
    go_simp
    refine hK _ _ ?_
    clear hK K
    refine wpAny_ready (rs := [12]) (by kernel_rfl) (by simp) ?_
    refine AllReady.cons rfl (fun K hK => ?_) AllReady.nil
    refine Kd.R_append_step cmd_Put.kb (w0 := wr.drew) base rfl (.tmp 12) (.tmp 19) 46 5 (.int .u8 0) 1 rfl Try.underlying46 info5 rfl (by decide) (by decide) (.slice A m c) (L ++ cmd_Put.part v x.toNat) B [.int .u8 B] (fun _ => True) (fun _ => False) rfl rfl rfl (fun _ hk => hk.elim) (fun _ _ => trivial) (Kd.R_drew HR.out) (Below.refl _ _) (Nat.le_trans HBS.out HK.out.size) (by have := HL.out; have := HP.out; rw [List.length_append]; omega) ?_
    intro v2 w2 ho hb hg hat
    refine hK _ _ ?_
    clear hK K
    have HO2 := Aside0.mk ho
    have HK2 := Aside0.mk (cmd_Put.Kp.grown (bw := bw) (Kd.R_drew HR.out) hg)
    have HB2 := Aside0.mk (blk_grown (w := wr.drew) HBB.out hg (Kd.R_ne (Kd.R_drew HR.out) HBB.out (by decide)))
    clear ho hb hg hat
    have z0 : w2.cell? ⟨bw, 0, none⟩ = some (.slice A m c) := (blk_cell HB2.out 0).trans rfl
    have z1 := blk_frozen HB2.out 0
    obtain ⟨A2, m2, c2, rfl⟩ : ∃ A m c, v2 = .slice A m c := (by obtain ⟨A, c, h⟩ := Kd.R_slice HO2.out; exact ⟨A, _, c, h⟩)
    refine wpAny_ready (rs := [13]) (by kernel_rfl) (by simp) ?_
    refine AllReady.cons rfl (fun K hK => ?_) AllReady.nil
    go_simp
    refine hK _ _ ?_
    clear hK K
    refine wpAny_ready (rs := [14]) (by kernel_rfl) (by simp) ?_
    refine AllReady.cons rfl (fun K hK => ?_) AllReady.nil
    go_simp
    refine hK _ _ ?_
    clear hK K
    refine wpAny_ready (rs := [15]) (by kernel_rfl) (by simp) ?_
    refine AllReady.cons rfl (fun K hK => ?_) AllReady.nil
    go_simp
    refine hK _ _ ?_
    clear hK K
    refine wpAny_done (by kernel_rfl) ?_ _
    go_wp2
    refine ⟨⟨x + 1, ?_, ?_, rfl, ⟨⟨_, blk_set HB2.out 0 _, ?_⟩⟩, ⟨(HK.out.trans (cmd_Put.Kp.drew _ _ _)).trans (HK2.out.trans (cmd_Put.Kp.set _ _ _ _ _))⟩⟩, ?_⟩
    ·have := HX.out; clear e1 e2 e1w e2w; omega
    ·have := HX.out; clear e1 e2 e1w e2w; omega
    ·rw [HB9.out, ← List.append_assoc]
     exact Kd.R_mono (Kd.R_far (p := ⟨bw, 0, none⟩) (Kd.R_types HO2.out HB2.out (by decide)) (fun _ hk => hk.2) _) (fun _ _ => trivial)
    ·have := HX.out; clear e1 e2 e1w e2w; simp only [intOf]; omega
  ·obtain rfl : x = 8 := by omega
   go_wp2
   go_end0
   exact ⟨rfl, HO.out, HK.out⟩
/-- Numbers as words, one behind the other. -/
def cmd_Put.nb (xs : List Int) : List Int := xs.flatMap fun x => cmd_Put.w8 (x % 18446744073709551616)
theorem cmd_Put.nb_snoc (xs : List Int) (x : Int) : cmd_Put.nb (xs ++ [x]) = cmd_Put.nb xs ++ cmd_Put.w8 (x % 18446744073709551616) := by simp [cmd_Put.nb]
theorem cmd_Put.nb_length (xs : List Int) : (cmd_Put.nb xs).length = 8 * xs.length := by
 induction xs with
 | nil => rfl
 | cons x r ih =>
  show (cmd_Put.w8 _ ++ cmd_Put.nb r).length = _
  rw [List.length_append, ih, List.length_cons]
  show 8 + _ = _
  omega
theorem cmd_Put.u64w (n : Int) : IntKind.u64.wrap n = n % 18446744073709551616 := by simp [IntKind.wrap, IntKind.bits, IntKind.signed]
set_option maxHeartbeats 8000000 in
set_option maxRecDepth 100000 in
theorem cmd_Put.nums (xs : List Int) (q bw base : Nat) (L : List Int) (w : World) (hw : cmd_Put.Wr 58 base bw w L) (hq : w.heap[q]? = some (.cells (xs.map (Value.int .i64)).toArray 3 (0, 0))) (hne : q ≠ bw) (hbase : base ≤ w.heap.size) (hlim : L.length + 8 * xs.length < 900000000) :
  Calls Try.prog 41 #[.pointer (some ⟨bw, 0, none⟩), .slice (some ⟨q, 0, none⟩) xs.length xs.length] w fun e w' => e = .returned (.tuple #[]) ∧ cmd_Put.Wr 58 base bw w' (L ++ cmd_Put.nb xs) ∧ cmd_Put.Kp base bw w w' := by
 have HW := Aside0.mk hw
 have HBS := Aside0.mk hbase
 have HL := Aside0.mk hlim
 have HQ := Aside0.mk hq
 have HNE := Aside0.mk hne
 clear hw hbase hlim hq hne
 go_enter Try.func41, Try.ntmps41
 go_wp2
 go_loopw [8] (fun v8 wr => ∃ x : Int, 0 ≤ x ∧ x ≤ (xs.length : Int) ∧ v8 = .int .i64 x ∧ Aside0 (cmd_Put.Wr 58 base bw wr (L ++ cmd_Put.nb (xs.take x.toNat))) ∧ Aside0 (cmd_Put.Kp base bw w wr)) (fun v _ => xs.length - (intOf v).toNat)
 case atStart => exact ⟨0, by omega, by omega, rfl, ⟨by simpa [cmd_Put.nb] using HW.out⟩, ⟨cmd_Put.Kp.refl _ _ _⟩⟩
 case round =>
  obtain ⟨x, h0, h8, rfl, HO, HK⟩ := hrel
  by_cases hlt : x < (xs.length : Int)
  ·have q3 : decide (x < (xs.length : Int)) = true := decide_eq_true hlt
   have hxl : x.toNat < xs.length := by omega
   obtain ⟨y, hy⟩ : ∃ y, xs[x.toNat] = y := ⟨_, rfl⟩
   have z0 : wr.cell? ⟨q, x.toNat, none⟩ = some (.int .i64 y) := (blk_cell (HK.out.blk HQ.out HNE.out (by decide)) _).trans (by simp [hxl, hy])
   have p6 := eq_true h0
   have q6 := eq_true hlt
   obtain ⟨u, hu⟩ : ∃ u, IntKind.u64.wrap y = u := ⟨_, rfl⟩
   have hu2 : u = y % 18446744073709551616 := by rw [← hu, cmd_Put.u64w]
   have HU := Aside0.mk (show 0 ≤ u ∧ u < 18446744073709551616 by omega)
   have HLL := Aside0.mk (show (L ++ cmd_Put.nb (xs.take x.toNat)).length < 1000000000 by have := HL.out; rw [List.length_append, cmd_Put.nb_length, List.length_take]; omega)
   have HX := Aside0.mk (show (x + 1).toNat = x.toNat + 1 ∧ 0 ≤ x + 1 ∧ x + 1 ≤ (xs.length : Int) by omega)
   have HXL := Aside0.mk (show xs.take (x.toNat + 1) = xs.take x.toNat ++ [y] by rw [← hy]; exact List.take_succ_eq_append_getElem hxl)
   have HU2 := Aside0.mk hu2
   have HLT := Aside0.mk hlt
   have HBW := Aside0.mk (Nat.le_trans HBS.out HK.out.size)
   obtain ⟨s1, hs1⟩ : ∃ s, wrap64 (x + 1) = s := ⟨_, rfl⟩
   have HS1 := Aside0.mk (show s1 = x + 1 by have := HL.out; rw [← hs1]; unfold wrap64; omega)
   clear hu2 hxl hy hlt
   go_wp2_with (go_at_call 53; refine (cmd_Put.word u bw base _ _ HO.out HBW.out HLL.out).mono ?_; rintro e w1 ⟨rfl, hw1, hk1⟩; have HO1 := Aside0.mk hw1; have HK1 := Aside0.mk hk1; clear hw1 hk1)
   go_roundw
   case rel => exact ⟨x + 1, HX.out.2.1, HX.out.2.2, by rw [hs1, HS1.out], ⟨by rw [HX.out.1, HXL.out, cmd_Put.nb_snoc, ← HU2.out, ← List.append_assoc]; exact HO1.out⟩, ⟨HK.out.trans HK1.out⟩⟩
   case measure => rw [hs1, HS1.out]; have := HX.out; have := HLT.out; clear hs1; show xs.length - (x + 1).toNat < xs.length - x.toNat; omega
  ·have q3 : decide (x < (xs.length : Int)) = false := decide_eq_false hlt
   have HE := Aside0.mk (show xs.take x.toNat = xs from List.take_of_length_le (by omega))
   clear hlt
   go_wp2
   go_end0
   exact ⟨rfl, by have := HO.out; rw [HE.out] at this; exact this, HK.out⟩
theorem cmd_Put.Wr.lt {T : Nat} {base bw : Nat} {W : World} {L : List Int} (h : cmd_Put.Wr T base bw W L) : bw < W.heap.size := by
 obtain ⟨v, h1, _⟩ := h
 exact blk_lt h1
theorem cmd_Put.Wr.alloc {T : Nat} {base bw : Nat} {W : World} {L : List Int} (h : cmd_Put.Wr T base bw W L) (o : Obj) : cmd_Put.Wr T base bw (W.alloc o) L := h.below (zA (Below.refl _ _) o)
theorem cmd_Put.Kp.alloc (base bw : Nat) (W : World) (o : Obj) : cmd_Put.Kp base bw W (W.alloc o) := cmd_Put.Kp.below (zA (Below.refl _ _) o)
/-- A text's length, and its bytes. -/
def cmd_Put.tb (s : ByteArray) : List Int := cmd_Put.nb [(s.size : Int)] ++ bytesOf s
theorem cmd_Put.tb_length (s : ByteArray) : (cmd_Put.tb s).length = 8 + s.size := by
 unfold cmd_Put.tb
 rw [List.length_append, cmd_Put.nb_length, bytesOf_length]; rfl
set_option maxHeartbeats 8000000 in
set_option maxRecDepth 100000 in
theorem cmd_Put.text (s : ByteArray) (bw base : Nat) (L : List Int) (w : World) (hw : cmd_Put.Wr 58 base bw w L) (hbase : base ≤ w.heap.size) (hlim : L.length + s.size + 8 < 900000000) :
  Calls Try.prog 42 #[.pointer (some ⟨bw, 0, none⟩), .string s] w fun e w' => e = .returned (.tuple #[]) ∧ cmd_Put.Wr 58 base bw w' (L ++ cmd_Put.tb s) ∧ cmd_Put.Kp base bw w w' := by
 have HW := Aside0.mk hw
 have HBS := Aside0.mk hbase
 have HL := Aside0.mk hlim
 have HLT := Aside0.mk hw.lt
 clear hw hbase hlim
 go_enter Try.func42, Try.ntmps42
 go_wp2_with (first | (go_at_call 41; go_loud (refine (cmd_Put.nums [(s.size : Int)] w.heap.size bw base L _ (HW.out.alloc _) (blk_new w _) (by have := HLT.out; omega) (Nat.le_trans HBS.out (by simp)) (by have := HL.out; simp; omega)).mono ?_; rintro e w1 ⟨rfl, hw1, hk1⟩; obtain ⟨vb, hb, hr⟩ := hw1; obtain ⟨A, m, c, rfl⟩ : ∃ A m c, vb = .slice A m c := (by obtain ⟨A, c, h⟩ := Kd.R_slice hr; exact ⟨A, _, c, h⟩); have y0 : w1.cell? ⟨bw, 0, none⟩ = some (.slice A m c) := (blk_cell hb 0).trans rfl; have g0 := blk_frozen hb 0; have HB := Aside0.mk hb; have HR := Aside0.mk hr; have HK := Aside0.mk ((cmd_Put.Kp.alloc base bw w _).trans hk1); clear hb hr hk1)) | ((with_reducible refine gate_builtin (b := .append) (xs := #[.tmp 13, .tmp 14]) rfl ?_); at_builtin; go_loud (refine print_append_str (w0 := w1) base rfl (.tmp 13) (.tmp 14) 46 9 5 rfl Try.underlying46 Try.underlying9 info5 (.slice A m c) (L ++ cmd_Put.nb [(s.size : Int)]) s rfl rfl (Kd.own_of_R HR.out) (Below.refl _ _) (Nat.le_trans HBS.out HK.out.size) (by have := HL.out; rw [List.length_append, cmd_Put.nb_length]; show _ + 8 * 1 + _ ≤ _; omega) ?_; intro v2 w2 ho hb hg; have HO2 := Aside0.mk (show Kd.R cmd_Put.kb 5 w2 base (fun _ => True) v2 (L ++ cmd_Put.nb [(s.size : Int)] ++ bytesOf s) from Kd.R_of_own ho (fun _ _ => trivial)); have HK2 := Aside0.mk (cmd_Put.Kp.grown (bw := bw) HR.out hg); have HB2 := Aside0.mk (blk_grown HB.out hg (Kd.R_ne HR.out HB.out (by decide))); clear ho hb hg; have z0 : w2.cell? ⟨bw, 0, none⟩ = some (.slice A m c) := (blk_cell HB2.out 0).trans rfl; have z1 := blk_frozen HB2.out 0; obtain ⟨A2, m2, c2, rfl⟩ : ∃ A m c, v2 = .slice A m c := (by obtain ⟨A, c, h⟩ := Kd.R_slice HO2.out; exact ⟨A, _, c, h⟩))))
 go_end0
 refine ⟨rfl, ⟨_, blk_set HB2.out 0 _, ?_⟩, HK.out.trans (HK2.out.trans (cmd_Put.Kp.set _ _ _ _ _))⟩
 unfold cmd_Put.tb
 rw [← List.append_assoc]
 exact Kd.R_mono (Kd.R_far (p := ⟨bw, 0, none⟩) (Kd.R_types HO2.out HB2.out (by decide)) (fun _ hk => hk.2) _) (fun _ _ => trivial)
/-- What is told while a command is written: what is still to be written. -/
structure cmd_Put.St (T base bw : Nat) (w0 W : World) (F rest : List Int) : Prop where
 wr : ∃ cur, cmd_Put.Wr T base bw W cur ∧ cur ++ rest = F
 lim : F.length < 800000000
 below : Below w0.heap.size w0 W
 b1 : w0.heap.size ≤ base
 b2 : w0.heap.size ≤ bw
 b3 : base ≤ W.heap.size
theorem cmd_Put.St.re {T : Nat} {base bw : Nat} {w0 W : World} {F R R' : List Int} (h : cmd_Put.St T base bw w0 W F R) (e : R = R') : cmd_Put.St T base bw w0 W F R' := e ▸ h
theorem cmd_Put.St.go {T : Nat} {base bw : Nat} {w0 W W' : World} {F R : List Int} (h : cmd_Put.St T base bw w0 W F R) (hb : Below W.heap.size W W') : cmd_Put.St T base bw w0 W' F R := by
 obtain ⟨⟨cur, h1, h2⟩, h3, h4, h5, h6, h7⟩ := h
 have hs := hb.size
 exact ⟨⟨cur, h1.below hb, h2⟩, h3, h4.trans ⟨hb.os, hb.tape, hb.output, hb.size, fun k hk => hb.block k (Nat.lt_of_lt_of_le hk h4.size)⟩, h5, h6, Nat.le_trans h7 hs⟩
theorem cmd_Put.St.alloc {T : Nat} {base bw : Nat} {w0 W : World} {F R : List Int} (h : cmd_Put.St T base bw w0 W F R) (o : Obj) : cmd_Put.St T base bw w0 (W.alloc o) F R := h.go (zA (Below.refl _ _) o)
theorem cmd_Put.St.far {T : Nat} {base bw : Nat} {w0 W : World} {F R : List Int} (h : cmd_Put.St T base bw w0 W F R) {k t : Nat} {cells : Array Value} (hb : W.heap[k]? = some (.cells cells t (0, 0))) (ht : t ≠ T) : k ≠ bw := by
 obtain ⟨⟨cur, ⟨v, h1, _⟩, _⟩, _⟩ := h
 rintro rfl
 rw [hb] at h1
 injection h1 with h1
 injection h1 with _ h2
 exact ht h2
theorem cmd_Put.St.set {T : Nat} {base bw : Nat} {w0 W : World} {F R : List Int} (h : cmd_Put.St T base bw w0 W F R) {g i t : Nat} {cells : Array Value} {v : Value} (hb : W.heap[g]? = some (.cells cells t (0, 0))) (ht : t ≠ T) (h5 : t ≠ 5) (hg : w0.heap.size ≤ g) : cmd_Put.St T base bw w0 (W.setCell ⟨g, i, none⟩ v) F R := by
 have hne := h.far hb ht
 obtain ⟨⟨cur, ⟨u, h1, h2⟩, h3⟩, h4, h6, h7, h8, h9⟩ := h
 refine ⟨⟨cur, ⟨u, ?_, ?_⟩, h3⟩, h4, below_set h6 hg, h7, h8, by rw [World.size_setCell]; exact h9⟩
 ·exact blk_far h1 (Ne.symm hne) _
 ·exact Kd.R_mono (Kd.R_far (p := ⟨g, i, none⟩) (Kd.R_types h2 hb (fun q hq e => h5 (e ▸ List.mem_singleton.1 hq))) (fun _ hk => hk.2) _) (fun _ _ => trivial)
theorem cmd_Put.St.blk {T : Nat} {base bw : Nat} {w0 W W' : World} {F R : List Int} (h : cmd_Put.St T base bw w0 W F R) (hk : cmd_Put.Kp base bw W W') {k t : Nat} {cells : Array Value} (hb : W.heap[k]? = some (.cells cells t (0, 0))) (ht : t ≠ T) (h5 : t ≠ 5) : W'.heap[k]? = some (.cells cells t (0, 0)) := hk.blk hb (h.far hb ht) h5
theorem cmd_Put.St.next {T : Nat} {base bw : Nat} {w0 W W' : World} {F X R cur : List Int} (h : cmd_Put.St T base bw w0 W F (X ++ R)) (he : cur ++ (X ++ R) = F) (hw : cmd_Put.Wr T base bw W' (cur ++ X)) (hk : cmd_Put.Kp base bw W W') : cmd_Put.St T base bw w0 W' F R :=
 ⟨⟨_, hw, by rw [List.append_assoc]; exact he⟩, h.lim, hk.toBelow h.below h.b1 h.b2 h.below.size, h.b1, h.b2, Nat.le_trans h.b3 hk.size⟩
theorem cmd_Put.St.len {F X R cur : List Int} (he : cur ++ (X ++ R) = F) (hl : F.length < 800000000) : cur.length + X.length < 800000000 := by
 rw [← he, List.length_append, List.length_append] at hl
 omega
theorem cmd_Put.St.nums {base bw : Nat} {w0 W : World} {F R : List Int} {xs : List Int} (h : cmd_Put.St 58 base bw w0 W F (cmd_Put.nb xs ++ R)) {q : Nat} (hq : W.heap[q]? = some (.cells (xs.map (Value.int .i64)).toArray 3 (0, 0))) :
  Calls Try.prog 41 #[.pointer (some ⟨bw, 0, none⟩), .slice (some ⟨q, 0, none⟩) xs.length xs.length] W fun e W' => e = .returned (.tuple #[]) ∧ cmd_Put.St 58 base bw w0 W' F R ∧ cmd_Put.Kp base bw W W' := by
 have hne := h.far hq (by decide)
 obtain ⟨cur, h1, h2⟩ := h.wr
 have hl := cmd_Put.St.len h2 h.lim
 rw [cmd_Put.nb_length] at hl
 refine (cmd_Put.nums xs q bw base cur W h1 hq hne h.b3 (by omega)).mono ?_
 rintro e w1 ⟨rfl, hw, hk⟩
 exact ⟨rfl, h.next h2 hw hk, hk⟩
theorem cmd_Put.St.num {base bw : Nat} {w0 W : World} {F R : List Int} {x : Int} (h : cmd_Put.St 58 base bw w0 W F (cmd_Put.nb [x] ++ R)) {q : Nat} (hq : W.heap[q]? = some (.cells #[.int .i64 x] 3 (0, 0))) :
  Calls Try.prog 41 #[.pointer (some ⟨bw, 0, none⟩), .slice (some ⟨q, 0, none⟩) 1 1] W fun e W' => e = .returned (.tuple #[]) ∧ cmd_Put.St 58 base bw w0 W' F R ∧ cmd_Put.Kp base bw W W' := cmd_Put.St.nums (xs := [x]) h hq
theorem cmd_Put.St.word {base bw : Nat} {w0 W : World} {F R : List Int} {x : Int} (h : cmd_Put.St 58 base bw w0 W F (cmd_Put.w8 x ++ R)) :
  Calls Try.prog 53 #[.pointer (some ⟨bw, 0, none⟩), .int .u64 x] W fun e W' => e = .returned (.tuple #[]) ∧ cmd_Put.St 58 base bw w0 W' F R ∧ cmd_Put.Kp base bw W W' := by
 obtain ⟨cur, h1, h2⟩ := h.wr
 have hl := cmd_Put.St.len h2 h.lim
 refine (cmd_Put.word x bw base cur W h1 h.b3 (by omega)).mono ?_
 rintro e w1 ⟨rfl, hw, hk⟩
 exact ⟨rfl, h.next h2 hw hk, hk⟩
theorem cmd_Put.St.text {base bw : Nat} {w0 W : World} {F R : List Int} {s : ByteArray} (h : cmd_Put.St 58 base bw w0 W F (cmd_Put.tb s ++ R)) :
  Calls Try.prog 42 #[.pointer (some ⟨bw, 0, none⟩), .string s] W fun e W' => e = .returned (.tuple #[]) ∧ cmd_Put.St 58 base bw w0 W' F R ∧ cmd_Put.Kp base bw W W' := by
 obtain ⟨cur, h1, h2⟩ := h.wr
 have hl := cmd_Put.St.len h2 h.lim
 rw [cmd_Put.tb_length] at hl
 refine (cmd_Put.text s bw base cur W h1 h.b3 (by omega)).mono ?_
 rintro e w1 ⟨rfl, hw, hk⟩
 exact ⟨rfl, h.next h2 hw hk, hk⟩
/-- A value's bytes, a row's, rows'. -/
def cmd_Put.vb (v : S45) : List Int := cmd_Put.nb [v.f0] ++ (cmd_Put.w8 (v.f1 % 18446744073709551616) ++ (cmd_Put.w8 v.f2 ++ cmd_Put.tb v.f3))
def cmd_Put.vsb (r : List S45) : List Int := r.flatMap cmd_Put.vb
def cmd_Put.rowb (r : List S45) : List Int := cmd_Put.nb [(r.length : Int)] ++ cmd_Put.vsb r
def cmd_Put.rsb (l : List (List S45)) : List Int := l.flatMap cmd_Put.rowb
def cmd_Put.rb (l : List (List S45)) : List Int := cmd_Put.nb [(l.length : Int)] ++ cmd_Put.rsb l
theorem cmd_Put.vsb_step {r : List S45} {n : Nat} {v : S45} (h : r.drop n = v :: r.drop (n + 1)) (R : List Int) : cmd_Put.vsb (r.drop n) ++ R = cmd_Put.nb [v.f0] ++ (cmd_Put.w8 (v.f1 % 18446744073709551616) ++ (cmd_Put.w8 v.f2 ++ (cmd_Put.tb v.f3 ++ (cmd_Put.vsb (r.drop (n + 1)) ++ R)))) := by
 rw [h]; simp [cmd_Put.vsb, cmd_Put.vb, List.append_assoc]
theorem cmd_Put.rsb_step {l : List (List S45)} {n : Nat} {r : List S45} (h : l.drop n = r :: l.drop (n + 1)) (R : List Int) : cmd_Put.rsb (l.drop n) ++ R = cmd_Put.nb [(r.length : Int)] ++ (cmd_Put.vsb r ++ (cmd_Put.rsb (l.drop (n + 1)) ++ R)) := by
 rw [h]; simp [cmd_Put.rsb, cmd_Put.rowb, List.append_assoc]
theorem cmd_Put.drop_at {α : Type} {l : List α} {n : Nat} (h : n < l.length) (d : α) : l.drop n = l.getD n d :: l.drop (n + 1) := by
 rw [List.drop_eq_getElem_cons h, List.getD_eq_getElem?_getD, List.getElem?_eq_getElem h, Option.getD_some]
theorem cmd_Put.at_row {w : World} {A : Option Addr} {n : Nat} {xs : List (List S45)} (h : Kd.C (Kd.slice 45 k45) w A n xs) (i : Int) (h0 : 0 ≤ i) (h1 : i < n) : ∃ ad A0 c0, A = some ad ∧ w.cell? (ad.add i.toNat) = some (.slice A0 (xs.getD i.toNat []).length c0) ∧ k45.C w A0 (xs.getD i.toNat []).length (xs.getD i.toNat []) := by
 obtain ⟨ad, c, e, _, hK, hc0⟩ := Kd.C_get h ([] : List S45) i h0 h1
 have hc : ∀ j u, c[j]? = some u → w.cell? (ad.add (i.toNat * 1 + j)) = some u := hc0
 obtain ⟨A0, c0, rfl, l0, g0⟩ := hK
 exact ⟨ad, A0, c0, e, by have hq := hc 0 _ rfl; rwa [Nat.mul_one, Nat.add_zero] at hq, g0⟩
theorem cmd_Put.St.few {T : Nat} {base bw : Nat} {w0 W : World} {F R : List Int} (h : cmd_Put.St T base bw w0 W F R) : R.length < 800000000 := by
 obtain ⟨⟨cur, _, he⟩, hl, _⟩ := h
 rw [← he, List.length_append] at hl
 omega
theorem cmd_Put.flat_few {α : Type} (f : α → List Int) (hf : ∀ x, 1 ≤ (f x).length) (l : List α) : l.length ≤ (l.flatMap f).length := by
 induction l with
 | nil => exact Nat.le_refl _
 | cons x r ih =>
  rw [List.flatMap_cons, List.length_append, List.length_cons]
  have := hf x
  omega
theorem cmd_Put.vb_pos (v : S45) : 1 ≤ (cmd_Put.vb v).length := by
 unfold cmd_Put.vb
 rw [List.length_append, cmd_Put.nb_length]
 show 1 ≤ 8 * 1 + _
 omega
theorem cmd_Put.rowb_pos (v : List S45) : 1 ≤ (cmd_Put.rowb v).length := by
 unfold cmd_Put.rowb
 rw [List.length_append, cmd_Put.nb_length]
 show 1 ≤ 8 * 1 + _
 omega
theorem cmd_Put.step1 {x s : Int} {n : Nat} (hs : wrap64 (x + 1) = s) (h0 : 0 ≤ x) (hl : x < (n : Int)) (hn : n < 800000000) : s = x + 1 ∧ 0 ≤ s ∧ s ≤ (n : Int) ∧ s.toNat = x.toNat + 1 := by
 have e : s = x + 1 := by rw [← hs]; unfold wrap64; omega
 subst e
 clear hs
 omega
theorem cmd_Put.St.box4 {T : Nat} {base bw : Nat} {w0 W : World} {F R : List Int} (h : cmd_Put.St T base bw w0 W F R) {g t : Nat} {a b c d : Value} (hb : W.heap[g]? = some (.cells #[a, b, c, d] t (0, 0))) (ht : t ≠ T) (h5 : t ≠ 5) (hg : w0.heap.size ≤ g) (a' b' c' d' : Value) :
  cmd_Put.St T base bw w0 ((((W.setCell ⟨g, 0, none⟩ a').setCell ⟨g, 1, none⟩ b').setCell ⟨g, 2, none⟩ c').setCell ⟨g, 3, none⟩ d') F R ∧ ((((W.setCell ⟨g, 0, none⟩ a').setCell ⟨g, 1, none⟩ b').setCell ⟨g, 2, none⟩ c').setCell ⟨g, 3, none⟩ d').heap[g]? = some (.cells #[a', b', c', d'] t (0, 0)) ∧ ((((W.setCell ⟨g, 0, none⟩ a').setCell ⟨g, 1, none⟩ b').setCell ⟨g, 2, none⟩ c').setCell ⟨g, 3, none⟩ d').heap.size = W.heap.size := by
 have b1 := blk_put hb 0 a' rfl
 have b2 := blk_put b1 1 b' rfl
 have b3 := blk_put b2 2 c' rfl
 have b4 := blk_put b3 3 d' rfl
 exact ⟨(((h.set hb ht h5 hg).set b1 ht h5 hg).set b2 ht h5 hg).set b3 ht h5 hg, b4, by simp only [World.size_setCell]⟩
theorem cmd_Put.new_at {W : World} {q : Nat} (e : W.heap.size = q) (o : Obj) : (W.alloc o).heap[q]? = some o := e ▸ blk_new W o
set_option maxHeartbeats 8000000 in
set_option maxRecDepth 100000 in
theorem cmd_Put.rows (l : List (List S45)) (A : Option Addr) (c bw base : Nat) (w0 w : World) (F rest : List Int) (hC : Kd.C (Kd.slice 45 k45) w0 A l.length l) (h : cmd_Put.St 58 base bw w0 w F (cmd_Put.rb l ++ rest)) :
  Calls Try.prog 43 #[.pointer (some ⟨bw, 0, none⟩), .slice A l.length c] w fun e w' => e = .returned (.tuple #[]) ∧ cmd_Put.St 58 base bw w0 w' F rest := by
 have hu45 := Try.underlying45
 have HS := Aside0.mk (h.re (R' := cmd_Put.nb [(l.length : Int)] ++ (cmd_Put.rsb l ++ rest)) (by rw [cmd_Put.rb, List.append_assoc]))
 have HC := Aside0.mk hC
 have HL := Aside0.mk (show l.length < 800000000 by
  have h1 := h.few
  have h2 := cmd_Put.flat_few cmd_Put.rowb cmd_Put.rowb_pos l
  rw [cmd_Put.rb, cmd_Put.rsb, List.length_append, List.length_append] at h1
  omega)
 clear h hC
 go_enter Try.func43, Try.ntmps43
 go_wp2_with (go_at_call 41; go_loud (refine (cmd_Put.St.num (HS.out.alloc _) (blk_new w _)).mono ?_; rintro e w1 ⟨rfl, hs1, hk1⟩; have HS1 := Aside0.mk hs1; clear hs1 hk1))
 go_loopw [15] (fun v15 wr => ∃ x : Int, 0 ≤ x ∧ x ≤ (l.length : Int) ∧ v15 = .int .i64 x ∧ Aside0 (cmd_Put.St 58 base bw w0 wr F (cmd_Put.rsb (l.drop x.toNat) ++ rest))) (fun v _ => l.length - (intOf v).toNat)
 case atStart => exact ⟨0, by omega, by omega, rfl, ⟨HS1.out⟩⟩
 case round =>
  obtain ⟨x, h0, h8, rfl, HO⟩ := hrel
  by_cases hlt : x < (l.length : Int)
  ·have q3 : decide (x < (l.length : Int)) = true := decide_eq_true hlt
   have hxl : x.toNat < l.length := by omega
   obtain ⟨ad, A0, c0, e0, hc0, hg0⟩ := cmd_Put.at_row HC.out x h0 hlt
   cases e0
   obtain ⟨r, hr⟩ : ∃ r, l.getD x.toNat [] = r := ⟨_, rfl⟩
   rw [hr] at hc0 hg0
   have HD := Aside0.mk (hr ▸ cmd_Put.drop_at hxl ([] : List S45))
   replace hc0 := (HO.out.below.cell (World.block_lt_of_cell? w0 _ hc0)).trans hc0
   have HG := Aside0.mk hg0
   have p6 := eq_true h0
   have q6 := eq_true hlt
   obtain ⟨s1, hs1⟩ : ∃ s, wrap64 (x + 1) = s := ⟨_, rfl⟩
   have HS2 := Aside0.mk (cmd_Put.step1 hs1 h0 hlt HL.out)
   have HX := Aside0.mk (And.intro h0 hlt)
   have HO1 := Aside0.mk (HO.out.re (cmd_Put.rsb_step HD.out rest))
   clear hr hg0 hlt hxl
   go_wp2_with (go_at_call 41; go_loud (refine (cmd_Put.St.num (HO1.out.alloc _) (blk_new wr _)).mono ?_; rintro e w2 ⟨rfl, hs2, hk2⟩; have HS3 := Aside0.mk hs2; clear hs2 hk2))
   have HRL := Aside0.mk (show r.length < 800000000 by
    have h1 := HS3.out.few
    have h2 := cmd_Put.flat_few cmd_Put.vb cmd_Put.vb_pos r
    rw [cmd_Put.vsb, List.length_append] at h1
    omega)
   go_loopw [26] (fun v26 wq => ∃ y : Int, 0 ≤ y ∧ y ≤ (r.length : Int) ∧ v26 = .int .i64 y ∧ Aside0 (cmd_Put.St 58 base bw w0 wq F (cmd_Put.vsb (r.drop y.toNat) ++ (cmd_Put.rsb (l.drop (x.toNat + 1)) ++ rest)))) (fun v _ => r.length - (intOf v).toNat)
   case atStart => exact ⟨0, by omega, by omega, rfl, ⟨HS3.out⟩⟩
   case round =>
    obtain ⟨y, y0, y8, rfl, HO⟩ := hrel
    by_cases hlt : y < (r.length : Int)
    ·have q4 : decide (y < (r.length : Int)) = true := decide_eq_true hlt
     have hyl : y.toNat < r.length := by omega
     obtain ⟨ad2, e2, m0, m1, m2, m3⟩ := at_T45 HG.out y y0 hlt
     cases e2
     obtain ⟨v, hv⟩ : ∃ v, rd_T45 r y = v := ⟨_, rfl⟩
     rw [hv] at m0 m1 m2 m3
     have HD2 := Aside0.mk (show r.drop y.toNat = v :: r.drop (y.toNat + 1) from hv ▸ cmd_Put.drop_at hyl z45)
     replace m0 := (HO.out.below.cell (World.block_lt_of_cell? w0 _ m0)).trans m0
     replace m1 := (HO.out.below.cell (World.block_lt_of_cell? w0 _ m1)).trans m1
     replace m2 := (HO.out.below.cell (World.block_lt_of_cell? w0 _ m2)).trans m2
     replace m3 := (HO.out.below.cell (World.block_lt_of_cell? w0 _ m3)).trans m3
     have p7 := eq_true y0
     have q7 := eq_true hlt
     obtain ⟨s2, hs2⟩ : ∃ s, wrap64 (y + 1) = s := ⟨_, rfl⟩
     have HT2 := Aside0.mk (cmd_Put.step1 hs2 y0 hlt HRL.out)
     have HY := Aside0.mk (And.intro y0 hlt)
     have HO1 := Aside0.mk (HO.out.re (cmd_Put.vsb_step HD2.out (cmd_Put.rsb (l.drop (x.toNat + 1)) ++ rest)))
     have HUW := Aside0.mk (cmd_Put.u64w v.f1)
     clear hv hlt hyl
     go_wp2_with (first | ((with_reducible refine gate_dst (N := 7) rfl ?_); (try (refine gate_guard (by rfl) ?_; dsimp only)); go_loud (refine box_event ?hg (N := 7) ?hd (cs := #[.int .i64 0, .int .i64 0, .int .u64 0, .string (⟨#[]⟩ : ByteArray)]) (t := 45) ?hr ?_; (case hd => rfl); (case hg => rfl); (case hr => first | (go_simp; done) | (go_simp; rfl)); intro gb hg w3 hbox hb; have HB3 := Aside0.mk hbox; have HS3 := Aside0.mk (HO1.out.go hb); have HGB := Aside0.mk (show w0.heap.size ≤ gb by rw [hg]; exact HO1.out.below.size); clear hbox hb hg; have w3k0 : w3.cell? ⟨gb, 0, none⟩ = some (.int .i64 0) := (blk_cell HB3.out 0).trans rfl; have w3k1 : w3.cell? ⟨gb, 1, none⟩ = some (.int .i64 0) := (blk_cell HB3.out 1).trans rfl; have w3k2 : w3.cell? ⟨gb, 2, none⟩ = some (.int .u64 0) := (blk_cell HB3.out 2).trans rfl; have w3k3 : w3.cell? ⟨gb, 3, none⟩ = some (.string (⟨#[]⟩ : ByteArray)) := (blk_cell HB3.out 3).trans rfl; have w3f0 := blk_frozen HB3.out 0; have w3f1 := blk_frozen HB3.out 1; have w3f2 := blk_frozen HB3.out 2; have w3f3 := blk_frozen HB3.out 3)) | (go_at_call 42; go_loud (refine (cmd_Put.St.text HS6.out).mono ?_; rintro e w7 ⟨rfl, hs, hk⟩; have HS7 := Aside0.mk hs; clear hs hk)) | (go_at_call 53; go_loud (refine (cmd_Put.St.word HS5.out).mono ?_; rintro e w6 ⟨rfl, hs, hk⟩; have HB6 := Aside0.mk (HS5.out.blk hk HB5.out (by decide) (by decide)); have HS6 := Aside0.mk hs; clear hs hk; have w6k0 : w6.cell? ⟨gb, 0, none⟩ = some (.int .i64 v.f0) := (blk_cell HB6.out 0).trans rfl; have w6k1 : w6.cell? ⟨gb, 1, none⟩ = some (.int .i64 v.f1) := (blk_cell HB6.out 1).trans rfl; have w6k2 : w6.cell? ⟨gb, 2, none⟩ = some (.int .u64 v.f2) := (blk_cell HB6.out 2).trans rfl; have w6k3 : w6.cell? ⟨gb, 3, none⟩ = some (.string v.f3) := (blk_cell HB6.out 3).trans rfl; have w6f0 := blk_frozen HB6.out 0; have w6f1 := blk_frozen HB6.out 1; have w6f2 := blk_frozen HB6.out 2; have w6f3 := blk_frozen HB6.out 3)) | (go_at_call 53; go_loud (rw [HUW.out]; refine (cmd_Put.St.word HS4.out).mono ?_; rintro e w5 ⟨rfl, hs, hk⟩; have HB5 := Aside0.mk (HS4.out.blk hk HB4.out (by decide) (by decide)); have HS5 := Aside0.mk hs; clear hs hk; have w5k0 : w5.cell? ⟨gb, 0, none⟩ = some (.int .i64 v.f0) := (blk_cell HB5.out 0).trans rfl; have w5k1 : w5.cell? ⟨gb, 1, none⟩ = some (.int .i64 v.f1) := (blk_cell HB5.out 1).trans rfl; have w5k2 : w5.cell? ⟨gb, 2, none⟩ = some (.int .u64 v.f2) := (blk_cell HB5.out 2).trans rfl; have w5k3 : w5.cell? ⟨gb, 3, none⟩ = some (.string v.f3) := (blk_cell HB5.out 3).trans rfl; have w5f0 := blk_frozen HB5.out 0; have w5f1 := blk_frozen HB5.out 1; have w5f2 := blk_frozen HB5.out 2; have w5f3 := blk_frozen HB5.out 3)) | (go_at_call 41; go_loud (obtain ⟨hs3, hb3, hz3⟩ := cmd_Put.St.box4 HS3.out HB3.out (by decide) (by decide) HGB.out (.int .i64 v.f0) (.int .i64 v.f1) (.int .u64 v.f2) (.string v.f3); refine (cmd_Put.St.num (hs3.alloc _) (cmd_Put.new_at hz3 _)).mono ?_; rintro e w4 ⟨rfl, hs, hk⟩; have HB4 := Aside0.mk ((hs3.alloc _).blk hk (yA hb3 _) (by decide) (by decide)); have HS4 := Aside0.mk hs; clear hs hk hs3 hb3 hz3; have w4k0 : w4.cell? ⟨gb, 0, none⟩ = some (.int .i64 v.f0) := (blk_cell HB4.out 0).trans rfl; have w4k1 : w4.cell? ⟨gb, 1, none⟩ = some (.int .i64 v.f1) := (blk_cell HB4.out 1).trans rfl; have w4k2 : w4.cell? ⟨gb, 2, none⟩ = some (.int .u64 v.f2) := (blk_cell HB4.out 2).trans rfl; have w4k3 : w4.cell? ⟨gb, 3, none⟩ = some (.string v.f3) := (blk_cell HB4.out 3).trans rfl; have w4f0 := blk_frozen HB4.out 0; have w4f1 := blk_frozen HB4.out 1; have w4f2 := blk_frozen HB4.out 2; have w4f3 := blk_frozen HB4.out 3)))
     go_roundw
     case rel => exact ⟨s2, HT2.out.2.1, HT2.out.2.2.1, by rw [hs2], ⟨HS7.out.re (by rw [HT2.out.2.2.2])⟩⟩
     case measure => rw [hs2]; have h1 := HT2.out.2.2.2; have h2 := HY.out; clear hs2 hs1; show r.length - s2.toNat < r.length - y.toNat; omega
    ·have q4 : decide (y < (r.length : Int)) = false := decide_eq_false hlt
     have HE := Aside0.mk (show r.drop y.toNat = [] from List.drop_eq_nil_of_le (by omega))
     have HO3 := Aside0.mk (show cmd_Put.St 58 base bw w0 wr F (cmd_Put.rsb (l.drop (x.toNat + 1)) ++ rest) by have := HO.out; rw [HE.out] at this; exact this)
     clear hlt
     go_wp2
     go_roundw
     case rel => exact ⟨s1, HS2.out.2.1, HS2.out.2.2.1, by rw [hs1], ⟨HO3.out.re (by rw [HS2.out.2.2.2])⟩⟩
     case measure => rw [hs1]; have h1 := HS2.out.2.2.2; have h2 := HX.out; clear hs1; show l.length - s1.toNat < l.length - x.toNat; omega
  ·have q3 : decide (x < (l.length : Int)) = false := decide_eq_false hlt
   have HE := Aside0.mk (show l.drop x.toNat = [] from List.drop_eq_nil_of_le (by omega))
   clear hlt
   go_wp2
   go_end0
   exact ⟨rfl, by have := HO.out; rw [HE.out] at this; exact this⟩
/-- Keys', ranges', writes' bytes; a command's. -/
def cmd_Put.ksb (l : List ByteArray) : List Int := l.flatMap cmd_Put.tb
def cmd_Put.rgb (l : List S50) : List Int := l.flatMap fun r => cmd_Put.tb r.f0 ++ cmd_Put.tb r.f1
def cmd_Put.wsb (l : List S41) : List Int := l.flatMap fun x => cmd_Put.tb x.f0 ++ (cmd_Put.tb x.f1 ++ cmd_Put.nb [if x.f2 then 1 else 0])
def cmd_Put.cb (a0 a1 a2 a3 : Int) (l4 : List ByteArray) (l5 : List S50) (l6 : List S41) (a7 a8 a9 : Int) (a10 : ByteArray) (a11 : Int) (l12 : List (List S45)) : List Int :=
 cmd_Put.nb [a0, a1, a2, a3, (l4.length : Int)] ++ (cmd_Put.ksb l4 ++ (cmd_Put.nb [(l5.length : Int)] ++ (cmd_Put.rgb l5 ++ (cmd_Put.nb [(l6.length : Int)] ++ (cmd_Put.wsb l6 ++ (cmd_Put.nb [a7, a8, a9] ++ (cmd_Put.tb a10 ++ (cmd_Put.nb [a11] ++ cmd_Put.rb l12))))))))
theorem cmd_Put.ksb_step {l : List ByteArray} {n : Nat} {k : ByteArray} (h : l.drop n = k :: l.drop (n + 1)) (R : List Int) : cmd_Put.ksb (l.drop n) ++ R = cmd_Put.tb k ++ (cmd_Put.ksb (l.drop (n + 1)) ++ R) := by
 rw [h]; simp [cmd_Put.ksb, List.append_assoc]
theorem cmd_Put.rgb_step {l : List S50} {n : Nat} {k : S50} (h : l.drop n = k :: l.drop (n + 1)) (R : List Int) : cmd_Put.rgb (l.drop n) ++ R = cmd_Put.tb k.f0 ++ (cmd_Put.tb k.f1 ++ (cmd_Put.rgb (l.drop (n + 1)) ++ R)) := by
 rw [h]; simp [cmd_Put.rgb, List.append_assoc]
theorem cmd_Put.wsb_step {l : List S41} {n : Nat} {k : S41} (h : l.drop n = k :: l.drop (n + 1)) (R : List Int) : cmd_Put.wsb (l.drop n) ++ R = cmd_Put.tb k.f0 ++ (cmd_Put.tb k.f1 ++ (cmd_Put.nb [if k.f2 then 1 else 0] ++ (cmd_Put.wsb (l.drop (n + 1)) ++ R))) := by
 rw [h]; simp [cmd_Put.wsb, List.append_assoc]
theorem cmd_Put.tb_pos (s : ByteArray) : 1 ≤ (cmd_Put.tb s).length := by rw [cmd_Put.tb_length]; omega
theorem cmd_Put.St.num5 {base bw : Nat} {w0 W : World} {F R : List Int} {a b c d f : Int} (h : cmd_Put.St 58 base bw w0 W F (cmd_Put.nb [a, b, c, d, f] ++ R)) {q : Nat} (hq : W.heap[q]? = some (.cells #[.int .i64 a, .int .i64 b, .int .i64 c, .int .i64 d, .int .i64 f] 3 (0, 0))) :
  Calls Try.prog 41 #[.pointer (some ⟨bw, 0, none⟩), .slice (some ⟨q, 0, none⟩) 5 5] W fun e W' => e = .returned (.tuple #[]) ∧ cmd_Put.St 58 base bw w0 W' F R ∧ cmd_Put.Kp base bw W W' := cmd_Put.St.nums (xs := [a, b, c, d, f]) h hq
theorem cmd_Put.St.num3 {base bw : Nat} {w0 W : World} {F R : List Int} {a b c : Int} (h : cmd_Put.St 58 base bw w0 W F (cmd_Put.nb [a, b, c] ++ R)) {q : Nat} (hq : W.heap[q]? = some (.cells #[.int .i64 a, .int .i64 b, .int .i64 c] 3 (0, 0))) :
  Calls Try.prog 41 #[.pointer (some ⟨bw, 0, none⟩), .slice (some ⟨q, 0, none⟩) 3 3] W fun e W' => e = .returned (.tuple #[]) ∧ cmd_Put.St 58 base bw w0 W' F R ∧ cmd_Put.Kp base bw W W' := cmd_Put.St.nums (xs := [a, b, c]) h hq
theorem cmd_Put.St.box2 {T : Nat} {base bw : Nat} {w0 W : World} {F R : List Int} (h : cmd_Put.St T base bw w0 W F R) {g t : Nat} {a b : Value} (hb : W.heap[g]? = some (.cells #[a, b] t (0, 0))) (ht : t ≠ T) (h5 : t ≠ 5) (hg : w0.heap.size ≤ g) (a' b' : Value) :
  cmd_Put.St T base bw w0 ((W.setCell ⟨g, 0, none⟩ a').setCell ⟨g, 1, none⟩ b') F R ∧ ((W.setCell ⟨g, 0, none⟩ a').setCell ⟨g, 1, none⟩ b').heap[g]? = some (.cells #[a', b'] t (0, 0)) := by
 have b1 := blk_put hb 0 a' rfl
 have b2 := blk_put b1 1 b' rfl
 exact ⟨(h.set hb ht h5 hg).set b1 ht h5 hg, b2⟩
theorem cmd_Put.St.box3 {T : Nat} {base bw : Nat} {w0 W : World} {F R : List Int} (h : cmd_Put.St T base bw w0 W F R) {g t : Nat} {a b c : Value} (hb : W.heap[g]? = some (.cells #[a, b, c] t (0, 0))) (ht : t ≠ T) (h5 : t ≠ 5) (hg : w0.heap.size ≤ g) (a' b' c' : Value) :
  cmd_Put.St T base bw w0 (((W.setCell ⟨g, 0, none⟩ a').setCell ⟨g, 1, none⟩ b').setCell ⟨g, 2, none⟩ c') F R ∧ (((W.setCell ⟨g, 0, none⟩ a').setCell ⟨g, 1, none⟩ b').setCell ⟨g, 2, none⟩ c').heap[g]? = some (.cells #[a', b', c'] t (0, 0)) := by
 have b1 := blk_put hb 0 a' rfl
 have b2 := blk_put b1 1 b' rfl
 have b3 := blk_put b2 2 c' rfl
 exact ⟨((h.set hb ht h5 hg).set b1 ht h5 hg).set b2 ht h5 hg, b3⟩

set_option maxHeartbeats 16000000 in
set_option maxRecDepth 100000 in
theorem cmd_Put.command (a0 a1 a2 a3 : Int) (A4 : Option Addr) (c4 : Nat) (l4 : List ByteArray) (A5 : Option Addr) (c5 : Nat) (l5 : List S50) (A6 : Option Addr) (c6 : Nat) (l6 : List S41) (a7 a8 a9 : Int) (a10 : ByteArray) (a11 : Int) (A12 : Option Addr) (c12 : Nat) (l12 : List (List S45)) (bw base : Nat) (w0 w : World) (F rest : List Int) (h4 : Kd.C Kd.string w0 A4 l4.length l4) (h5 : Kd.C k50 w0 A5 l5.length l5) (h6 : Kd.C k41 w0 A6 l6.length l6) (h12 : Kd.C (Kd.slice 45 k45) w0 A12 l12.length l12) (h : cmd_Put.St 58 base bw w0 w F (cmd_Put.cb a0 a1 a2 a3 l4 l5 l6 a7 a8 a9 a10 a11 l12 ++ rest)) :
  Calls Try.prog 24 #[.pointer (some ⟨bw, 0, none⟩), .agg #[.int .i64 a0, .int .i64 a1, .int .i64 a2, .int .i64 a3, .slice A4 l4.length c4, .slice A5 l5.length c5, .slice A6 l6.length c6, .int .i64 a7, .int .i64 a8, .int .i64 a9, .string a10, .int .i64 a11, .slice A12 l12.length c12]] w fun e w' => e = .returned (.tuple #[]) ∧ cmd_Put.St 58 base bw w0 w' F rest := by
 have hu27 := Try.underlying27
 have hu50 := Try.underlying50
 have hu41 := Try.underlying41
 obtain ⟨R6, e6⟩ : ∃ R, R = cmd_Put.nb [a7, a8, a9] ++ (cmd_Put.tb a10 ++ (cmd_Put.nb [a11] ++ (cmd_Put.rb l12 ++ rest))) := ⟨_, rfl⟩
 obtain ⟨R4, e4⟩ : ∃ R, R = cmd_Put.nb [(l6.length : Int)] ++ (cmd_Put.wsb l6 ++ R6) := ⟨_, rfl⟩
 obtain ⟨R2, e2⟩ : ∃ R, R = cmd_Put.nb [(l5.length : Int)] ++ (cmd_Put.rgb l5 ++ R4) := ⟨_, rfl⟩
 have HS0 := Aside0.mk (h.re (R' := cmd_Put.nb [a0, a1, a2, a3, (l4.length : Int)] ++ (cmd_Put.ksb l4 ++ R2)) (by rw [e2, e4, e6, cmd_Put.cb]; simp only [List.append_assoc]))
 clear h
 have E6 := Aside0.mk e6
 have E4 := Aside0.mk e4
 have E2 := Aside0.mk e2
 clear e2 e4 e6
 have H4 := Aside0.mk h4
 have H5 := Aside0.mk h5
 have H6 := Aside0.mk h6
 have H12 := Aside0.mk h12
 clear h4 h5 h6 h12
 have L4 := Aside0.mk (show l4.length < 800000000 by
  have h1 := HS0.out.few
  have h2 := cmd_Put.flat_few cmd_Put.tb cmd_Put.tb_pos l4
  rw [cmd_Put.ksb, List.length_append, List.length_append] at h1
  omega)
 go_enter Try.func24, Try.ntmps24
 go_wp2_with (first | ((with_reducible refine gate_dst (N := 3) rfl ?_); (try (refine gate_guard (by rfl) ?_; dsimp only)); go_loud (refine box_event ?hg (N := 3) ?hd (cs := #[.int .i64 a0, .int .i64 a1, .int .i64 a2, .int .i64 a3, .slice A4 l4.length c4, .slice A5 l5.length c5, .slice A6 l6.length c6, .int .i64 a7, .int .i64 a8, .int .i64 a9, .string a10, .int .i64 a11, .slice A12 l12.length c12]) (t := 27) ?hr ?_; (case hd => rfl); (case hg => rfl); (case hr => first | (go_simp; done) | (go_simp; rfl)); intro g hg w1 hbox hb; have HB1 := Aside0.mk hbox; have HS1 := Aside0.mk (HS0.out.go hb); clear hbox hb hg; have k0_w1 : w1.cell? ⟨g, 0, none⟩ = some (.int .i64 a0) := (blk_cell HB1.out 0).trans rfl; have k1_w1 : w1.cell? ⟨g, 1, none⟩ = some (.int .i64 a1) := (blk_cell HB1.out 1).trans rfl; have k2_w1 : w1.cell? ⟨g, 2, none⟩ = some (.int .i64 a2) := (blk_cell HB1.out 2).trans rfl; have k3_w1 : w1.cell? ⟨g, 3, none⟩ = some (.int .i64 a3) := (blk_cell HB1.out 3).trans rfl; have k4_w1 : w1.cell? ⟨g, 4, none⟩ = some (.slice A4 l4.length c4) := (blk_cell HB1.out 4).trans rfl)) | (go_at_call 41; go_loud (refine (cmd_Put.St.num5 (HS1.out.alloc _) (blk_new w1 _)).mono ?_; rintro e w2 ⟨rfl, hs, hk⟩; have HB2 := Aside0.mk ((HS1.out.alloc _).blk hk (yA HB1.out _) (by decide) (by decide)); have HS2 := Aside0.mk hs; clear hs hk; have k4_w2 : w2.cell? ⟨g, 4, none⟩ = some (.slice A4 l4.length c4) := (blk_cell HB2.out 4).trans rfl)))
 go_loopw [28] (fun vi wr => ∃ x : Int, 0 ≤ x ∧ x ≤ (l4.length : Int) ∧ vi = .int .i64 x ∧ Aside0 (wr.heap[g]? = some (.cells #[.int .i64 a0, .int .i64 a1, .int .i64 a2, .int .i64 a3, .slice A4 l4.length c4, .slice A5 l5.length c5, .slice A6 l6.length c6, .int .i64 a7, .int .i64 a8, .int .i64 a9, .string a10, .int .i64 a11, .slice A12 l12.length c12] 27 (0, 0))) ∧ Aside0 (cmd_Put.St 58 base bw w0 wr F (cmd_Put.ksb (l4.drop x.toNat) ++ R2))) (fun v _ => l4.length - (intOf v).toNat)
 case atStart => exact ⟨0, by omega, by omega, rfl, ⟨HB2.out⟩, ⟨HS2.out⟩⟩
 case round =>
  obtain ⟨x, h0, h8, rfl, HB, HO⟩ := hrel
  by_cases hlt : x < (l4.length : Int)
  ·have q3 : decide (x < (l4.length : Int)) = true := decide_eq_true hlt
   have hxl : x.toNat < l4.length := by omega
   obtain ⟨ad, e0, m0⟩ := Kd.at_string H4.out x h0 hlt
   cases e0
   obtain ⟨v, hv⟩ : ∃ v, rdOf ByteArray.empty l4 x = v := ⟨_, rfl⟩
   rw [hv] at m0
   have HD := Aside0.mk (show l4.drop x.toNat = v :: l4.drop (x.toNat + 1) from hv ▸ cmd_Put.drop_at hxl ByteArray.empty)
   replace m0 := (HO.out.below.cell (World.block_lt_of_cell? w0 _ m0)).trans m0
   obtain ⟨s1, hs1⟩ : ∃ s, wrap64 (x + 1) = s := ⟨_, rfl⟩
   have T1 := Aside0.mk (cmd_Put.step1 hs1 h0 hlt L4.out)
   have TX := Aside0.mk (And.intro h0 hlt)
   have p6 := eq_true h0
   have q6 := eq_true hlt
   have HO1 := Aside0.mk (HO.out.re (cmd_Put.ksb_step HD.out R2))
   clear hv hlt hxl
   go_wp2_with (go_at_call 42; go_loud (refine (cmd_Put.St.text HO1.out).mono ?_; rintro e w2 ⟨rfl, hs, hk⟩; have HB2 := Aside0.mk (HO1.out.blk hk HB.out (by decide) (by decide)); have HS2 := Aside0.mk hs; clear hs hk))
   go_roundw
   case rel => exact ⟨s1, T1.out.2.1, T1.out.2.2.1, by rw [hs1], ⟨HB2.out⟩, ⟨HS2.out.re (by rw [T1.out.2.2.2])⟩⟩
   case measure => rw [hs1]; have h1 := T1.out.2.2.2; have h2 := TX.out; clear hs1; show l4.length - s1.toNat < l4.length - x.toNat; omega
  ·have q3 : decide (x < (l4.length : Int)) = false := decide_eq_false hlt
   have HE := Aside0.mk (show l4.drop x.toNat = [] from List.drop_eq_nil_of_le (by omega))
   have HS3 := Aside0.mk (show cmd_Put.St 58 base bw w0 wr F (cmd_Put.nb [(l5.length : Int)] ++ (cmd_Put.rgb l5 ++ R4)) by have := HO.out; rw [HE.out] at this; exact this.re E2.out)
   have L5 := Aside0.mk (show l5.length < 800000000 by
    have h1 := HS3.out.few
    have h2 := cmd_Put.flat_few (fun r : S50 => cmd_Put.tb r.f0 ++ cmd_Put.tb r.f1) (fun r => by rw [List.length_append]; have := cmd_Put.tb_pos r.f0; omega) l5
    rw [cmd_Put.rgb, List.length_append, List.length_append] at h1
    omega)
   have k5_wr : wr.cell? ⟨g, 5, none⟩ = some (.slice A5 l5.length c5) := (blk_cell HB.out 5).trans rfl
   clear hlt
   go_wp2_with (go_at_call 41; go_loud (refine (cmd_Put.St.num (HS3.out.alloc _) (blk_new wr _)).mono ?_; rintro e w4 ⟨rfl, hs, hk⟩; have HB4 := Aside0.mk ((HS3.out.alloc _).blk hk (yA HB.out _) (by decide) (by decide)); have HS4 := Aside0.mk hs; clear hs hk; have k5_w4 : w4.cell? ⟨g, 5, none⟩ = some (.slice A5 l5.length c5) := (blk_cell HB4.out 5).trans rfl))
   clear q3
   go_loopw [45] (fun vi wr => ∃ y : Int, 0 ≤ y ∧ y ≤ (l5.length : Int) ∧ vi = .int .i64 y ∧ Aside0 (wr.heap[g]? = some (.cells #[.int .i64 a0, .int .i64 a1, .int .i64 a2, .int .i64 a3, .slice A4 l4.length c4, .slice A5 l5.length c5, .slice A6 l6.length c6, .int .i64 a7, .int .i64 a8, .int .i64 a9, .string a10, .int .i64 a11, .slice A12 l12.length c12] 27 (0, 0))) ∧ Aside0 (cmd_Put.St 58 base bw w0 wr F (cmd_Put.rgb (l5.drop y.toNat) ++ R4))) (fun v _ => l5.length - (intOf v).toNat)
   case atStart => exact ⟨0, by omega, by omega, rfl, ⟨HB4.out⟩, ⟨HS4.out⟩⟩
   case round =>
    obtain ⟨y, h0, h8, rfl, HB, HO⟩ := hrel
    by_cases hlt : y < (l5.length : Int)
    ·have q4 : decide (y < (l5.length : Int)) = true := decide_eq_true hlt
     have hxl : y.toNat < l5.length := by omega
     obtain ⟨ad, e0, m0, m1⟩ := at_T50 H5.out y h0 hlt
     cases e0
     obtain ⟨v, hv⟩ : ∃ v, rd_T50 l5 y = v := ⟨_, rfl⟩
     rw [hv] at m0 m1
     have HD := Aside0.mk (show l5.drop y.toNat = v :: l5.drop (y.toNat + 1) from hv ▸ cmd_Put.drop_at hxl z50)
     replace m0 := (HO.out.below.cell (World.block_lt_of_cell? w0 _ m0)).trans m0
     replace m1 := (HO.out.below.cell (World.block_lt_of_cell? w0 _ m1)).trans m1
     obtain ⟨s1, hs1⟩ : ∃ s, wrap64 (y + 1) = s := ⟨_, rfl⟩
     have T1 := Aside0.mk (cmd_Put.step1 hs1 h0 hlt L5.out)
     have TX := Aside0.mk (And.intro h0 hlt)
     have p6 := eq_true h0
     have q6 := eq_true hlt
     have HO1 := Aside0.mk (HO.out.re (cmd_Put.rgb_step HD.out R4))
     clear hv hlt hxl
     go_wp2_with (first | ((with_reducible refine gate_dst (N := 7) rfl ?_); (try (refine gate_guard (by rfl) ?_; dsimp only)); go_loud (refine box_event ?hg (N := 7) ?hd (cs := #[.string (⟨#[]⟩ : ByteArray), .string (⟨#[]⟩ : ByteArray)]) (t := 50) ?hr ?_; (case hd => rfl); (case hg => rfl); (case hr => first | (go_simp; done) | (go_simp; rfl)); intro gb hg w5 hbox hb; have HQ1 := Aside0.mk hbox; have HC1 := Aside0.mk (yB HB.out hb); have HP1 := Aside0.mk (HO1.out.go hb); have HGB := Aside0.mk (show w0.heap.size ≤ gb by rw [hg]; exact HO1.out.below.size); have HNE := Aside0.mk (show g ≠ gb by rw [hg]; exact Nat.ne_of_lt (blk_lt HB.out)); clear hbox hb hg; have k0_w5 : w5.cell? ⟨gb, 0, none⟩ = some (.string (⟨#[]⟩ : ByteArray)) := (blk_cell HQ1.out 0).trans rfl; have k1_w5 : w5.cell? ⟨gb, 1, none⟩ = some (.string (⟨#[]⟩ : ByteArray)) := (blk_cell HQ1.out 1).trans rfl; have f0_w5 := blk_frozen HQ1.out 0; have f1_w5 := blk_frozen HQ1.out 1)) | (go_at_call 42; go_loud (refine (cmd_Put.St.text HP2.out).mono ?_; rintro e w7 ⟨rfl, hs, hk⟩; have HC3 := Aside0.mk (HP2.out.blk hk HC2.out (by decide) (by decide)); have HP3 := Aside0.mk hs; clear hs hk)) | (go_at_call 42; go_loud (obtain ⟨hs3, hb3⟩ := cmd_Put.St.box2 HP1.out HQ1.out (by decide) (by decide) HGB.out (.string v.f0) (.string v.f1); refine (cmd_Put.St.text hs3).mono ?_; rintro e w6 ⟨rfl, hs, hk⟩; have HC2 := Aside0.mk (hs3.blk hk (blk_far (blk_far HC1.out HNE.out _) HNE.out _) (by decide) (by decide)); have HQ2 := Aside0.mk (hs3.blk hk hb3 (by decide) (by decide)); have HP2 := Aside0.mk hs; clear hs hk hs3 hb3; have k0_w6 : w6.cell? ⟨gb, 0, none⟩ = some (.string v.f0) := (blk_cell HQ2.out 0).trans rfl; have k1_w6 : w6.cell? ⟨gb, 1, none⟩ = some (.string v.f1) := (blk_cell HQ2.out 1).trans rfl)))
     go_roundw
     case rel => exact ⟨s1, T1.out.2.1, T1.out.2.2.1, by rw [hs1], ⟨HC3.out⟩, ⟨HP3.out.re (by rw [T1.out.2.2.2])⟩⟩
     case measure => rw [hs1]; have h1 := T1.out.2.2.2; have h2 := TX.out; clear hs1; show l5.length - s1.toNat < l5.length - y.toNat; omega
    ·have q4 : decide (y < (l5.length : Int)) = false := decide_eq_false hlt
     have HE := Aside0.mk (show l5.drop y.toNat = [] from List.drop_eq_nil_of_le (by omega))
     have HS5 := Aside0.mk (show cmd_Put.St 58 base bw w0 wr F (cmd_Put.nb [(l6.length : Int)] ++ (cmd_Put.wsb l6 ++ R6)) by have := HO.out; rw [HE.out] at this; exact this.re E4.out)
     have L6 := Aside0.mk (show l6.length < 800000000 by
      have h1 := HS5.out.few
      have h2 := cmd_Put.flat_few (fun x : S41 => cmd_Put.tb x.f0 ++ (cmd_Put.tb x.f1 ++ cmd_Put.nb [if x.f2 then 1 else 0])) (fun r => by rw [List.length_append]; have := cmd_Put.tb_pos r.f0; omega) l6
      rw [cmd_Put.wsb, List.length_append, List.length_append] at h1
      omega)
     have k6_wr : wr.cell? ⟨g, 6, none⟩ = some (.slice A6 l6.length c6) := (blk_cell HB.out 6).trans rfl
     clear hlt
     go_wp2_with (go_at_call 41; go_loud (refine (cmd_Put.St.num (HS5.out.alloc _) (blk_new wr _)).mono ?_; rintro e w6 ⟨rfl, hs, hk⟩; have HB6 := Aside0.mk ((HS5.out.alloc _).blk hk (yA HB.out _) (by decide) (by decide)); have HS6 := Aside0.mk hs; clear hs hk; have k6_w6 : w6.cell? ⟨g, 6, none⟩ = some (.slice A6 l6.length c6) := (blk_cell HB6.out 6).trans rfl))
     clear q4
     go_loopw [67] (fun vi wr => ∃ z : Int, 0 ≤ z ∧ z ≤ (l6.length : Int) ∧ vi = .int .i64 z ∧ Aside0 (wr.heap[g]? = some (.cells #[.int .i64 a0, .int .i64 a1, .int .i64 a2, .int .i64 a3, .slice A4 l4.length c4, .slice A5 l5.length c5, .slice A6 l6.length c6, .int .i64 a7, .int .i64 a8, .int .i64 a9, .string a10, .int .i64 a11, .slice A12 l12.length c12] 27 (0, 0))) ∧ Aside0 (cmd_Put.St 58 base bw w0 wr F (cmd_Put.wsb (l6.drop z.toNat) ++ R6))) (fun v _ => l6.length - (intOf v).toNat)
     case atStart => exact ⟨0, by omega, by omega, rfl, ⟨HB6.out⟩, ⟨HS6.out⟩⟩
     case round =>
      obtain ⟨z, h0, h8, rfl, HB, HO⟩ := hrel
      by_cases hlt : z < (l6.length : Int)
      ·have q5 : decide (z < (l6.length : Int)) = true := decide_eq_true hlt
       have hxl : z.toNat < l6.length := by omega
       obtain ⟨ad, e0, m0, m1, m2⟩ := at_T41 H6.out z h0 hlt
       cases e0
       obtain ⟨v, hv⟩ : ∃ v, rd_T41 l6 z = v := ⟨_, rfl⟩
       rw [hv] at m0 m1 m2
       have HD := Aside0.mk (show l6.drop z.toNat = v :: l6.drop (z.toNat + 1) from hv ▸ cmd_Put.drop_at hxl z41)
       replace m0 := (HO.out.below.cell (World.block_lt_of_cell? w0 _ m0)).trans m0
       replace m1 := (HO.out.below.cell (World.block_lt_of_cell? w0 _ m1)).trans m1
       replace m2 := (HO.out.below.cell (World.block_lt_of_cell? w0 _ m2)).trans m2
       obtain ⟨s1, hs1⟩ : ∃ s, wrap64 (z + 1) = s := ⟨_, rfl⟩
       have T1 := Aside0.mk (cmd_Put.step1 hs1 h0 hlt L6.out)
       have TX := Aside0.mk (And.intro h0 hlt)
       have p6 := eq_true h0
       have q6 := eq_true hlt
       have HO1 := Aside0.mk (HO.out.re (cmd_Put.wsb_step HD.out R6))
       clear hv hlt hxl
       obtain ⟨v0, v1, v2⟩ := v
       cases v2
       ·go_wp2_with (first | ((with_reducible refine gate_dst (N := 9) rfl ?_); (try (refine gate_guard (by rfl) ?_; dsimp only)); go_loud (refine box_event ?hg (N := 9) ?hd (cs := #[.string (⟨#[]⟩ : ByteArray), .string (⟨#[]⟩ : ByteArray), .bool false]) (t := 41) ?hr ?_; (case hd => rfl); (case hg => rfl); (case hr => first | (go_simp; done) | (go_simp; rfl)); intro gb hg w5 hbox hb; have HQ1 := Aside0.mk hbox; have HC1 := Aside0.mk (yB HB.out hb); have HP1 := Aside0.mk (HO1.out.go hb); have HGB := Aside0.mk (show w0.heap.size ≤ gb by rw [hg]; exact HO1.out.below.size); have HNE := Aside0.mk (show g ≠ gb by rw [hg]; exact Nat.ne_of_lt (blk_lt HB.out)); clear hbox hb hg; have k0_w5 : w5.cell? ⟨gb, 0, none⟩ = some (.string (⟨#[]⟩ : ByteArray)) := (blk_cell HQ1.out 0).trans rfl; have k1_w5 : w5.cell? ⟨gb, 1, none⟩ = some (.string (⟨#[]⟩ : ByteArray)) := (blk_cell HQ1.out 1).trans rfl; have k2_w5 : w5.cell? ⟨gb, 2, none⟩ = some (.bool false) := (blk_cell HQ1.out 2).trans rfl; have f0_w5 := blk_frozen HQ1.out 0; have f1_w5 := blk_frozen HQ1.out 1; have f2_w5 := blk_frozen HQ1.out 2)) | (go_at_call 41; go_loud (refine (cmd_Put.St.num (x := 0) (HP3.out.alloc _) (blk_new w7 _)).mono ?_; rintro e w8 ⟨rfl, hs, hk⟩; have HC4 := Aside0.mk ((HP3.out.alloc _).blk hk (yA HC3.out _) (by decide) (by decide)); have HP4 := Aside0.mk hs; clear hs hk)) | (go_at_call 42; go_loud (refine (cmd_Put.St.text HP2.out).mono ?_; rintro e w7 ⟨rfl, hs, hk⟩; have HC3 := Aside0.mk (HP2.out.blk hk HC2.out (by decide) (by decide)); have HQ3 := Aside0.mk (HP2.out.blk hk HQ2.out (by decide) (by decide)); have HP3 := Aside0.mk hs; clear hs hk; have k2_w7 : w7.cell? ⟨gb, 2, none⟩ = some (.bool false) := (blk_cell HQ3.out 2).trans rfl)) | (go_at_call 42; go_loud (obtain ⟨hs3, hb3⟩ := cmd_Put.St.box3 HP1.out HQ1.out (by decide) (by decide) HGB.out (.string v0) (.string v1) (.bool false); refine (cmd_Put.St.text hs3).mono ?_; rintro e w6 ⟨rfl, hs, hk⟩; have HC2 := Aside0.mk (hs3.blk hk (blk_far (blk_far (blk_far HC1.out HNE.out _) HNE.out _) HNE.out _) (by decide) (by decide)); have HQ2 := Aside0.mk (hs3.blk hk hb3 (by decide) (by decide)); have HP2 := Aside0.mk hs; clear hs hk hs3 hb3; have k0_w6 : w6.cell? ⟨gb, 0, none⟩ = some (.string v0) := (blk_cell HQ2.out 0).trans rfl; have k1_w6 : w6.cell? ⟨gb, 1, none⟩ = some (.string v1) := (blk_cell HQ2.out 1).trans rfl; have k2_w6 : w6.cell? ⟨gb, 2, none⟩ = some (.bool false) := (blk_cell HQ2.out 2).trans rfl)))
        go_roundw
        case rel => exact ⟨s1, T1.out.2.1, T1.out.2.2.1, by rw [hs1], ⟨HC4.out⟩, ⟨HP4.out.re (by rw [T1.out.2.2.2])⟩⟩
        case measure => rw [hs1]; have h1 := T1.out.2.2.2; have h2 := TX.out; clear hs1; show l6.length - s1.toNat < l6.length - z.toNat; omega
       ·go_wp2_with (first | ((with_reducible refine gate_dst (N := 9) rfl ?_); (try (refine gate_guard (by rfl) ?_; dsimp only)); go_loud (refine box_event ?hg (N := 9) ?hd (cs := #[.string (⟨#[]⟩ : ByteArray), .string (⟨#[]⟩ : ByteArray), .bool false]) (t := 41) ?hr ?_; (case hd => rfl); (case hg => rfl); (case hr => first | (go_simp; done) | (go_simp; rfl)); intro gb hg w5 hbox hb; have HQ1 := Aside0.mk hbox; have HC1 := Aside0.mk (yB HB.out hb); have HP1 := Aside0.mk (HO1.out.go hb); have HGB := Aside0.mk (show w0.heap.size ≤ gb by rw [hg]; exact HO1.out.below.size); have HNE := Aside0.mk (show g ≠ gb by rw [hg]; exact Nat.ne_of_lt (blk_lt HB.out)); clear hbox hb hg; have k0_w5 : w5.cell? ⟨gb, 0, none⟩ = some (.string (⟨#[]⟩ : ByteArray)) := (blk_cell HQ1.out 0).trans rfl; have k1_w5 : w5.cell? ⟨gb, 1, none⟩ = some (.string (⟨#[]⟩ : ByteArray)) := (blk_cell HQ1.out 1).trans rfl; have k2_w5 : w5.cell? ⟨gb, 2, none⟩ = some (.bool false) := (blk_cell HQ1.out 2).trans rfl; have f0_w5 := blk_frozen HQ1.out 0; have f1_w5 := blk_frozen HQ1.out 1; have f2_w5 := blk_frozen HQ1.out 2)) | (go_at_call 41; go_loud (refine (cmd_Put.St.num (x := 1) (HP3.out.alloc _) (blk_new w7 _)).mono ?_; rintro e w8 ⟨rfl, hs, hk⟩; have HC4 := Aside0.mk ((HP3.out.alloc _).blk hk (yA HC3.out _) (by decide) (by decide)); have HP4 := Aside0.mk hs; clear hs hk)) | (go_at_call 42; go_loud (refine (cmd_Put.St.text HP2.out).mono ?_; rintro e w7 ⟨rfl, hs, hk⟩; have HC3 := Aside0.mk (HP2.out.blk hk HC2.out (by decide) (by decide)); have HQ3 := Aside0.mk (HP2.out.blk hk HQ2.out (by decide) (by decide)); have HP3 := Aside0.mk hs; clear hs hk; have k2_w7 : w7.cell? ⟨gb, 2, none⟩ = some (.bool true) := (blk_cell HQ3.out 2).trans rfl)) | (go_at_call 42; go_loud (obtain ⟨hs3, hb3⟩ := cmd_Put.St.box3 HP1.out HQ1.out (by decide) (by decide) HGB.out (.string v0) (.string v1) (.bool true); refine (cmd_Put.St.text hs3).mono ?_; rintro e w6 ⟨rfl, hs, hk⟩; have HC2 := Aside0.mk (hs3.blk hk (blk_far (blk_far (blk_far HC1.out HNE.out _) HNE.out _) HNE.out _) (by decide) (by decide)); have HQ2 := Aside0.mk (hs3.blk hk hb3 (by decide) (by decide)); have HP2 := Aside0.mk hs; clear hs hk hs3 hb3; have k0_w6 : w6.cell? ⟨gb, 0, none⟩ = some (.string v0) := (blk_cell HQ2.out 0).trans rfl; have k1_w6 : w6.cell? ⟨gb, 1, none⟩ = some (.string v1) := (blk_cell HQ2.out 1).trans rfl; have k2_w6 : w6.cell? ⟨gb, 2, none⟩ = some (.bool true) := (blk_cell HQ2.out 2).trans rfl)))
        go_roundw
        case rel => exact ⟨s1, T1.out.2.1, T1.out.2.2.1, by rw [hs1], ⟨HC4.out⟩, ⟨HP4.out.re (by rw [T1.out.2.2.2])⟩⟩
        case measure => rw [hs1]; have h1 := T1.out.2.2.2; have h2 := TX.out; clear hs1; show l6.length - s1.toNat < l6.length - z.toNat; omega
      ·have q5 : decide (z < (l6.length : Int)) = false := decide_eq_false hlt
       have HE := Aside0.mk (show l6.drop z.toNat = [] from List.drop_eq_nil_of_le (by omega))
       have HS7 := Aside0.mk (show cmd_Put.St 58 base bw w0 wr F (cmd_Put.nb [a7, a8, a9] ++ (cmd_Put.tb a10 ++ (cmd_Put.nb [a11] ++ (cmd_Put.rb l12 ++ rest)))) by have := HO.out; rw [HE.out] at this; exact this.re E6.out)
       have k7_wr : wr.cell? ⟨g, 7, none⟩ = some (.int .i64 a7) := (blk_cell HB.out 7).trans rfl
       have k8_wr : wr.cell? ⟨g, 8, none⟩ = some (.int .i64 a8) := (blk_cell HB.out 8).trans rfl
       have k9_wr : wr.cell? ⟨g, 9, none⟩ = some (.int .i64 a9) := (blk_cell HB.out 9).trans rfl
       clear hlt
       go_wp2_with (first | (go_at_call 43; go_loud (refine (cmd_Put.rows l12 A12 c12 bw base w0 _ F rest H12.out HS10.out).mono ?_; rintro e w11 ⟨rfl, hs⟩; have HS11 := Aside0.mk hs; clear hs)) | (go_at_call 41; go_loud (refine (cmd_Put.St.num (HS9.out.alloc _) (blk_new w9 _)).mono ?_; rintro e w10 ⟨rfl, hs, hk⟩; have HB10 := Aside0.mk ((HS9.out.alloc _).blk hk (yA HB9.out _) (by decide) (by decide)); have HS10 := Aside0.mk hs; clear hs hk; have k12_w10 : w10.cell? ⟨g, 12, none⟩ = some (.slice A12 l12.length c12) := (blk_cell HB10.out 12).trans rfl)) | (go_at_call 42; go_loud (refine (cmd_Put.St.text HS8.out).mono ?_; rintro e w9 ⟨rfl, hs, hk⟩; have HB9 := Aside0.mk (HS8.out.blk hk HB8.out (by decide) (by decide)); have HS9 := Aside0.mk hs; clear hs hk; have k11_w9 : w9.cell? ⟨g, 11, none⟩ = some (.int .i64 a11) := (blk_cell HB9.out 11).trans rfl)) | (go_at_call 41; go_loud (refine (cmd_Put.St.num3 (HS7.out.alloc _) (blk_new wr _)).mono ?_; rintro e w8 ⟨rfl, hs, hk⟩; have HB8 := Aside0.mk ((HS7.out.alloc _).blk hk (yA HB.out _) (by decide) (by decide)); have HS8 := Aside0.mk hs; clear hs hk; have k10_w8 : w8.cell? ⟨g, 10, none⟩ = some (.string a10) := (blk_cell HB8.out 10).trans rfl)))
       go_end0
       exact ⟨rfl, HS11.out⟩
/-- What Put answers, once a command may be. -/
def cmd_Put.ans (s : ByteArray) : ByteArray × Int := if (s.size : Int) > 20000 then ((⟨#[]⟩ : ByteArray), 2) else (s, 0)
def cmd_Put.put (k : Nat) (F : List Int) : Option (ByteArray × Int) := if F.length < 800000000 then (seal_Put.f k (strOfNums F)).bind fun s => some (cmd_Put.ans s) else none
def cmd_Put.f (k : Nat) (a0_0 a0_1 a0_2 a0_3 : Int) (l0_4 : List ByteArray) (l0_5 : List (S50)) (l0_6 : List (S41)) (a0_7 a0_8 a0_9 : Int) (a0_10 : ByteArray) (a0_11 : Int) (l0_12 : List (List (S45))) : Option (ByteArray × Int) :=
 (cmd_May.f k a0_0 a0_1 a0_2 a0_3 l0_4 l0_5 l0_6 a0_7 a0_8 a0_9 a0_10 a0_11 l0_12).bind fun m => if m = true then cmd_Put.put k (cmd_Put.cb a0_0 a0_1 a0_2 a0_3 l0_4 l0_5 l0_6 a0_7 a0_8 a0_9 a0_10 a0_11 l0_12) else some ((⟨#[]⟩ : ByteArray), 1)
theorem cmd_Put.mono : ∀ a0 a1 a2 a3 a4 a5 a6 a7 a8 a9 a10 a11 a12 k, LeO (cmd_Put.f k a0 a1 a2 a3 a4 a5 a6 a7 a8 a9 a10 a11 a12) (cmd_Put.f (k + 1) a0 a1 a2 a3 a4 a5 a6 a7 a8 a9 a10 a11 a12) := by
 intro a0 a1 a2 a3 a4 a5 a6 a7 a8 a9 a10 a11 a12 k
 unfold cmd_Put.f cmd_Put.put
 refine LeO.bind (cmd_May.mono _ _ _ _ _ _ _ _ _ _ _ _ _ _) (fun _ => ?_)
 refine LeO.ite ?_ (LeO.refl _)
 refine LeO.ite ?_ (LeO.refl _)
 exact LeO.bind (seal_Put.mono _ _) (fun _ => LeO.refl _)
set_option maxHeartbeats 16000000 in
set_option maxRecDepth 100000 in
theorem cmd_Put.calls (k : Nat) (a0_0 : Int) (a0_1 : Int) (a0_2 : Int) (a0_3 : Int) (A0_4 : Option Addr) (c0_4 : Nat) (l0_4 : List ByteArray) (A0_5 : Option Addr) (c0_5 : Nat) (l0_5 : List (S50)) (A0_6 : Option Addr) (c0_6 : Nat) (l0_6 : List (S41)) (a0_7 : Int) (a0_8 : Int) (a0_9 : Int) (a0_10 : ByteArray) (a0_11 : Int) (A0_12 : Option Addr) (c0_12 : Nat) (l0_12 : List (List (S45))) (r1 : ByteArray) (r2 : Int) (w : World) (hr0_4 : Kd.C Kd.string w A0_4 l0_4.length l0_4) (hc0_4 : l0_4.length ≤ c0_4) (hr0_5 : Kd.C k50 w A0_5 l0_5.length l0_5) (hc0_5 : l0_5.length ≤ c0_5) (hr0_6 : Kd.C k41 w A0_6 l0_6.length l0_6) (hc0_6 : l0_6.length ≤ c0_6) (hr0_12 : Kd.C (Kd.slice 45 k45) w A0_12 l0_12.length l0_12) (hc0_12 : l0_12.length ≤ c0_12) (h : cmd_Put.f k a0_0 a0_1 a0_2 a0_3 l0_4 l0_5 l0_6 a0_7 a0_8 a0_9 a0_10 a0_11 l0_12 = some (r1, r2)) :
  Calls Try.prog 12 #[.agg #[.int .i64 a0_0, .int .i64 a0_1, .int .i64 a0_2, .int .i64 a0_3, .slice A0_4 l0_4.length c0_4, .slice A0_5 l0_5.length c0_5, .slice A0_6 l0_6.length c0_6, .int .i64 a0_7, .int .i64 a0_8, .int .i64 a0_9, .string a0_10, .int .i64 a0_11, .slice A0_12 l0_12.length c0_12]] w fun e w' => e = .returned (.tuple #[.string r1, .int .i64 r2]) ∧ Below w.heap.size w w' := by
 have hu27 := Try.underlying27
 have hu58 := Try.underlying58
 have H4 := Aside0.mk hr0_4
 have C4 := Aside0.mk hc0_4
 have H5 := Aside0.mk hr0_5
 have C5 := Aside0.mk hc0_5
 have H6 := Aside0.mk hr0_6
 have C6 := Aside0.mk hc0_6
 have H12 := Aside0.mk hr0_12
 have C12 := Aside0.mk hc0_12
 clear hr0_4 hc0_4 hr0_5 hc0_5 hr0_6 hc0_6 hr0_12 hc0_12
 unfold cmd_Put.f at h
 obtain ⟨m, hm, h⟩ := Option.bind_eq_some_iff.mp h
 have HM := Aside0.mk hm
 clear hm
 have HB0 := Aside0.mk (Below.refl w.heap.size w)
 obtain ⟨F, hF⟩ : ∃ F, F = cmd_Put.cb a0_0 a0_1 a0_2 a0_3 l0_4 l0_5 l0_6 a0_7 a0_8 a0_9 a0_10 a0_11 l0_12 := ⟨_, rfl⟩
 rw [← hF] at h
 have HF := Aside0.mk hF
 clear hF
 cases m with
 | false =>
  have hr : ((⟨#[]⟩ : ByteArray), (1 : Int)) = (r1, r2) := by rw [if_neg (by decide)] at h; exact Option.some.inj h
  obtain ⟨rfl, rfl⟩ := Prod.mk.inj hr
  clear hr h
  go_enter Try.func12, Try.ntmps12
  go_wp2_with (first | ((with_reducible refine gate_dst (N := 1) rfl ?_); (try (refine gate_guard (by rfl) ?_; dsimp only)); refine box_event ?hg (N := 1) ?hd (cs := #[.int .i64 a0_0, .int .i64 a0_1, .int .i64 a0_2, .int .i64 a0_3, .slice A0_4 l0_4.length c0_4, .slice A0_5 l0_5.length c0_5, .slice A0_6 l0_6.length c0_6, .int .i64 a0_7, .int .i64 a0_8, .int .i64 a0_9, .string a0_10, .int .i64 a0_11, .slice A0_12 l0_12.length c0_12]) (t := 27) ?hr ?_; (case hd => rfl); (case hg => rfl); (case hr => first | (go_simp; done) | (go_simp; rfl)); intro g hg w1 hbox hb; have HQ1 := Aside0.mk hbox; have HB1 := Aside0.mk hb; clear hbox hb hg; have k0_w1 : w1.cell? ⟨g, 0, none⟩ = some (.int .i64 a0_0) := (blk_cell HQ1.out 0).trans rfl; have k1_w1 : w1.cell? ⟨g, 1, none⟩ = some (.int .i64 a0_1) := (blk_cell HQ1.out 1).trans rfl; have k2_w1 : w1.cell? ⟨g, 2, none⟩ = some (.int .i64 a0_2) := (blk_cell HQ1.out 2).trans rfl; have k3_w1 : w1.cell? ⟨g, 3, none⟩ = some (.int .i64 a0_3) := (blk_cell HQ1.out 3).trans rfl; have k4_w1 : w1.cell? ⟨g, 4, none⟩ = some (.slice A0_4 l0_4.length c0_4) := (blk_cell HQ1.out 4).trans rfl; have k5_w1 : w1.cell? ⟨g, 5, none⟩ = some (.slice A0_5 l0_5.length c0_5) := (blk_cell HQ1.out 5).trans rfl; have k6_w1 : w1.cell? ⟨g, 6, none⟩ = some (.slice A0_6 l0_6.length c0_6) := (blk_cell HQ1.out 6).trans rfl; have k7_w1 : w1.cell? ⟨g, 7, none⟩ = some (.int .i64 a0_7) := (blk_cell HQ1.out 7).trans rfl; have k8_w1 : w1.cell? ⟨g, 8, none⟩ = some (.int .i64 a0_8) := (blk_cell HQ1.out 8).trans rfl; have k9_w1 : w1.cell? ⟨g, 9, none⟩ = some (.int .i64 a0_9) := (blk_cell HQ1.out 9).trans rfl; have k10_w1 : w1.cell? ⟨g, 10, none⟩ = some (.string a0_10) := (blk_cell HQ1.out 10).trans rfl; have k11_w1 : w1.cell? ⟨g, 11, none⟩ = some (.int .i64 a0_11) := (blk_cell HQ1.out 11).trans rfl; have k12_w1 : w1.cell? ⟨g, 12, none⟩ = some (.slice A0_12 l0_12.length c0_12) := (blk_cell HQ1.out 12).trans rfl) | (go_at_call 9; go_loud (refine (cmd_May.calls k a0_0 a0_1 a0_2 a0_3 A0_4 c0_4 l0_4 A0_5 c0_5 l0_5 A0_6 c0_6 l0_6 a0_7 a0_8 a0_9 a0_10 a0_11 A0_12 c0_12 l0_12 false _ (Kd.C_below H4.out HB1.out) C4.out (Kd.C_below H5.out HB1.out) C5.out (Kd.C_below H6.out HB1.out) C6.out (Kd.C_below H12.out HB1.out) C12.out HM.out).mono ?_; rintro e w2 ⟨rfl, hb⟩; have HQ2 := Aside0.mk (yB HQ1.out hb); have HB2 := Aside0.mk (zS HB1.out hb); clear hb; have k0_w2 : w2.cell? ⟨g, 0, none⟩ = some (.int .i64 a0_0) := (blk_cell HQ2.out 0).trans rfl; have k1_w2 : w2.cell? ⟨g, 1, none⟩ = some (.int .i64 a0_1) := (blk_cell HQ2.out 1).trans rfl; have k2_w2 : w2.cell? ⟨g, 2, none⟩ = some (.int .i64 a0_2) := (blk_cell HQ2.out 2).trans rfl; have k3_w2 : w2.cell? ⟨g, 3, none⟩ = some (.int .i64 a0_3) := (blk_cell HQ2.out 3).trans rfl; have k4_w2 : w2.cell? ⟨g, 4, none⟩ = some (.slice A0_4 l0_4.length c0_4) := (blk_cell HQ2.out 4).trans rfl; have k5_w2 : w2.cell? ⟨g, 5, none⟩ = some (.slice A0_5 l0_5.length c0_5) := (blk_cell HQ2.out 5).trans rfl; have k6_w2 : w2.cell? ⟨g, 6, none⟩ = some (.slice A0_6 l0_6.length c0_6) := (blk_cell HQ2.out 6).trans rfl; have k7_w2 : w2.cell? ⟨g, 7, none⟩ = some (.int .i64 a0_7) := (blk_cell HQ2.out 7).trans rfl; have k8_w2 : w2.cell? ⟨g, 8, none⟩ = some (.int .i64 a0_8) := (blk_cell HQ2.out 8).trans rfl; have k9_w2 : w2.cell? ⟨g, 9, none⟩ = some (.int .i64 a0_9) := (blk_cell HQ2.out 9).trans rfl; have k10_w2 : w2.cell? ⟨g, 10, none⟩ = some (.string a0_10) := (blk_cell HQ2.out 10).trans rfl; have k11_w2 : w2.cell? ⟨g, 11, none⟩ = some (.int .i64 a0_11) := (blk_cell HQ2.out 11).trans rfl; have k12_w2 : w2.cell? ⟨g, 12, none⟩ = some (.slice A0_12 l0_12.length c0_12) := (blk_cell HQ2.out 12).trans rfl)))
  go_ret2
  exact ⟨rfl, HB2.out⟩
 | true =>
  rw [if_pos rfl, cmd_Put.put] at h
  by_cases hl : F.length < 800000000
  ·rw [if_pos hl] at h
   obtain ⟨s, hs, h⟩ := Option.bind_eq_some_iff.mp h
   have HL := Aside0.mk hl
   have HP := Aside0.mk hs
   have HR := Aside0.mk (Option.some.inj h)
   clear hl hs h
   by_cases hz : (s.size : Int) > 20000
   ·have hr : ((⟨#[]⟩ : ByteArray), (2 : Int)) = (r1, r2) := by have := HR.out; rw [cmd_Put.ans, if_pos hz] at this; exact this
    obtain ⟨rfl, rfl⟩ := Prod.mk.inj hr
    have q := decide_eq_true hz
    have q2 : decide (20000 < (s.size : Int)) = true := q
    clear hz hr
    go_enter Try.func12, Try.ntmps12
    go_wp2_with (first | (go_at_call 25; go_loud (refine (seal_Put.calls k _ s _ HP.out).mono ?_; rintro e w5 ⟨rfl, hb⟩; have HB5 := Aside0.mk (zS HB4.out hb); clear hb)) | (go_at_call 24; go_loud (refine (cmd_Put.command a0_0 a0_1 a0_2 a0_3 A0_4 c0_4 l0_4 A0_5 c0_5 l0_5 A0_6 c0_6 l0_6 a0_7 a0_8 a0_9 a0_10 a0_11 A0_12 c0_12 l0_12 bw bw w _ F [] H4.out H5.out H6.out H12.out (HS3.out.re (by rw [← HF.out]))).mono ?_; rintro e w4 ⟨rfl, hs⟩; have HB4 := Aside0.mk hs.below; obtain ⟨cur, ⟨vb, hb, hr⟩, he⟩ := hs.wr; obtain rfl : cur = F := (List.append_nil _).symm.trans he; have y0 : w4.cell? ⟨bw, 0, none⟩ = some vb := (blk_cell hb 0).trans rfl; have HR4 := Aside0.mk hr; have HQ4 := Aside0.mk hb; clear hb hr he hs; obtain ⟨A, mm, cc, rfl⟩ : ∃ A m c, vb = .slice A m c := (by obtain ⟨A, c, h⟩ := Kd.R_slice HR4.out; exact ⟨A, _, c, h⟩); have hcv := own_string (P := Try.prog) Try.underlying46 Try.underlying5 Try.underlying9 (Kd.own_of_R HR4.out))) | ((with_reducible refine gate_dst (N := 10) rfl ?_); (try (refine gate_guard (by rfl) ?_; dsimp only)); go_loud (refine box_event ?hg (N := 10) ?hd (cs := #[.slice none 0 0]) (t := 58) ?hr ?_; (case hd => rfl); (case hg => rfl); (case hr => first | (go_simp; done) | (go_simp; rfl)); intro bw hg w3 hbox hb; have HQ3 := Aside0.mk (yB HQ2.out hb); have HS3 := Aside0.mk (show cmd_Put.St 58 bw bw w w3 F (F ++ []) from ⟨⟨[], ⟨_, hbox, Kd.R_nil _ _ _ _ _⟩, by simp⟩, HL.out, zS HB2.out hb, by rw [hg]; exact HB2.out.size, by rw [hg]; exact HB2.out.size, by rw [hg]; exact hb.size⟩); clear hbox hb hg; have k0_w3 : w3.cell? ⟨g, 0, none⟩ = some (.int .i64 a0_0) := (blk_cell HQ3.out 0).trans rfl; have k1_w3 : w3.cell? ⟨g, 1, none⟩ = some (.int .i64 a0_1) := (blk_cell HQ3.out 1).trans rfl; have k2_w3 : w3.cell? ⟨g, 2, none⟩ = some (.int .i64 a0_2) := (blk_cell HQ3.out 2).trans rfl; have k3_w3 : w3.cell? ⟨g, 3, none⟩ = some (.int .i64 a0_3) := (blk_cell HQ3.out 3).trans rfl; have k4_w3 : w3.cell? ⟨g, 4, none⟩ = some (.slice A0_4 l0_4.length c0_4) := (blk_cell HQ3.out 4).trans rfl; have k5_w3 : w3.cell? ⟨g, 5, none⟩ = some (.slice A0_5 l0_5.length c0_5) := (blk_cell HQ3.out 5).trans rfl; have k6_w3 : w3.cell? ⟨g, 6, none⟩ = some (.slice A0_6 l0_6.length c0_6) := (blk_cell HQ3.out 6).trans rfl; have k7_w3 : w3.cell? ⟨g, 7, none⟩ = some (.int .i64 a0_7) := (blk_cell HQ3.out 7).trans rfl; have k8_w3 : w3.cell? ⟨g, 8, none⟩ = some (.int .i64 a0_8) := (blk_cell HQ3.out 8).trans rfl; have k9_w3 : w3.cell? ⟨g, 9, none⟩ = some (.int .i64 a0_9) := (blk_cell HQ3.out 9).trans rfl; have k10_w3 : w3.cell? ⟨g, 10, none⟩ = some (.string a0_10) := (blk_cell HQ3.out 10).trans rfl; have k11_w3 : w3.cell? ⟨g, 11, none⟩ = some (.int .i64 a0_11) := (blk_cell HQ3.out 11).trans rfl; have k12_w3 : w3.cell? ⟨g, 12, none⟩ = some (.slice A0_12 l0_12.length c0_12) := (blk_cell HQ3.out 12).trans rfl)) | (go_at_call 9; go_loud (refine (cmd_May.calls k a0_0 a0_1 a0_2 a0_3 A0_4 c0_4 l0_4 A0_5 c0_5 l0_5 A0_6 c0_6 l0_6 a0_7 a0_8 a0_9 a0_10 a0_11 A0_12 c0_12 l0_12 true _ (Kd.C_below H4.out HB1.out) C4.out (Kd.C_below H5.out HB1.out) C5.out (Kd.C_below H6.out HB1.out) C6.out (Kd.C_below H12.out HB1.out) C12.out HM.out).mono ?_; rintro e w2 ⟨rfl, hb⟩; have HQ2 := Aside0.mk (yB HQ1.out hb); have HB2 := Aside0.mk (zS HB1.out hb); clear hb; have k0_w2 : w2.cell? ⟨g, 0, none⟩ = some (.int .i64 a0_0) := (blk_cell HQ2.out 0).trans rfl; have k1_w2 : w2.cell? ⟨g, 1, none⟩ = some (.int .i64 a0_1) := (blk_cell HQ2.out 1).trans rfl; have k2_w2 : w2.cell? ⟨g, 2, none⟩ = some (.int .i64 a0_2) := (blk_cell HQ2.out 2).trans rfl; have k3_w2 : w2.cell? ⟨g, 3, none⟩ = some (.int .i64 a0_3) := (blk_cell HQ2.out 3).trans rfl; have k4_w2 : w2.cell? ⟨g, 4, none⟩ = some (.slice A0_4 l0_4.length c0_4) := (blk_cell HQ2.out 4).trans rfl; have k5_w2 : w2.cell? ⟨g, 5, none⟩ = some (.slice A0_5 l0_5.length c0_5) := (blk_cell HQ2.out 5).trans rfl; have k6_w2 : w2.cell? ⟨g, 6, none⟩ = some (.slice A0_6 l0_6.length c0_6) := (blk_cell HQ2.out 6).trans rfl; have k7_w2 : w2.cell? ⟨g, 7, none⟩ = some (.int .i64 a0_7) := (blk_cell HQ2.out 7).trans rfl; have k8_w2 : w2.cell? ⟨g, 8, none⟩ = some (.int .i64 a0_8) := (blk_cell HQ2.out 8).trans rfl; have k9_w2 : w2.cell? ⟨g, 9, none⟩ = some (.int .i64 a0_9) := (blk_cell HQ2.out 9).trans rfl; have k10_w2 : w2.cell? ⟨g, 10, none⟩ = some (.string a0_10) := (blk_cell HQ2.out 10).trans rfl; have k11_w2 : w2.cell? ⟨g, 11, none⟩ = some (.int .i64 a0_11) := (blk_cell HQ2.out 11).trans rfl; have k12_w2 : w2.cell? ⟨g, 12, none⟩ = some (.slice A0_12 l0_12.length c0_12) := (blk_cell HQ2.out 12).trans rfl)) | ((with_reducible refine gate_dst (N := 1) rfl ?_); (try (refine gate_guard (by rfl) ?_; dsimp only)); refine box_event ?hg (N := 1) ?hd (cs := #[.int .i64 a0_0, .int .i64 a0_1, .int .i64 a0_2, .int .i64 a0_3, .slice A0_4 l0_4.length c0_4, .slice A0_5 l0_5.length c0_5, .slice A0_6 l0_6.length c0_6, .int .i64 a0_7, .int .i64 a0_8, .int .i64 a0_9, .string a0_10, .int .i64 a0_11, .slice A0_12 l0_12.length c0_12]) (t := 27) ?hr ?_; (case hd => rfl); (case hg => rfl); (case hr => first | (go_simp; done) | (go_simp; rfl)); intro g hg w1 hbox hb; have HQ1 := Aside0.mk hbox; have HB1 := Aside0.mk hb; clear hbox hb hg; have k0_w1 : w1.cell? ⟨g, 0, none⟩ = some (.int .i64 a0_0) := (blk_cell HQ1.out 0).trans rfl; have k1_w1 : w1.cell? ⟨g, 1, none⟩ = some (.int .i64 a0_1) := (blk_cell HQ1.out 1).trans rfl; have k2_w1 : w1.cell? ⟨g, 2, none⟩ = some (.int .i64 a0_2) := (blk_cell HQ1.out 2).trans rfl; have k3_w1 : w1.cell? ⟨g, 3, none⟩ = some (.int .i64 a0_3) := (blk_cell HQ1.out 3).trans rfl; have k4_w1 : w1.cell? ⟨g, 4, none⟩ = some (.slice A0_4 l0_4.length c0_4) := (blk_cell HQ1.out 4).trans rfl; have k5_w1 : w1.cell? ⟨g, 5, none⟩ = some (.slice A0_5 l0_5.length c0_5) := (blk_cell HQ1.out 5).trans rfl; have k6_w1 : w1.cell? ⟨g, 6, none⟩ = some (.slice A0_6 l0_6.length c0_6) := (blk_cell HQ1.out 6).trans rfl; have k7_w1 : w1.cell? ⟨g, 7, none⟩ = some (.int .i64 a0_7) := (blk_cell HQ1.out 7).trans rfl; have k8_w1 : w1.cell? ⟨g, 8, none⟩ = some (.int .i64 a0_8) := (blk_cell HQ1.out 8).trans rfl; have k9_w1 : w1.cell? ⟨g, 9, none⟩ = some (.int .i64 a0_9) := (blk_cell HQ1.out 9).trans rfl; have k10_w1 : w1.cell? ⟨g, 10, none⟩ = some (.string a0_10) := (blk_cell HQ1.out 10).trans rfl; have k11_w1 : w1.cell? ⟨g, 11, none⟩ = some (.int .i64 a0_11) := (blk_cell HQ1.out 11).trans rfl; have k12_w1 : w1.cell? ⟨g, 12, none⟩ = some (.slice A0_12 l0_12.length c0_12) := (blk_cell HQ1.out 12).trans rfl))
    go_ret2
    exact ⟨rfl, HB5.out⟩
   ·have hr : (s, (0 : Int)) = (r1, r2) := by have := HR.out; rw [cmd_Put.ans, if_neg hz] at this; exact this
    obtain ⟨rfl, rfl⟩ := Prod.mk.inj hr
    have q := decide_eq_false hz
    have q2 : decide (20000 < (s.size : Int)) = false := q
    clear hz hr
    go_enter Try.func12, Try.ntmps12
    go_wp2_with (first | (go_at_call 25; go_loud (refine (seal_Put.calls k _ s _ HP.out).mono ?_; rintro e w5 ⟨rfl, hb⟩; have HB5 := Aside0.mk (zS HB4.out hb); clear hb)) | (go_at_call 24; go_loud (refine (cmd_Put.command a0_0 a0_1 a0_2 a0_3 A0_4 c0_4 l0_4 A0_5 c0_5 l0_5 A0_6 c0_6 l0_6 a0_7 a0_8 a0_9 a0_10 a0_11 A0_12 c0_12 l0_12 bw bw w _ F [] H4.out H5.out H6.out H12.out (HS3.out.re (by rw [← HF.out]))).mono ?_; rintro e w4 ⟨rfl, hs⟩; have HB4 := Aside0.mk hs.below; obtain ⟨cur, ⟨vb, hb, hr⟩, he⟩ := hs.wr; obtain rfl : cur = F := (List.append_nil _).symm.trans he; have y0 : w4.cell? ⟨bw, 0, none⟩ = some vb := (blk_cell hb 0).trans rfl; have HR4 := Aside0.mk hr; have HQ4 := Aside0.mk hb; clear hb hr he hs; obtain ⟨A, mm, cc, rfl⟩ : ∃ A m c, vb = .slice A m c := (by obtain ⟨A, c, h⟩ := Kd.R_slice HR4.out; exact ⟨A, _, c, h⟩); have hcv := own_string (P := Try.prog) Try.underlying46 Try.underlying5 Try.underlying9 (Kd.own_of_R HR4.out))) | ((with_reducible refine gate_dst (N := 10) rfl ?_); (try (refine gate_guard (by rfl) ?_; dsimp only)); go_loud (refine box_event ?hg (N := 10) ?hd (cs := #[.slice none 0 0]) (t := 58) ?hr ?_; (case hd => rfl); (case hg => rfl); (case hr => first | (go_simp; done) | (go_simp; rfl)); intro bw hg w3 hbox hb; have HQ3 := Aside0.mk (yB HQ2.out hb); have HS3 := Aside0.mk (show cmd_Put.St 58 bw bw w w3 F (F ++ []) from ⟨⟨[], ⟨_, hbox, Kd.R_nil _ _ _ _ _⟩, by simp⟩, HL.out, zS HB2.out hb, by rw [hg]; exact HB2.out.size, by rw [hg]; exact HB2.out.size, by rw [hg]; exact hb.size⟩); clear hbox hb hg; have k0_w3 : w3.cell? ⟨g, 0, none⟩ = some (.int .i64 a0_0) := (blk_cell HQ3.out 0).trans rfl; have k1_w3 : w3.cell? ⟨g, 1, none⟩ = some (.int .i64 a0_1) := (blk_cell HQ3.out 1).trans rfl; have k2_w3 : w3.cell? ⟨g, 2, none⟩ = some (.int .i64 a0_2) := (blk_cell HQ3.out 2).trans rfl; have k3_w3 : w3.cell? ⟨g, 3, none⟩ = some (.int .i64 a0_3) := (blk_cell HQ3.out 3).trans rfl; have k4_w3 : w3.cell? ⟨g, 4, none⟩ = some (.slice A0_4 l0_4.length c0_4) := (blk_cell HQ3.out 4).trans rfl; have k5_w3 : w3.cell? ⟨g, 5, none⟩ = some (.slice A0_5 l0_5.length c0_5) := (blk_cell HQ3.out 5).trans rfl; have k6_w3 : w3.cell? ⟨g, 6, none⟩ = some (.slice A0_6 l0_6.length c0_6) := (blk_cell HQ3.out 6).trans rfl; have k7_w3 : w3.cell? ⟨g, 7, none⟩ = some (.int .i64 a0_7) := (blk_cell HQ3.out 7).trans rfl; have k8_w3 : w3.cell? ⟨g, 8, none⟩ = some (.int .i64 a0_8) := (blk_cell HQ3.out 8).trans rfl; have k9_w3 : w3.cell? ⟨g, 9, none⟩ = some (.int .i64 a0_9) := (blk_cell HQ3.out 9).trans rfl; have k10_w3 : w3.cell? ⟨g, 10, none⟩ = some (.string a0_10) := (blk_cell HQ3.out 10).trans rfl; have k11_w3 : w3.cell? ⟨g, 11, none⟩ = some (.int .i64 a0_11) := (blk_cell HQ3.out 11).trans rfl; have k12_w3 : w3.cell? ⟨g, 12, none⟩ = some (.slice A0_12 l0_12.length c0_12) := (blk_cell HQ3.out 12).trans rfl)) | (go_at_call 9; go_loud (refine (cmd_May.calls k a0_0 a0_1 a0_2 a0_3 A0_4 c0_4 l0_4 A0_5 c0_5 l0_5 A0_6 c0_6 l0_6 a0_7 a0_8 a0_9 a0_10 a0_11 A0_12 c0_12 l0_12 true _ (Kd.C_below H4.out HB1.out) C4.out (Kd.C_below H5.out HB1.out) C5.out (Kd.C_below H6.out HB1.out) C6.out (Kd.C_below H12.out HB1.out) C12.out HM.out).mono ?_; rintro e w2 ⟨rfl, hb⟩; have HQ2 := Aside0.mk (yB HQ1.out hb); have HB2 := Aside0.mk (zS HB1.out hb); clear hb; have k0_w2 : w2.cell? ⟨g, 0, none⟩ = some (.int .i64 a0_0) := (blk_cell HQ2.out 0).trans rfl; have k1_w2 : w2.cell? ⟨g, 1, none⟩ = some (.int .i64 a0_1) := (blk_cell HQ2.out 1).trans rfl; have k2_w2 : w2.cell? ⟨g, 2, none⟩ = some (.int .i64 a0_2) := (blk_cell HQ2.out 2).trans rfl; have k3_w2 : w2.cell? ⟨g, 3, none⟩ = some (.int .i64 a0_3) := (blk_cell HQ2.out 3).trans rfl; have k4_w2 : w2.cell? ⟨g, 4, none⟩ = some (.slice A0_4 l0_4.length c0_4) := (blk_cell HQ2.out 4).trans rfl; have k5_w2 : w2.cell? ⟨g, 5, none⟩ = some (.slice A0_5 l0_5.length c0_5) := (blk_cell HQ2.out 5).trans rfl; have k6_w2 : w2.cell? ⟨g, 6, none⟩ = some (.slice A0_6 l0_6.length c0_6) := (blk_cell HQ2.out 6).trans rfl; have k7_w2 : w2.cell? ⟨g, 7, none⟩ = some (.int .i64 a0_7) := (blk_cell HQ2.out 7).trans rfl; have k8_w2 : w2.cell? ⟨g, 8, none⟩ = some (.int .i64 a0_8) := (blk_cell HQ2.out 8).trans rfl; have k9_w2 : w2.cell? ⟨g, 9, none⟩ = some (.int .i64 a0_9) := (blk_cell HQ2.out 9).trans rfl; have k10_w2 : w2.cell? ⟨g, 10, none⟩ = some (.string a0_10) := (blk_cell HQ2.out 10).trans rfl; have k11_w2 : w2.cell? ⟨g, 11, none⟩ = some (.int .i64 a0_11) := (blk_cell HQ2.out 11).trans rfl; have k12_w2 : w2.cell? ⟨g, 12, none⟩ = some (.slice A0_12 l0_12.length c0_12) := (blk_cell HQ2.out 12).trans rfl)) | ((with_reducible refine gate_dst (N := 1) rfl ?_); (try (refine gate_guard (by rfl) ?_; dsimp only)); refine box_event ?hg (N := 1) ?hd (cs := #[.int .i64 a0_0, .int .i64 a0_1, .int .i64 a0_2, .int .i64 a0_3, .slice A0_4 l0_4.length c0_4, .slice A0_5 l0_5.length c0_5, .slice A0_6 l0_6.length c0_6, .int .i64 a0_7, .int .i64 a0_8, .int .i64 a0_9, .string a0_10, .int .i64 a0_11, .slice A0_12 l0_12.length c0_12]) (t := 27) ?hr ?_; (case hd => rfl); (case hg => rfl); (case hr => first | (go_simp; done) | (go_simp; rfl)); intro g hg w1 hbox hb; have HQ1 := Aside0.mk hbox; have HB1 := Aside0.mk hb; clear hbox hb hg; have k0_w1 : w1.cell? ⟨g, 0, none⟩ = some (.int .i64 a0_0) := (blk_cell HQ1.out 0).trans rfl; have k1_w1 : w1.cell? ⟨g, 1, none⟩ = some (.int .i64 a0_1) := (blk_cell HQ1.out 1).trans rfl; have k2_w1 : w1.cell? ⟨g, 2, none⟩ = some (.int .i64 a0_2) := (blk_cell HQ1.out 2).trans rfl; have k3_w1 : w1.cell? ⟨g, 3, none⟩ = some (.int .i64 a0_3) := (blk_cell HQ1.out 3).trans rfl; have k4_w1 : w1.cell? ⟨g, 4, none⟩ = some (.slice A0_4 l0_4.length c0_4) := (blk_cell HQ1.out 4).trans rfl; have k5_w1 : w1.cell? ⟨g, 5, none⟩ = some (.slice A0_5 l0_5.length c0_5) := (blk_cell HQ1.out 5).trans rfl; have k6_w1 : w1.cell? ⟨g, 6, none⟩ = some (.slice A0_6 l0_6.length c0_6) := (blk_cell HQ1.out 6).trans rfl; have k7_w1 : w1.cell? ⟨g, 7, none⟩ = some (.int .i64 a0_7) := (blk_cell HQ1.out 7).trans rfl; have k8_w1 : w1.cell? ⟨g, 8, none⟩ = some (.int .i64 a0_8) := (blk_cell HQ1.out 8).trans rfl; have k9_w1 : w1.cell? ⟨g, 9, none⟩ = some (.int .i64 a0_9) := (blk_cell HQ1.out 9).trans rfl; have k10_w1 : w1.cell? ⟨g, 10, none⟩ = some (.string a0_10) := (blk_cell HQ1.out 10).trans rfl; have k11_w1 : w1.cell? ⟨g, 11, none⟩ = some (.int .i64 a0_11) := (blk_cell HQ1.out 11).trans rfl; have k12_w1 : w1.cell? ⟨g, 12, none⟩ = some (.slice A0_12 l0_12.length c0_12) := (blk_cell HQ1.out 12).trans rfl))
    go_ret2
    exact ⟨rfl, HB5.out⟩
  ·rw [if_neg hl] at h; exact absurd h (by simp)

end Go.Proofs.Ytikiegglebgmpaa.PA
