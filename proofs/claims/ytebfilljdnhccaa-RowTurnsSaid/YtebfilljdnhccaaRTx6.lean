/- Contracts of the Go functions of this seat: what each call returns is what a Lean function of its arguments says; each theorem bears its own conditions. Written by a program of this session (wip/tools/mkprint.py). -/
import Derived.Test.YtebfilljdnhccaaRTx0
import Derived.Test.YtebfilljdnhccaaRTx2
import Derived.Test.YtebfilljdnhccaaRTx5
namespace Go.Proofs.Ytebfilljdnhccaa.PA
open Go.RowKit Go.Proofs.YtebfilljdnhccaaW.PrintWords Go.Proofs.YtebfilljdnhccaaW.PrintLast Go.Proofs.YtebfilljdnhccaaW.PrintMore
attribute [local go_sem] max2_int min2_int max_two min_two max_three min_three max_four min_four   -- for this text's walks alone
set_option linter.unusedVariables false
set_option linter.unusedSimpArgs false

attribute [local go_sem high] eqA46
attribute [local go_sem ↓ high] unary_xor_u64 ux_if_u64
attribute [local go_sem] str_gtr str_leq str_geq
/-! ### falseworklaw4_awake: function 10 -/
def falseworklaw4_awake.f (k : Nat)  : Option (Bool) := (row_Put.f k (([(⟨1, (⟨2, 1, 0, (⟨#[]⟩ : ByteArray)⟩ : S44)⟩ : S46)] : List (S46)))).bind fun bt171 => ((falseworklaw4_num.f bt171.2).bind fun t173 => (if t173 = 0 then (some (bt171.1.toList == ([0, 1, 4, 128, 0, 0, 0, 0, 0, 0, 1] : List UInt8))) else (some false)))
theorem falseworklaw4_awake.mono : ∀ k, LeO (falseworklaw4_awake.f k ) (falseworklaw4_awake.f (k + 1) ) := by
  intro  k
  unfold falseworklaw4_awake.f
  repeat' first
      | (with_reducible exact row_Put.mono _ _)
      | (with_reducible exact LeO.refl _)
      | (with_reducible exact LeO.none _)
      | (with_reducible refine LeO.ite ?_ ?_)
      | (with_reducible refine LeO.bind ?_ (fun _ => ?_))
      | exact row_Put.mono _ _
      | exact LeO.none _
      | refine LeO.ite ?_ ?_
      | refine LeO.bind ?_ (fun _ => ?_)
set_option maxHeartbeats 8000000 in
set_option maxRecDepth 100000 in
theorem falseworklaw4_awake.calls (k : Nat)  (r : Bool) (w : World) (h : falseworklaw4_awake.f k  = some r) :
    Calls Try.prog 10 #[] w fun e w' => e = .returned (.bool r) ∧ Below w.heap.size w w' := by
  have hu44 := Try.underlying44
  have hu46 := Try.underlying46
  have HB := Aside0.mk (Below.refl w.heap.size w)
  have H : ((row_Put.f k (([(⟨1, (⟨2, 1, 0, (⟨#[]⟩ : ByteArray)⟩ : S44)⟩ : S46)] : List (S46)))).bind fun bt171 => ((falseworklaw4_num.f bt171.2).bind fun t173 => (if t173 = 0 then (some (bt171.1.toList == ([0, 1, 4, 128, 0, 0, 0, 0, 0, 0, 1] : List UInt8))) else (some false)))) = some r := h
  clear h
  obtain ⟨y168, hy168⟩ : ∃ y_ : List (S46), y_ = (([(⟨1, (⟨2, 1, 0, (⟨#[]⟩ : ByteArray)⟩ : S44)⟩ : S46)] : List (S46))) := ⟨_, rfl⟩
  replace H : ((row_Put.f k y168).bind fun bt171 => ((falseworklaw4_num.f bt171.2).bind fun t173 => (if t173 = 0 then (some (bt171.1.toList == ([0, 1, 4, 128, 0, 0, 0, 0, 0, 0, 1] : List UInt8))) else (some false)))) = some r := by first | (rw [hy168]; with_reducible exact H) | (have H2_ := (Option.bind_some _ _).symm.trans H; rw [hy168]; with_reducible exact H2_) | (have H2_ := (Option.bind_some _ _).symm.trans H; with_reducible exact H2_) | with_reducible exact H | (rw [hy168]; exact H) | exact H
  have Ny168 := Aside0.mk hy168
  clear hy168
  replace H := Option.bind_eq_some_iff.mp H
  obtain ⟨⟨t171, t172⟩, A10, H⟩ := H
  replace H : ((falseworklaw4_num.f t172).bind fun t173 => (if t173 = 0 then (some (t171.toList == ([0, 1, 4, 128, 0, 0, 0, 0, 0, 0, 1] : List UInt8))) else (some false))) = some r := H
  have A1 := Aside0.mk A10
  clear A10
  replace H := Option.bind_eq_some_iff.mp H
  obtain ⟨t173, A20, H⟩ := H
  replace H : (if t173 = 0 then (some (t171.toList == ([0, 1, 4, 128, 0, 0, 0, 0, 0, 0, 1] : List UInt8))) else (some false)) = some r := H
  have A2 := Aside0.mk A20
  clear A20
  by_cases c3 : t173 = 0
  · rw [if_pos c3] at H
    have c3b0 : (t173 == 0) = true := beq_iff_eq.mpr c3
    have c3b1 : (t173 != 0) = false := bne_eq_false_iff_eq.mpr c3
    clear c3
    obtain rfl := Option.some.inj H
    go_enter Try.func10, Try.ntmps10
    go_wp2_with (first | ((with_reducible refine gate_dst (N := 6) rfl ?_); refine Kd.R_lit k46 _ 46 ?hg (N := 6) ?hd (xs := ([(⟨1, (⟨2, 1, 0, (⟨#[]⟩ : ByteArray)⟩ : S44)⟩ : S46)] : List (S46))) (inner := [.int .i64 1, .int .i64 2, .int .i64 1, .int .u64 0, .string (⟨#[]⟩ : ByteArray)]) (ok := fun _ => True) (okp := fun _ => True) ?hr ?hp (fun _ hk => hk) trivial (Below.refl _ _) (Nat.le_refl _) (by simp) ?_; (case hd => rfl); (case hg => rfl); (case hr => first | (go_simp; done) | (go_simp; rfl)); (case hp => exact (Reps.c5 (show Kd.M k46 _ _ _ (⟨1, (⟨2, 1, 0, (⟨#[]⟩ : ByteArray)⟩ : S44)⟩ : S46) [.int .i64 1, .int .i64 2, .int .i64 1, .int .u64 0, .string (⟨#[]⟩ : ByteArray)] from (k46_mkM _ _ _ (⟨1, (⟨2, 1, 0, (⟨#[]⟩ : ByteArray)⟩ : S44)⟩ : S46) )) (Reps.none _ _))); intro v169 w4 ho5 hb hg_ hnew_; clear hg_ hnew_; (first | rw [← Ny168.out] at ho5 | (simp only [Int.reduceToNat] at ho5; rw [← Ny168.out] at ho5)); have n0_ := Aside0.mk (Kd.R_lower ho5 (below_size (by repeat (first | (with_reducible first | exact HB.out | apply below_alloc | apply pw_below_drewN | apply below_drew1) | exact HB.out)))); have n1_ := Aside0.mk (below_step (by repeat (first | (with_reducible first | exact HB.out | apply below_alloc | apply pw_below_drewN | apply below_drew1) | exact HB.out)) hb); clear HB; have HO170 := n0_; have HB := n1_; clear n0_ n1_; clear hb ho5; obtain ⟨Ao6, co6, eo6⟩ := Kd.R_slice HO170.out; subst eo6) | ((with_reducible refine gate_callee (f := 11) rfl ?_); refine goesL_ (some 7) rfl rfl Try.func11 (by kernel_rfl) rfl #[.slice Ao6 y168.length co6] rfl (by (try simp only [List.map_toArray, List.map_cons, List.map_nil]); first | done | rfl | (simp only [List.length_drop, List.length_take]; rfl)) ?_; (with_reducible refine (row_Put.calls k _ _ y168 t171 t172 _ ?side1 ?side2 A1.out).mono ?_); (case side1 => repeat (first | exact (Kd.R_reads' HO170.out).2.2 | (with_reducible refine Kd.C_alloc ?_ _) | (with_reducible refine Kd.C_drewN ?_ _) | (with_reducible refine Kd.C_drew ?_))); (case side2 => exact (Kd.R_reads' HO170.out).2.1); rintro e w7 ⟨rfl, hb⟩; refine ⟨_, rfl, ?_⟩; have n0_ := Aside0.mk (Kd.R_below (by (with_reducible repeat (first | apply Kd.R_alloc | apply Kd.R_drewN | apply Kd.R_drew)); exact HO170.out) hb); have n1_ := Aside0.mk (below_step (by repeat (first | (with_reducible first | exact HB.out | apply below_alloc | apply pw_below_drewN | apply below_drew1) | exact HB.out)) hb); clear HO170; clear HB; have HO170 := n0_; have HB := n1_; clear n0_ n1_; (try clear hb); (try clear hb2); (try clear hk); (try clear hi)) | ((with_reducible refine gate_callee (f := 13) rfl ?_); refine goesL_ (some 11) rfl rfl Try.func13 (by kernel_rfl) rfl #[.int .i64 t172] rfl (by (try simp only [List.map_toArray, List.map_cons, List.map_nil]); first | done | rfl | (simp only [List.length_drop, List.length_take]; rfl)) ?_; (with_reducible refine (falseworklaw4_num.calls t172 t173 _ A2.out).mono ?_); rintro e w' ⟨rfl, ⟨nd, rfl⟩⟩; refine ⟨_, rfl, ?_⟩))
    go_ret
    exact ⟨by first | rfl | (simp [errW_none, errW_some] <;> rfl) | (simp [*, errW_none, errW_some] <;> rfl), by repeat (first | (with_reducible first | exact HB.out | apply below_alloc | apply pw_below_drewN | apply below_drew1) | exact HB.out)⟩
  · rw [if_neg c3] at H
    have c3b0 : (t173 == 0) = false := beq_eq_false_iff_ne.mpr c3
    have c3b1 : (t173 != 0) = true := bne_iff_ne.mpr c3
    obtain rfl := Option.some.inj H
    go_enter Try.func10, Try.ntmps10
    go_wp2_with (first | ((with_reducible refine gate_dst (N := 6) rfl ?_); refine Kd.R_lit k46 _ 46 ?hg (N := 6) ?hd (xs := ([(⟨1, (⟨2, 1, 0, (⟨#[]⟩ : ByteArray)⟩ : S44)⟩ : S46)] : List (S46))) (inner := [.int .i64 1, .int .i64 2, .int .i64 1, .int .u64 0, .string (⟨#[]⟩ : ByteArray)]) (ok := fun _ => True) (okp := fun _ => True) ?hr ?hp (fun _ hk => hk) trivial (Below.refl _ _) (Nat.le_refl _) (by simp) ?_; (case hd => rfl); (case hg => rfl); (case hr => first | (go_simp; done) | (go_simp; rfl)); (case hp => exact (Reps.c5 (show Kd.M k46 _ _ _ (⟨1, (⟨2, 1, 0, (⟨#[]⟩ : ByteArray)⟩ : S44)⟩ : S46) [.int .i64 1, .int .i64 2, .int .i64 1, .int .u64 0, .string (⟨#[]⟩ : ByteArray)] from (k46_mkM _ _ _ (⟨1, (⟨2, 1, 0, (⟨#[]⟩ : ByteArray)⟩ : S44)⟩ : S46) )) (Reps.none _ _))); intro v169 w8 ho9 hb hg_ hnew_; clear hg_ hnew_; (first | rw [← Ny168.out] at ho9 | (simp only [Int.reduceToNat] at ho9; rw [← Ny168.out] at ho9)); have n0_ := Aside0.mk (Kd.R_lower ho9 (below_size (by repeat (first | (with_reducible first | exact HB.out | apply below_alloc | apply pw_below_drewN | apply below_drew1) | exact HB.out)))); have n1_ := Aside0.mk (below_step (by repeat (first | (with_reducible first | exact HB.out | apply below_alloc | apply pw_below_drewN | apply below_drew1) | exact HB.out)) hb); clear HB; have HO170 := n0_; have HB := n1_; clear n0_ n1_; clear hb ho9; obtain ⟨Ao10, co10, eo10⟩ := Kd.R_slice HO170.out; subst eo10) | ((with_reducible refine gate_callee (f := 11) rfl ?_); refine goesL_ (some 7) rfl rfl Try.func11 (by kernel_rfl) rfl #[.slice Ao10 y168.length co10] rfl (by (try simp only [List.map_toArray, List.map_cons, List.map_nil]); first | done | rfl | (simp only [List.length_drop, List.length_take]; rfl)) ?_; (with_reducible refine (row_Put.calls k _ _ y168 t171 t172 _ ?side1 ?side2 A1.out).mono ?_); (case side1 => repeat (first | exact (Kd.R_reads' HO170.out).2.2 | (with_reducible refine Kd.C_alloc ?_ _) | (with_reducible refine Kd.C_drewN ?_ _) | (with_reducible refine Kd.C_drew ?_))); (case side2 => exact (Kd.R_reads' HO170.out).2.1); rintro e w11 ⟨rfl, hb⟩; refine ⟨_, rfl, ?_⟩; have n0_ := Aside0.mk (Kd.R_below (by (with_reducible repeat (first | apply Kd.R_alloc | apply Kd.R_drewN | apply Kd.R_drew)); exact HO170.out) hb); have n1_ := Aside0.mk (below_step (by repeat (first | (with_reducible first | exact HB.out | apply below_alloc | apply pw_below_drewN | apply below_drew1) | exact HB.out)) hb); clear HO170; clear HB; have HO170 := n0_; have HB := n1_; clear n0_ n1_; (try clear hb); (try clear hb2); (try clear hk); (try clear hi)) | ((with_reducible refine gate_callee (f := 13) rfl ?_); refine goesL_ (some 11) rfl rfl Try.func13 (by kernel_rfl) rfl #[.int .i64 t172] rfl (by (try simp only [List.map_toArray, List.map_cons, List.map_nil]); first | done | rfl | (simp only [List.length_drop, List.length_take]; rfl)) ?_; (with_reducible refine (falseworklaw4_num.calls t172 t173 _ A2.out).mono ?_); rintro e w' ⟨rfl, ⟨nd, rfl⟩⟩; refine ⟨_, rfl, ?_⟩))
    go_ret
    exact ⟨by first | rfl | (simp [errW_none, errW_some] <;> rfl) | (simp [*, errW_none, errW_some] <;> rfl), by repeat (first | (with_reducible first | exact HB.out | apply below_alloc | apply pw_below_drewN | apply below_drew1) | exact HB.out)⟩

-- NOT PRINTED: function 26 (api_Cell_26)

/-! ### row_Fill: function 15 -/
/-- Whether a cell is of a column. -/
def row_Fill.is (nm : Int) (x : S46) : Bool := x.f0 == nm
def row_Fill.find (nm : Int) (l : List S46) : Int := match l.findIdx? (row_Fill.is nm) with
  | some i => (i : Int)
  | none => -1
def row_Fill.agg (x : S46) : Value := .agg #[.int .i64 x.f0, .int .i64 x.f1.f0, .int .i64 x.f1.f1, .int .u64 x.f1.f2, .string x.f1.f3]
/-- What a column has. -/
def row_Fill.one (l : List S46) (c : S51) : S44 := if 0 ≤ row_Fill.find c.f0 l then (rd_T46 l (row_Fill.find c.f0 l)).f1 else c.f5
def row_Fill.f (l0 : List (S46)) (l1 : List (S51)) : Option (List (S44)) := if l1.length < 3518437208883 then some (l1.map (row_Fill.one l0)) else none
set_option maxHeartbeats 4000000 in
set_option maxRecDepth 100000 in
theorem row_Fill.clo (x : S46) (nm : Int) (b : Nat) (w : World) (hc : w.cell? ⟨b, 0, none⟩ = some (.int .i64 nm)) (hb : b < w.heap.size) :
    Calls Try.prog 27 #[row_Fill.agg x, .pointer (some ⟨b, 0, none⟩)] w fun e w' => e = .returned (.bool (row_Fill.is nm x)) ∧ Below w.heap.size w w' := by
  have hne : ¬ w.heap.size = b := by omega
  unfold row_Fill.is row_Fill.agg
  go_enter Try.func27, Try.ntmps27
  go_wp2
  repeat (go_quiet (fail); try go_wp2)
  go_ret
  exact ⟨rfl, by repeat (first | (with_reducible first | apply below_alloc | apply pw_below_drewN | apply below_drew1) | exact Below.refl _ _)⟩
theorem row_Fill.find_lt (nm : Int) (l : List S46) : row_Fill.find nm l < (l.length : Int) := by
  unfold row_Fill.find
  cases h : l.findIdx? (row_Fill.is nm) with
  | none => show (-1 : Int) < _; omega
  | some i =>
    have := (List.findIdx?_eq_some_iff_getElem.1 h).1
    show (i : Int) < _; omega
theorem row_Fill.find_hit (nm : Int) (l : List S46) (i : Nat) (hi : i < l.length) (h : row_Fill.is nm l[i] = true) (ha : ∀ j (hj : j < l.length), j < i → row_Fill.is nm l[j] = false) : row_Fill.find nm l = (i : Int) := by
  unfold row_Fill.find
  have : l.findIdx? (row_Fill.is nm) = some i := by
    rw [List.findIdx?_eq_some_iff_getElem]
    exact ⟨hi, h, fun j hji => by have := ha j (by omega) hji; simp [this]⟩
  rw [this]
theorem row_Fill.find_miss (nm : Int) (l : List S46) (ha : ∀ j (hj : j < l.length), row_Fill.is nm l[j] = false) : row_Fill.find nm l = -1 := by
  unfold row_Fill.find
  have : l.findIdx? (row_Fill.is nm) = none := by
    rw [List.findIdx?_eq_none_iff]
    intro x hx
    obtain ⟨j, hj, rfl⟩ := List.getElem_of_mem hx
    exact ha j hj
  rw [this]
set_option maxHeartbeats 8000000 in
set_option maxRecDepth 100000 in
theorem row_Fill.idx (A0 : Option Addr) (c0 : Nat) (l0 : List (S46)) (nm : Int) (b : Nat) (w : World) (hr0 : Kd.C k46 w A0 l0.length l0) (hc : w.cell? ⟨b, 0, none⟩ = some (.int .i64 nm)) (hb : b < w.heap.size):
    Calls Try.prog 26 #[.slice A0 l0.length c0, .func (.func 27) #[] #[.pointer (some ⟨b, 0, none⟩)]] w fun e w' => e = .returned (.int .i64 (row_Fill.find nm l0)) ∧ Below w.heap.size w w' := by
  have HR0 := Aside0.mk hr0
  have HC := Aside0.mk hc
  have HB := Aside0.mk hb
  have HL0 := Aside0.mk hr0.2.1
  clear hr0 hc hb
  go_enter Try.func26, Try.ntmps26
  go_wp2
  go_loopw [5, 8] (fun _ v wr => ∃ x : Int, 0 ≤ x ∧ x ≤ (l0.length : Int) ∧ v = .int .i64 x ∧ Aside0 (∀ i (hi : i < l0.length), (i : Int) < x → row_Fill.is nm l0[i] = false) ∧ Aside0 (Below w.heap.size w wr)) (fun _ v _ => l0.length - (intOf v).toNat)
  case atStart => exact ⟨0, by omega, by omega, rfl, ⟨fun i hi h => by omega⟩, ⟨Below.refl _ _⟩⟩
  case round =>
    obtain ⟨x, h0, h1, rfl, HA, HBW⟩ := hrel
    by_cases hlt : x < (l0.length : Int)
    · have q3 : decide (x < (l0.length : Int)) = true := decide_eq_true (by omega)
      obtain ⟨y, hy⟩ : ∃ y, wrap64 (x + 1) = y := ⟨_, rfl⟩
      have HY := Aside0.mk (show y = x + 1 by have := HL0.out; rw [← hy]; unfold wrap64; omega)
      obtain ⟨ad, e0, x0, x1, x2, x3, x4⟩ := at_T46 (Kd.C_below HR0.out HBW.out) x h0 hlt
      cases e0
      have hcall := fun W (h1 : W.cell? ⟨b, 0, none⟩ = some (.int .i64 nm)) h2 => row_Fill.clo (rd_T46 l0 x) nm b W h1 h2
      have hi : x.toNat < l0.length := by omega
      have hrd : rd_T46 l0 x = l0[x.toNat] := by unfold rd_T46; simp [hi]
      have HRD := Aside0.mk (show ∃ hi : x.toNat < l0.length, rd_T46 l0 x = l0[x.toNat] from ⟨hi, hrd⟩)
      have hcb : wr.cell? ⟨b, 0, none⟩ = some (.int .i64 nm) := (HBW.out.cell (p := ⟨b, 0, none⟩) HB.out).trans HC.out
      have hbb : b < wr.heap.size := Nat.lt_of_lt_of_le HB.out HBW.out.size
      have HCB := Aside0.mk hcb
      have HBB := Aside0.mk hbb
      have HLT := Aside0.mk hlt
      have p6 := eq_true h0
      have q6 := eq_true hlt
      clear hrd hcb hbb hlt hi
      unfold row_Fill.agg at hcall
      cases hq : row_Fill.is nm (rd_T46 l0 x) with
      | true =>
        rw [hq] at hcall
        have HCALL := Aside0.mk hcall
        have HQ := Aside0.mk hq
        clear hcall hq
        go_wp2_with (go_at_call 27; refine (HCALL.out _ HCB.out HBB.out).mono ?_; rintro e w1 ⟨rfl, hb1⟩)
        go_ret
        have := HRD.out
        obtain ⟨hi, hrd⟩ := this
        have hf := row_Fill.find_hit nm l0 x.toNat hi (by rw [← hrd]; exact HQ.out) (fun j hj hji => HA.out j hj (by omega))
        exact ⟨by rw [hf, Int.toNat_of_nonneg (by omega)]; rfl, below_then HBW.out HBW.out.size hb1⟩
      | false =>
        rw [hq] at hcall
        have HCALL := Aside0.mk hcall
        have HQ := Aside0.mk hq
        clear hcall hq
        go_wp2_with (go_at_call 27; refine (HCALL.out _ HCB.out HBB.out).mono ?_; rintro e w1 ⟨rfl, hb1⟩)
        go_roundw
        case rel => exact ⟨y, by have := HY.out; omega, by have := HY.out; have := HLT.out; omega, (by first | rfl | (rw [hy])), ⟨fun i hi hiy => by
          by_cases e : (i : Int) < x
          · exact HA.out i hi e
          · obtain ⟨hi2, hrd⟩ := HRD.out
            have e2 : i = x.toNat := by have := HY.out; omega
            subst e2
            rw [← hrd]; exact HQ.out⟩, ⟨below_then HBW.out HBW.out.size hb1⟩⟩
        case measure => have := HY.out; have := HLT.out; simp [intOf]; omega
    · have q3 : decide (x < (l0.length : Int)) = false := decide_eq_false (by omega)
      have hf := row_Fill.find_miss nm l0 (fun j hj => HA.out j hj (by omega))
      have HFF := Aside0.mk hf
      clear hf hlt
      go_wp2
      go_ret
      exact ⟨by rw [HFF.out]; first | rfl | done, HBW.out⟩
theorem row_Fill.second {wr w1 : World} {a b : Array Value} {s t : TypeId} (h : Below ((wr.alloc (.cells a s)).alloc (.cells b t)).heap.size ((wr.alloc (.cells a s)).alloc (.cells b t)) w1) : w1.heap[wr.heap.size + 1]? = some (.cells b t (0, 0)) := by
  have h2 := blk_below (blk_new (wr.alloc (.cells a s)) (.cells b t)) h
  rw [World.size_alloc] at h2
  exact h2
theorem row_Fill.keep0 {w wr w1 : World} {a b : Array Value} {s t : TypeId} {v : Value} {xs : List S44} (h : Kd.R k44 44 wr w.heap.size (fun _ => True) v xs)
    (hb : Below ((wr.alloc (.cells a s)).alloc (.cells b t)).heap.size ((wr.alloc (.cells a s)).alloc (.cells b t)) w1) : Kd.R k44 44 w1 w.heap.size (fun _ => True) v xs :=
  Kd.R_below (Kd.R_below h (((Below.refl _ _).alloc (Nat.le_refl _) _).alloc (by simp) _)) hb
theorem row_Fill.keep {w wr w1 : World} {a b : Array Value} {s t : TypeId} {v : Value} {xs : List S44} (h : Kd.R k44 44 wr w.heap.size (fun _ => True) v xs)
    (hb : Below ((wr.alloc (.cells a s)).alloc (.cells b t)).heap.size ((wr.alloc (.cells a s)).alloc (.cells b t)) w1) (c0 c1 c2 c3 : Value) :
    Kd.R k44 44 ((((w1.setCell ⟨wr.heap.size + 1, 0, none⟩ c0).setCell ⟨wr.heap.size + 1, 1, none⟩ c1).setCell ⟨wr.heap.size + 1, 2, none⟩ c2).setCell ⟨wr.heap.size + 1, 3, none⟩ c3) w.heap.size (fun _ => True) v xs := by
  have h1 := Kd.R_bound h
  have h2 := Kd.R_below (Kd.R_below h1 (((Below.refl _ wr).alloc (Nat.le_refl _) (.cells a s)).alloc (by simp) (.cells b t))) hb
  have hne : ∀ k, (True ∧ w.heap.size ≤ k ∧ k < wr.heap.size ∧ ∃ q, q ∈ 44 :: (k44).E ∧ ∃ cells, wr.heap[k]? = some (.cells cells q (0, 0))) → k ≠ wr.heap.size + 1 := fun k hk => by have := hk.2.2.1; omega
  exact Kd.R_mono (Kd.R_far (p := ⟨wr.heap.size + 1, 3, none⟩) (Kd.R_far (p := ⟨wr.heap.size + 1, 2, none⟩) (Kd.R_far (p := ⟨wr.heap.size + 1, 1, none⟩) (Kd.R_far (p := ⟨wr.heap.size + 1, 0, none⟩) h2 hne c0) hne c1) hne c2) hne c3) (fun _ _ => trivial)
theorem row_Fill.snoc (l0 : List S46) (l1 : List S51) (x y : Int) (p : S44) (h0 : 0 ≤ x) (hlt : x < (l1.length : Int)) (hy : y = x + 1) (hp : row_Fill.one l0 (rd_T51 l1 x) = p) : (l1.take x.toNat).map (row_Fill.one l0) ++ [p] = (l1.take y.toNat).map (row_Fill.one l0) := by
  have hx : x.toNat < l1.length := by omega
  have hyn : y.toNat = x.toNat + 1 := by omega
  have hr : rd_T51 l1 x = l1[x.toNat] := by unfold rd_T51; simp [hx]
  rw [hyn, List.take_succ_eq_append_getElem hx, List.map_append, ← hr]
  simp [hp]
set_option maxHeartbeats 8000000 in
set_option maxRecDepth 100000 in
theorem row_Fill.calls (A0 : Option Addr) (c0 : Nat) (l0 : List (S46)) (A1 : Option Addr) (c1 : Nat) (l1 : List (S51)) (r : List (S44)) (w : World) (hr0 : Kd.C k46 w A0 l0.length l0) (hc0 : l0.length ≤ c0) (hr1 : Kd.C k51 w A1 l1.length l1) (hc1 : l1.length ≤ c1) (h : row_Fill.f l0 l1 = some r) :
    Calls Try.prog 15 #[.slice A0 l0.length c0, .slice A1 l1.length c1] w fun e w' => ∃ v0_ : Value, e = .returned (v0_) ∧ Kd.R k44 44 w' w.heap.size (fun _ => True) v0_ r ∧ Below w.heap.size w w' := by
  unfold row_Fill.f at h
  by_cases hlim : l1.length < 3518437208883
  · rw [if_pos hlim] at h
    obtain rfl := Option.some.inj h
    have HR0 := Aside0.mk hr0
    have HR1 := Aside0.mk hr1
    have HLIM := Aside0.mk hlim
    have hmf : ∀ (fn : Fn) (first cap : Array Value) (w : World), (Instr.makeFunc fn first cap).run Try.prog w = .ok (.func fn first cap) w := fun _ _ _ _ => rfl
    clear h hr0 hr1 hlim hc0 hc1
    go_enter Try.func15, Try.ntmps15
    go_wp2
    go_loopw [5, 12] (fun v5 v12 wr => ∃ x : Int, 0 ≤ x ∧ x ≤ (l1.length : Int) ∧ v12 = .int .i64 x ∧ Aside0 (Kd.R k44 44 wr w.heap.size (fun _ => True) v5 ((l1.take x.toNat).map (row_Fill.one l0))) ∧ Aside0 (Below w.heap.size w wr)) (fun _ v _ => l1.length - (intOf v).toNat)
    case atStart => exact ⟨0, by omega, by omega, rfl, ⟨Kd.R_nil _ _ _ _ _⟩, ⟨Below.refl _ _⟩⟩
    case round =>
      obtain ⟨x, h0, h1, rfl, HO, HB⟩ := hrel
      by_cases hlt : x < (l1.length : Int)
      · have q3 : decide (x < (l1.length : Int)) = true := decide_eq_true (by omega)
        obtain ⟨y, hy⟩ : ∃ y, wrap64 (x + 1) = y := ⟨_, rfl⟩
        have HY := Aside0.mk (show y = x + 1 by have := HLIM.out; rw [← hy]; unfold wrap64; omega)
        obtain ⟨ad, e0, x0, x1, x2, x3, x4, x5, x6, x7, x8⟩ := at_T51 (Kd.C_below HR1.out HB.out) x h0 hlt
        cases e0
        have p6 := eq_true h0
        have q6 := eq_true hlt
        have HLT := Aside0.mk hlt
        have hidx := fun W (h : Below wr.heap.size wr W) (h2 : W.cell? ⟨wr.heap.size, 0, none⟩ = some (.int .i64 (rd_T51 l1 x).f0)) (h3 : wr.heap.size < W.heap.size) => row_Fill.idx A0 c0 l0 (rd_T51 l1 x).f0 wr.heap.size W (Kd.C_below (Kd.C_below HR0.out HB.out) h) h2 h3
        have hlt2 := row_Fill.find_lt (rd_T51 l1 x).f0 l0
        obtain ⟨i, hi⟩ : ∃ i, row_Fill.find (rd_T51 l1 x).f0 l0 = i := ⟨_, rfl⟩
        rw [hi] at hidx hlt2
        have HI := Aside0.mk hidx
        have HIE := Aside0.mk hi
        have HL2 := Aside0.mk hlt2
        clear hidx hlt hi hlt2
        by_cases hf : 0 ≤ i
        · have hfb : decide (0 ≤ i) = true := decide_eq_true hf
          have p7 := eq_true hf
          have q7 := eq_true HL2.out
          have HF := Aside0.mk hf
          clear hf
          go_wp2_with (first | (go_at_call 26; refine (HI.out _ (by refine ((Below.refl _ _).alloc (Nat.le_refl _) _).alloc (by simp) _) ((blk_cell (blk_alloc (blk_new _ _) _) 0).trans rfl) (by simp; omega)).mono ?_; rintro e w1 ⟨rfl, hb1⟩; have BK := Aside0.mk (row_Fill.second hb1); have HBO := HB; replace HB := Aside0.mk (below_then (below_then HB.out HB.out.size (((Below.refl _ _).alloc (Nat.le_refl _) _).alloc (by simp) _)) (by have := HB.out.size; simp; omega) hb1); obtain ⟨az, e1, z0, z1, z2, z3, z4⟩ := at_T46 (Kd.C_below HR0.out HB.out) i HF.out HL2.out; cases e1; have y0 : w1.cell? ⟨wr.heap.size + 1, 0, none⟩ = some (.int .i64 (rd_T51 l1 x).f5.f0) := (blk_cell BK.out 0).trans rfl; have g0 := blk_frozen BK.out 0; have y1 : w1.cell? ⟨wr.heap.size + 1, 1, none⟩ = some (.int .i64 (rd_T51 l1 x).f5.f1) := (blk_cell BK.out 1).trans rfl; have g1 := blk_frozen BK.out 1; have y2 : w1.cell? ⟨wr.heap.size + 1, 2, none⟩ = some (.int .u64 (rd_T51 l1 x).f5.f2) := (blk_cell BK.out 2).trans rfl; have g2 := blk_frozen BK.out 2; have y3 : w1.cell? ⟨wr.heap.size + 1, 3, none⟩ = some (.string (rd_T51 l1 x).f5.f3) := (blk_cell BK.out 3).trans rfl; have g3 := blk_frozen BK.out 3; have HBW := Aside0.mk (show Below w.heap.size w ((((w1.setCell ⟨wr.heap.size + 1, 0, none⟩ (.int .i64 (rd_T46 l0 i).f1.f0)).setCell ⟨wr.heap.size + 1, 1, none⟩ (.int .i64 (rd_T46 l0 i).f1.f1)).setCell ⟨wr.heap.size + 1, 2, none⟩ (.int .u64 (rd_T46 l0 i).f1.f2)).setCell ⟨wr.heap.size + 1, 3, none⟩ (.string (rd_T46 l0 i).f1.f3)) from below_set (below_set (below_set (below_set HB.out (by have := HBO.out.size; omega)) (by have := HBO.out.size; omega)) (by have := HBO.out.size; omega)) (by have := HBO.out.size; omega)); have HOW := Aside0.mk (row_Fill.keep HO.out hb1 (.int .i64 (rd_T46 l0 i).f1.f0) (.int .i64 (rd_T46 l0 i).f1.f1) (.int .u64 (rd_T46 l0 i).f1.f2) (.string (rd_T46 l0 i).f1.f3))) | ((with_reducible refine gate_builtin (b := .append) (xs := #[.tmp 28, .tmp 30]) rfl ?_); at_builtin; refine Kd.R_append k44 (w0 := w) w.heap.size rfl (.tmp 28) (.tmp 30) 33 44 (.agg #[(.int .i64 0), (.int .i64 0), (.int .u64 0), (.string ⟨#[]⟩)]) 40 rfl Try.underlying33 info44 rfl (by decide) (by omega) u5 ((l1.take x.toNat).map (row_Fill.one l0)) ((rd_T46 l0 i).f1 : S44) [.int .i64 (rd_T46 l0 i).f1.f0, .int .i64 (rd_T46 l0 i).f1.f1, .int .u64 (rd_T46 l0 i).f1.f2, .string (rd_T46 l0 i).f1.f3] (fun _ => True) (fun _ => False) rfl (congrArg (fun n : Nat => Value.slice (some ⟨n, 0, none⟩) 1 1) (show w1.heap.size = ((((w1.setCell ⟨wr.heap.size + 1, 0, none⟩ (.int .i64 (rd_T46 l0 i).f1.f0)).setCell ⟨wr.heap.size + 1, 1, none⟩ (.int .i64 (rd_T46 l0 i).f1.f1)).setCell ⟨wr.heap.size + 1, 2, none⟩ (.int .u64 (rd_T46 l0 i).f1.f2)).setCell ⟨wr.heap.size + 1, 3, none⟩ (.string (rd_T46 l0 i).f1.f3)).heap.size from by simp [World.setCell])) ?aP (fun _ hk => hk.elim) ?aF ?aO ?aB ?aS ?aL ?_; (case aP => exact k44_mkM _ _ _ ((rd_T46 l0 i).f1 : S44)); (case aB => exact HBW.out); (case aF => exact (fun _ _ => trivial)); (case aO => exact HOW.out); (case aS => exact HBW.out.size); (case aL => rw [List.length_map, List.length_take]; have := HLIM.out; omega); intro v2 w2 ho hb hg hat; replace HB := Aside0.mk hb; replace HO := Aside0.mk ho; clear ho hb hg hat))
          go_roundw
          case rel => exact ⟨y, by have := HY.out; omega, by have := HY.out; have := HLT.out; omega, (by first | rfl | (rw [hy])), ⟨by
            have h := HO.out
            rw [show ((l1.take x.toNat).map (row_Fill.one l0) ++ [(rd_T46 l0 i).f1]) = (l1.take y.toNat).map (row_Fill.one l0) from row_Fill.snoc l0 l1 x y _ h0 HLT.out HY.out (by unfold row_Fill.one; rw [HIE.out, if_pos HF.out])] at h
            exact h⟩, HB⟩
          case measure => have := HY.out; have := HLT.out; simp [intOf]; omega
        · have hfb : decide (0 ≤ i) = false := decide_eq_false hf
          have HF := Aside0.mk hf
          clear hf
          go_wp2_with (first | (go_at_call 26; refine (HI.out _ (by refine ((Below.refl _ _).alloc (Nat.le_refl _) _).alloc (by simp) _) ((blk_cell (blk_alloc (blk_new _ _) _) 0).trans rfl) (by simp; omega)).mono ?_; rintro e w1 ⟨rfl, hb1⟩; have BK := Aside0.mk (row_Fill.second hb1); have HBO := HB; replace HB := Aside0.mk (below_then (below_then HB.out HB.out.size (((Below.refl _ _).alloc (Nat.le_refl _) _).alloc (by simp) _)) (by have := HB.out.size; simp; omega) hb1); have y0 : w1.cell? ⟨wr.heap.size + 1, 0, none⟩ = some (.int .i64 (rd_T51 l1 x).f5.f0) := (blk_cell BK.out 0).trans rfl; have g0 := blk_frozen BK.out 0; have y1 : w1.cell? ⟨wr.heap.size + 1, 1, none⟩ = some (.int .i64 (rd_T51 l1 x).f5.f1) := (blk_cell BK.out 1).trans rfl; have g1 := blk_frozen BK.out 1; have y2 : w1.cell? ⟨wr.heap.size + 1, 2, none⟩ = some (.int .u64 (rd_T51 l1 x).f5.f2) := (blk_cell BK.out 2).trans rfl; have g2 := blk_frozen BK.out 2; have y3 : w1.cell? ⟨wr.heap.size + 1, 3, none⟩ = some (.string (rd_T51 l1 x).f5.f3) := (blk_cell BK.out 3).trans rfl; have g3 := blk_frozen BK.out 3; have HBW := HB; have HOW := Aside0.mk (row_Fill.keep0 HO.out hb1)) | ((with_reducible refine gate_builtin (b := .append) (xs := #[.tmp 28, .tmp 30]) rfl ?_); at_builtin; refine Kd.R_append k44 (w0 := w) w.heap.size rfl (.tmp 28) (.tmp 30) 33 44 (.agg #[(.int .i64 0), (.int .i64 0), (.int .u64 0), (.string ⟨#[]⟩)]) 40 rfl Try.underlying33 info44 rfl (by decide) (by omega) u5 ((l1.take x.toNat).map (row_Fill.one l0)) ((rd_T51 l1 x).f5 : S44) [.int .i64 (rd_T51 l1 x).f5.f0, .int .i64 (rd_T51 l1 x).f5.f1, .int .u64 (rd_T51 l1 x).f5.f2, .string (rd_T51 l1 x).f5.f3] (fun _ => True) (fun _ => False) rfl rfl ?aP (fun _ hk => hk.elim) ?aF ?aO ?aB ?aS ?aL ?_; (case aP => exact k44_mkM _ _ _ ((rd_T51 l1 x).f5 : S44)); (case aB => exact HBW.out); (case aF => exact (fun _ _ => trivial)); (case aO => exact HOW.out); (case aS => exact HBW.out.size); (case aL => rw [List.length_map, List.length_take]; have := HLIM.out; omega); intro v2 w2 ho hb hg hat; replace HB := Aside0.mk hb; replace HO := Aside0.mk ho; clear ho hb hg hat))
          go_roundw
          case rel => exact ⟨y, by have := HY.out; omega, by have := HY.out; have := HLT.out; omega, (by first | rfl | (rw [hy])), ⟨by
            have h := HO.out
            rw [show ((l1.take x.toNat).map (row_Fill.one l0) ++ [(rd_T51 l1 x).f5]) = (l1.take y.toNat).map (row_Fill.one l0) from row_Fill.snoc l0 l1 x y _ h0 HLT.out HY.out (by unfold row_Fill.one; rw [HIE.out, if_neg (by have := HF.out; omega)])] at h
            exact h⟩, HB⟩
          case measure => have := HY.out; have := HLT.out; simp [intOf]; omega
      · obtain rfl : x = (l1.length : Int) := by omega
        have ho := HO.out
        rw [Int.toNat_natCast, List.take_length] at ho
        have HO2 := Aside0.mk ho
        clear ho hlt
        go_wp2
        go_ret
        exact ⟨_, rfl, HO2.out, HB.out⟩
  · rw [if_neg hlim] at h; cases h

/-! ### falseworkref4_Same: function 19 -/
def falseworkref4_Same.l0 : Nat → List (S46) → List (S46) → Int → Option (Bool)
  | 0, _, _, _ => none
  | k + 1, x0, x1, x5 => if x5 < (x0.length : Int) then (if 0 ≤ x5 then (if x5 < (x1.length : Int) then (if (!(((rd_T46 x0 x5).f0) == ((rd_T46 x1 x5).f0)) || ((!(((rd_T46 x0 x5).f1.f0) == ((rd_T46 x1 x5).f1.f0)) || (!(((rd_T46 x0 x5).f1.f1) == ((rd_T46 x1 x5).f1.f1)) || (!(((rd_T46 x0 x5).f1.f2) == ((rd_T46 x1 x5).f1.f2)) || (!((((rd_T46 x0 x5).f1.f3).toList) == (((rd_T46 x1 x5).f1.f3).toList)))))))) = true then (some false) else (falseworkref4_Same.l0 k x0 x1 (wrap64 (x5 + 1)))) else (none)) else (none)) else (some true)
def falseworkref4_Same.f (k : Nat) (l0 : List (S46)) (l1 : List (S46)) : Option (Bool) := if (l0.length : Int) = (l1.length : Int) then (falseworkref4_Same.l0 k l0 l1 0) else (some false)
theorem falseworkref4_Same.mono_l : ∀ k, (∀ y0 y1 y2, LeO (falseworkref4_Same.l0 k y0 y1 y2) (falseworkref4_Same.l0 (k + 1) y0 y1 y2))
  | 0 => fun _ _ _ r h => by simp [falseworkref4_Same.l0] at h
  | k + 1 => by
    have ih0 := falseworkref4_Same.mono_l k
    · intro y0 y1 y2
      unfold falseworkref4_Same.l0
      repeat' first
      | (with_reducible exact ih0 _ _ _)
      | (with_reducible exact LeO.refl _)
      | (with_reducible exact LeO.none _)
      | (with_reducible refine LeO.ite ?_ ?_)
      | (with_reducible refine LeO.bind ?_ (fun _ => ?_))
      | exact ih0 _ _ _
      | exact LeO.none _
      | refine LeO.ite ?_ ?_
      | refine LeO.bind ?_ (fun _ => ?_)
theorem falseworkref4_Same.mono : ∀ a0 a1 k, LeO (falseworkref4_Same.f k a0 a1) (falseworkref4_Same.f (k + 1) a0 a1) := by
  intro a0 a1 k
  have ih0 := falseworkref4_Same.mono_l k
  unfold falseworkref4_Same.f
  repeat' first
      | (with_reducible exact ih0 _ _ _)
      | (with_reducible exact LeO.refl _)
      | (with_reducible exact LeO.none _)
      | (with_reducible refine LeO.ite ?_ ?_)
      | (with_reducible refine LeO.bind ?_ (fun _ => ?_))
      | exact ih0 _ _ _
      | exact LeO.none _
      | refine LeO.ite ?_ ?_
      | refine LeO.bind ?_ (fun _ => ?_)
set_option maxHeartbeats 8000000 in
set_option maxRecDepth 100000 in
theorem falseworkref4_Same.calls (k : Nat) (A0 : Option Addr) (c0 : Nat) (l0 : List (S46)) (A1 : Option Addr) (c1 : Nat) (l1 : List (S46)) (r : Bool) (w : World) (hr0 : Kd.C k46 w A0 l0.length l0) (hc0 : l0.length ≤ c0) (hr1 : Kd.C k46 w A1 l1.length l1) (hc1 : l1.length ≤ c1) (h : falseworkref4_Same.f k l0 l1 = some r) :
    Calls Try.prog 19 #[.slice A0 l0.length c0, .slice A1 l1.length c1] w fun e w' => e = .returned (.bool r) ∧ Drawn0 w w' := by
  have hu46 := Try.underlying46
  have HR0 := Aside0.mk hr0
  have HC0 := Aside0.mk hc0
  clear hr0 hc0
  have HR1 := Aside0.mk hr1
  have HC1 := Aside0.mk hc1
  clear hr1 hc1
  have H : (if (l0.length : Int) = (l1.length : Int) then (falseworkref4_Same.l0 k l0 l1 0) else (some false)) = some r := h
  clear h
  by_cases c3 : (l0.length : Int) = (l1.length : Int)
  · rw [if_pos c3] at H
    have c3b0 : ((l0.length : Int) == (l1.length : Int)) = true := beq_iff_eq.mpr c3
    have c3b1 : ((l0.length : Int) != (l1.length : Int)) = false := bne_eq_false_iff_eq.mpr c3
    have c3b2 : (l0.length == l1.length) = true := by first | simpa using c3 | (simp at c3 ⊢; omega)
    clear c3
    have H' := Aside0.mk H
    clear H
    go_enter Try.func19, Try.ntmps19
    go_wp2
    repeat (go_quiet (fail); try go_wp2)
    go_loopg [5] k (fun kq v5 w' => ∃ (x5_1 : Int), v5 = .int .i64 x5_1 ∧ Aside0 (falseworkref4_Same.l0 kq l0 l1 x5_1 = some r) ∧ Aside0 (kq ≤ k) ∧ Drawn0 w w')
    case atStart => exact ⟨(0), (by first | rfl | (simp; done) | (simp [*]; done)), H', ⟨Nat.le_refl _⟩, by repeat (first | exact Drawn0.refl _ | apply Drawn0.step)⟩
    case round =>
      clear H'
      try clear c1
      try clear p2
      try clear c3
      try clear c3b0
      try clear c3b1
      try clear c3b2
      obtain ⟨x5_1, rfl, HA, HK1, ⟨m1, rfl⟩⟩ := hrel
      cases gk with
      | zero => exact absurd HA.out (by simp [falseworkref4_Same.l0])
      | succ k1 =>
        have H := HA.out
        clear HA
        simp only [falseworkref4_Same.l0] at H
        by_cases c4 : x5_1 < (l0.length : Int)
        · rw [if_pos c4] at H
          have c4b0 : decide (x5_1 < (l0.length : Int)) = true := decide_eq_true c4
          clear c4
          by_cases c5 : 0 ≤ x5_1
          · rw [if_pos c5] at H
            have c5b0 : decide (0 ≤ x5_1) = true := decide_eq_true c5
            clear c5
            by_cases c6 : x5_1 < (l1.length : Int)
            · rw [if_pos c6] at H
              have c6b0 : decide (x5_1 < (l1.length : Int)) = true := decide_eq_true c6
              clear c6
              by_cases c7 : (!(((rd_T46 l0 x5_1).f0) == ((rd_T46 l1 x5_1).f0)) || ((!(((rd_T46 l0 x5_1).f1.f0) == ((rd_T46 l1 x5_1).f1.f0)) || (!(((rd_T46 l0 x5_1).f1.f1) == ((rd_T46 l1 x5_1).f1.f1)) || (!(((rd_T46 l0 x5_1).f1.f2) == ((rd_T46 l1 x5_1).f1.f2)) || (!((((rd_T46 l0 x5_1).f1.f3).toList) == (((rd_T46 l1 x5_1).f1.f3).toList)))))))) = true
              · rw [if_pos c7] at H
                have c7b0 : (!(((rd_T46 l0 x5_1).f0) == ((rd_T46 l1 x5_1).f0)) || ((!(((rd_T46 l0 x5_1).f1.f0) == ((rd_T46 l1 x5_1).f1.f0)) || (!(((rd_T46 l0 x5_1).f1.f1) == ((rd_T46 l1 x5_1).f1.f1)) || (!(((rd_T46 l0 x5_1).f1.f2) == ((rd_T46 l1 x5_1).f1.f2)) || (!((((rd_T46 l0 x5_1).f1.f3).toList) == (((rd_T46 l1 x5_1).f1.f3).toList)))))))) = true := c7
                clear c7
                obtain rfl := Option.some.inj H
                have p174 : 0 ≤ (x5_1 : Int) := of_decide_eq_true (by first | (with_reducible assumption) | assumption)
                have q174 : x5_1 < (l0.length : Int) := of_decide_eq_true (by first | (with_reducible assumption) | assumption)
                obtain ⟨ad174, e174, hx174_0, hx174_1, hx174_2, hx174_3, hx174_4⟩ := at_T46 HR0.out x5_1 p174 q174
                cases e174
                replace p174 := eq_true p174
                replace q174 := eq_true q174
                have p175 : 0 ≤ (x5_1 : Int) := of_decide_eq_true (by first | (with_reducible assumption) | assumption)
                have q175 : x5_1 < (l1.length : Int) := of_decide_eq_true (by first | (with_reducible assumption) | assumption)
                obtain ⟨ad175, e175, hx175_0, hx175_1, hx175_2, hx175_3, hx175_4⟩ := at_T46 HR1.out x5_1 p175 q175
                cases e175
                replace p175 := eq_true p175
                replace q175 := eq_true q175
                go_wp2
                repeat (go_quiet (fail); try go_wp2)
                go_ret
                exact ⟨by first | rfl | (simp; done) | (simp [*]; done), by repeat (first | exact Drawn0.refl _ | apply Drawn0.step)⟩
              · rw [if_neg c7] at H
                have c7b0 : (!(((rd_T46 l0 x5_1).f0) == ((rd_T46 l1 x5_1).f0)) || ((!(((rd_T46 l0 x5_1).f1.f0) == ((rd_T46 l1 x5_1).f1.f0)) || (!(((rd_T46 l0 x5_1).f1.f1) == ((rd_T46 l1 x5_1).f1.f1)) || (!(((rd_T46 l0 x5_1).f1.f2) == ((rd_T46 l1 x5_1).f1.f2)) || (!((((rd_T46 l0 x5_1).f1.f3).toList) == (((rd_T46 l1 x5_1).f1.f3).toList)))))))) = false := by simpa using c7
                clear c7
                have H' := Aside0.mk H
                clear H
                have p174 : 0 ≤ (x5_1 : Int) := of_decide_eq_true (by first | (with_reducible assumption) | assumption)
                have q174 : x5_1 < (l0.length : Int) := of_decide_eq_true (by first | (with_reducible assumption) | assumption)
                obtain ⟨ad174, e174, hx174_0, hx174_1, hx174_2, hx174_3, hx174_4⟩ := at_T46 HR0.out x5_1 p174 q174
                cases e174
                replace p174 := eq_true p174
                replace q174 := eq_true q174
                have p175 : 0 ≤ (x5_1 : Int) := of_decide_eq_true (by first | (with_reducible assumption) | assumption)
                have q175 : x5_1 < (l1.length : Int) := of_decide_eq_true (by first | (with_reducible assumption) | assumption)
                obtain ⟨ad175, e175, hx175_0, hx175_1, hx175_2, hx175_3, hx175_4⟩ := at_T46 HR1.out x5_1 p175 q175
                cases e175
                replace p175 := eq_true p175
                replace q175 := eq_true q175
                go_wp2
                repeat (go_quiet (fail); try go_wp2)
                go_roundg k1
                case measure => have := HK1.out; omega
                case rel => exact ⟨(wrap64 (x5_1 + 1)), (by first | rfl | (simp; done) | (simp [*]; done)), H', ⟨by have := HK1.out; omega⟩, by repeat (first | exact Drawn0.refl _ | apply Drawn0.step)⟩
            · rw [if_neg c6] at H
              exact absurd H (by simp)
          · rw [if_neg c5] at H
            exact absurd H (by simp)
        · rw [if_neg c4] at H
          have c4b0 : decide (x5_1 < (l0.length : Int)) = false := decide_eq_false c4
          clear c4
          obtain rfl := Option.some.inj H
          go_wp2
          repeat (go_quiet (fail); try go_wp2)
          go_ret
          exact ⟨by first | rfl | (simp; done) | (simp [*]; done), by repeat (first | exact Drawn0.refl _ | apply Drawn0.step)⟩
  · rw [if_neg c3] at H
    have c3b0 : ((l0.length : Int) == (l1.length : Int)) = false := beq_eq_false_iff_ne.mpr c3
    have c3b1 : ((l0.length : Int) != (l1.length : Int)) = true := bne_iff_ne.mpr c3
    have c3b2 : (l0.length == l1.length) = false := by first | simpa using c3 | (simp at c3 ⊢; omega)
    obtain rfl := Option.some.inj H
    go_enter Try.func19, Try.ntmps19
    go_wp2
    repeat (go_quiet (fail); try go_wp2)
    go_ret
    exact ⟨by first | rfl | (simp; done) | (simp [*]; done), by repeat (first | exact Drawn0.refl _ | apply Drawn0.step)⟩

-- NOT PRINTED: function 33 (api_Cell_33)

-- NOT PRINTED: function 34 (api_Cell_34)

end Go.Proofs.Ytebfilljdnhccaa.PA
