/- Contracts of the Go functions of this seat: what each call returns is what a Lean function of its arguments says; each theorem bears its own conditions. Written by a program of this session (wip/tools/mkprint.py). -/
import Derived.Test.YtebfilljdnhccaaRTx0
namespace Go.Proofs.Ytebfilljdnhccaa.PA
open Go.RowKit Go.Proofs.YtebfilljdnhccaaW.PrintWords Go.Proofs.YtebfilljdnhccaaW.PrintLast Go.Proofs.YtebfilljdnhccaaW.PrintMore
attribute [local go_sem] max2_int min2_int max_two min_two max_three min_three max_four min_four   -- for this text's walks alone
set_option linter.unusedVariables false
set_option linter.unusedSimpArgs false

attribute [local go_sem ↓ high] unary_xor_u64 ux_if_u64
attribute [local go_sem] str_gtr str_leq str_geq
/-! ### row_Without: function 21 -/
/-- Whether a cell is of a column. -/
def row_Without.is (nm : Int) (x : S46) : Bool := x.f0 == nm
def row_Without.find (nm : Int) (l : List S46) : Int := match l.findIdx? (row_Without.is nm) with
  | some i => (i : Int)
  | none => -1
def row_Without.agg (x : S46) : Value := .agg #[.int .i64 x.f0, .int .i64 x.f1.f0, .int .i64 x.f1.f1, .int .u64 x.f1.f2, .string x.f1.f3]
def row_Without.f (l0 : List (S46)) (a1 : Int) : Option (List (S46)) := if l0.length < 1000000 then some (l0.filter fun c => !(row_Without.is a1 c)) else none
set_option maxHeartbeats 4000000 in
set_option maxRecDepth 100000 in
theorem row_Without.clo (x : S46) (nm : Int) (b : Nat) (w : World) (hc : w.cell? ⟨b, 0, none⟩ = some (.int .i64 nm)) (hb : b < w.heap.size) :
    Calls Try.prog 35 #[row_Without.agg x, .pointer (some ⟨b, 0, none⟩)] w fun e w' => e = .returned (.bool (row_Without.is nm x)) ∧ Below w.heap.size w w' := by
  have hne : ¬ w.heap.size = b := by omega
  unfold row_Without.is row_Without.agg
  go_enter Try.func35, Try.ntmps35
  go_wp2
  repeat (go_quiet (fail); try go_wp2)
  go_ret
  exact ⟨rfl, by repeat (first | (with_reducible first | apply below_alloc | apply pw_below_drewN | apply below_drew1) | exact Below.refl _ _)⟩
theorem row_Without.find_lt (nm : Int) (l : List S46) : row_Without.find nm l < (l.length : Int) := by
  unfold row_Without.find
  cases h : l.findIdx? (row_Without.is nm) with
  | none => show (-1 : Int) < _; omega
  | some i =>
    have := (List.findIdx?_eq_some_iff_getElem.1 h).1
    show (i : Int) < _; omega
theorem row_Without.find_hit (nm : Int) (l : List S46) (i : Nat) (hi : i < l.length) (h : row_Without.is nm l[i] = true) (ha : ∀ j (hj : j < l.length), j < i → row_Without.is nm l[j] = false) : row_Without.find nm l = (i : Int) := by
  unfold row_Without.find
  have : l.findIdx? (row_Without.is nm) = some i := by
    rw [List.findIdx?_eq_some_iff_getElem]
    exact ⟨hi, h, fun j hji => by have := ha j (by omega) hji; simp [this]⟩
  rw [this]
theorem row_Without.find_miss (nm : Int) (l : List S46) (ha : ∀ j (hj : j < l.length), row_Without.is nm l[j] = false) : row_Without.find nm l = -1 := by
  unfold row_Without.find
  have : l.findIdx? (row_Without.is nm) = none := by
    rw [List.findIdx?_eq_none_iff]
    intro x hx
    obtain ⟨j, hj, rfl⟩ := List.getElem_of_mem hx
    exact ha j hj
  rw [this]
set_option maxHeartbeats 8000000 in
set_option maxRecDepth 100000 in
theorem row_Without.idx (A0 : Option Addr) (c0 : Nat) (l0 : List (S46)) (nm : Int) (b : Nat) (w : World) (hr0 : Kd.C k46 w A0 l0.length l0) (hc : w.cell? ⟨b, 0, none⟩ = some (.int .i64 nm)) (hb : b < w.heap.size):
    Calls Try.prog 26 #[.slice A0 l0.length c0, .func (.func 35) #[] #[.pointer (some ⟨b, 0, none⟩)]] w fun e w' => e = .returned (.int .i64 (row_Without.find nm l0)) ∧ Below w.heap.size w w' := by
  have HR0 := Aside0.mk hr0
  have HC := Aside0.mk hc
  have HB := Aside0.mk hb
  have HL0 := Aside0.mk hr0.2.1
  clear hr0 hc hb
  go_enter Try.func26, Try.ntmps26
  go_wp2
  go_loopw [5, 8] (fun _ v wr => ∃ x : Int, 0 ≤ x ∧ x ≤ (l0.length : Int) ∧ v = .int .i64 x ∧ Aside0 (∀ i (hi : i < l0.length), (i : Int) < x → row_Without.is nm l0[i] = false) ∧ Aside0 (Below w.heap.size w wr)) (fun _ v _ => l0.length - (intOf v).toNat)
  case atStart => exact ⟨0, by omega, by omega, rfl, ⟨fun i hi h => by omega⟩, ⟨Below.refl _ _⟩⟩
  case round =>
    obtain ⟨x, h0, h1, rfl, HA, HBW⟩ := hrel
    by_cases hlt : x < (l0.length : Int)
    · have q3 : decide (x < (l0.length : Int)) = true := decide_eq_true (by omega)
      obtain ⟨y, hy⟩ : ∃ y, wrap64 (x + 1) = y := ⟨_, rfl⟩
      have HY := Aside0.mk (show y = x + 1 by have := HL0.out; rw [← hy]; unfold wrap64; omega)
      obtain ⟨ad, e0, x0, x1, x2, x3, x4⟩ := at_T46 (Kd.C_below HR0.out HBW.out) x h0 hlt
      cases e0
      have hcall := fun W (h1 : W.cell? ⟨b, 0, none⟩ = some (.int .i64 nm)) h2 => row_Without.clo (rd_T46 l0 x) nm b W h1 h2
      have hi : x.toNat < l0.length := by omega
      have hrd : rd_T46 l0 x = l0[x.toNat] := by unfold rd_T46; simp [hi]
      have HRD := Aside0.mk (show ∃ hi : x.toNat < l0.length, rd_T46 l0 x = l0[x.toNat] from ⟨hi, hrd⟩)
      have hcb : wr.cell? ⟨b, 0, none⟩ = some (.int .i64 nm) := (HBW.out.cell (p := ⟨b, 0, none⟩) HB.out).trans HC.out
      have hbb : b < wr.heap.size := Nat.lt_of_lt_of_le HB.out HBW.out.size
      have HCB := Aside0.mk hcb
      have HBB := Aside0.mk hbb
      have HLT := Aside0.mk hlt
      have p6 := eq_true h0
      have q6 := eq_true hlt
      clear hrd hcb hbb hlt hi
      unfold row_Without.agg at hcall
      cases hq : row_Without.is nm (rd_T46 l0 x) with
      | true =>
        rw [hq] at hcall
        have HCALL := Aside0.mk hcall
        have HQ := Aside0.mk hq
        clear hcall hq
        go_wp2_with (go_at_call 35; refine (HCALL.out _ HCB.out HBB.out).mono ?_; rintro e w1 ⟨rfl, hb1⟩)
        go_ret
        have := HRD.out
        obtain ⟨hi, hrd⟩ := this
        have hf := row_Without.find_hit nm l0 x.toNat hi (by rw [← hrd]; exact HQ.out) (fun j hj hji => HA.out j hj (by omega))
        exact ⟨by rw [hf, Int.toNat_of_nonneg (by omega)]; rfl, below_then HBW.out HBW.out.size hb1⟩
      | false =>
        rw [hq] at hcall
        have HCALL := Aside0.mk hcall
        have HQ := Aside0.mk hq
        clear hcall hq
        go_wp2_with (go_at_call 35; refine (HCALL.out _ HCB.out HBB.out).mono ?_; rintro e w1 ⟨rfl, hb1⟩)
        go_roundw
        case rel => exact ⟨y, by have := HY.out; omega, by have := HY.out; have := HLT.out; omega, (by first | rfl | (rw [hy])), ⟨fun i hi hiy => by
          by_cases e : (i : Int) < x
          · exact HA.out i hi e
          · obtain ⟨hi2, hrd⟩ := HRD.out
            have e2 : i = x.toNat := by have := HY.out; omega
            subst e2
            rw [← hrd]; exact HQ.out⟩, ⟨below_then HBW.out HBW.out.size hb1⟩⟩
        case measure => have := HY.out; have := HLT.out; simp [intOf]; omega
    · have q3 : decide (x < (l0.length : Int)) = false := decide_eq_false (by omega)
      have hf := row_Without.find_miss nm l0 (fun j hj => HA.out j hj (by omega))
      have HFF := Aside0.mk hf
      clear hf hlt
      go_wp2
      go_ret
      exact ⟨by rw [HFF.out]; first | rfl | done, HBW.out⟩
set_option maxHeartbeats 4000000 in
set_option maxRecDepth 100000 in
theorem row_Without.clone (A0 : Option Addr) (c0 : Nat) (l0 : List (S46)) (w : World) (hr0 : Kd.C k46 w A0 l0.length l0) (hlim : l0.length < 1000000) :
    Calls Try.prog 34 #[.slice A0 l0.length c0] w fun e w' => ∃ v0_ : Value, e = .returned (v0_) ∧ Kd.R k46 46 w' w.heap.size (fun _ => True) v0_ l0 ∧ Below w.heap.size w w' := by
  have qT : ∀ (w : World) (a : Option Addr) (n c n' c' : Nat), (binOp .eql 22 (.slice a n c) (.slice none n' c')).run Try.prog w = .ok (.bool a.isNone) w := fun w a n c n' c' => Lib.run_eql_slice_nil w _ _ a n c n' c' Try.underlying22
  have HR0 := Aside0.mk hr0
  have HL := Aside0.mk hlim
  clear hlim
  cases A0 with
  | none =>
    have e : l0 = [] := by
      cases l0 with
      | nil => rfl
      | cons x r =>
        obtain ⟨ad, e, _⟩ := at_T46 hr0 0 (by omega) (by simp)
        cases e
    subst e
    clear hr0
    go_enter Try.func34, Try.ntmps34
    go_wp2
    go_ret
    exact ⟨_, rfl, Kd.R_nil _ _ _ _ _, Below.refl _ _⟩
  | some ad =>
    clear hr0
    go_enter Try.func34, Try.ntmps34
    go_wp2_with (first | ((with_reducible refine gate_dst (N := 5) rfl ?_); refine Kd.R_lit k46 (w0 := w) w.heap.size 46 ?hg (N := 5) ?hd (xs := ([] : List (S46))) (inner := []) (ok := fun _ => True) (okp := fun _ => True) ?hr ?hp (fun _ hk => hk) trivial (Below.refl _ _) (Nat.le_refl _) (by simp) ?_; (case hd => rfl); (case hg => rfl); (case hr => first | (go_simp; done) | (go_simp; rfl)); (case hp => exact (Reps.none _ _)); intro v1 w1 ho hb hg_ hnew_; have HO := Aside0.mk ho; have HB := Aside0.mk hb; clear ho hb hg_ hnew_) | ((with_reducible refine gate_builtin (b := .append) (xs := #[.tmp 5, .tmp 6]) rfl ?_); at_builtin; refine Kd.R_append_rows k46 (w0 := w) w.heap.size rfl (.tmp 5) (.tmp 6) 22 46 (.agg #[(.int .i64 0), (.int .i64 0), (.int .i64 0), (.int .u64 0), (.string ⟨#[]⟩)]) 48 rfl Try.underlying22 info46 rfl (by decide) (by omega) v1 [] l0 _ _ _ (fun _ => True) (fun _ => False) rfl rfl HO.out (Kd.C_below HR0.out HB.out) (fun _ _ h => h) (fun _ h => h.elim) (fun _ _ => trivial) HB.out HB.out.size (by have := HL.out; simp; omega) ?_; intro v2 w2 ho hb hg hat; have HO2 := Aside0.mk ho; have HB2 := Aside0.mk hb; clear ho hb hg hat))
    go_ret
    exact ⟨_, rfl, HO2.out, HB2.out⟩
theorem row_Without.less {j n : Nat} {y : Int} (hy : wrap64 ((j : Int) + 1) = y) (h : y = ((j + 1 : Nat) : Int)) (hlt : j < n) : n - (intOf (.int .i64 (wrap64 ((j : Int) + 1)))).toNat < n - (intOf (.int .i64 (j : Int))).toNat := by
  rw [hy, h]
  clear hy h
  show n - (((j + 1 : Nat) : Int)).toNat < n - ((j : Int)).toNat
  rw [Int.toNat_natCast, Int.toNat_natCast]
  omega
theorem row_Without.set_take {α : Type} (ys : List α) (i : Nat) (x : α) (h : i < ys.length) : (ys.set i x).take (i + 1) = ys.take i ++ [x] := by
  rw [List.take_add_one, List.getElem?_set_self h, List.take_set, List.set_eq_of_length_le (by rw [List.length_take]; omega)]
  rfl
theorem row_Without.five {W : World} {g o : Nat} {a b c d e : Value} (h0 : W.cell? ⟨g, o, none⟩ = some a) (h1 : W.cell? ⟨g, o + 1, none⟩ = some b) (h2 : W.cell? ⟨g, o + 2, none⟩ = some c) (h3 : W.cell? ⟨g, o + 3, none⟩ = some d) (h4 : W.cell? ⟨g, o + 4, none⟩ = some e) : ∀ j u, [a, b, c, d, e][j]? = some u → W.cell? ⟨g, o + j, none⟩ = some u
  | 0, _, h => by cases h; exact h0
  | 1, _, h => by cases h; exact h1
  | 2, _, h => by cases h; exact h2
  | 3, _, h => by cases h; exact h3
  | 4, _, h => by cases h; exact h4
  | _ + 5, _, h => by cases h
theorem row_Without.add0 (g k : Nat) : (⟨g, 0, none⟩ : Addr).add k = ⟨g, k, none⟩ := by unfold Addr.add; split <;> simp_all
theorem row_Without.keep_all (nm : Int) (l : List S46) (h : row_Without.find nm l = -1) : l.filter (fun c => !(row_Without.is nm c)) = l := by
  unfold row_Without.find at h
  cases hf : l.findIdx? (row_Without.is nm) with
  | some i => rw [hf] at h; have h : (i : Int) = -1 := h; omega
  | none =>
    rw [List.findIdx?_eq_none_iff] at hf
    exact List.filter_eq_self.2 (fun x hx => by rw [hf x hx]; rfl)
/-- What is first found. -/
theorem row_Without.found (nm : Int) (l : List S46) (i : Int) (h : row_Without.find nm l = i) (hm : ¬ i = -1) : ∃ k : Nat, i = (k : Int) ∧ k < l.length ∧ (l.take k).filter (fun c => !(row_Without.is nm c)) = l.take k ∧ (l.take (k + 1)).filter (fun c => !(row_Without.is nm c)) = l.take k := by
  unfold row_Without.find at h
  cases hf : l.findIdx? (row_Without.is nm) with
  | none => rw [hf] at h; exact absurd h.symm hm
  | some k =>
    rw [hf] at h
    have h : (k : Int) = i := h
    obtain ⟨hk, hp, ha⟩ := List.findIdx?_eq_some_iff_getElem.1 hf
    have e : (l.take k).filter (fun c => !(row_Without.is nm c)) = l.take k := List.filter_eq_self.2 (fun x hx => by
      obtain ⟨j, hj, rfl⟩ := List.getElem_of_mem hx
      have hjk : j < k := by rw [List.length_take] at hj; omega
      have := ha j hjk
      rw [List.getElem_take]
      simpa using this)
    refine ⟨k, h.symm, hk, e, ?_⟩
    rw [List.take_succ_eq_append_getElem hk, List.filter_append, e]
    simp [hp]
theorem row_Without.shape {w : World} {base : Nat} {ok : Nat → Prop} {v : Value} {xs : List S46} (h : Kd.R k46 46 w base ok v xs) (h0 : 0 < xs.length) : ∃ g c, v = .slice (some ⟨g, 0, none⟩) xs.length c ∧ base ≤ g ∧ xs.length ≤ c ∧ ∃ cur, w.heap[g]? = some (.cells cur 46 (0, 0)) ∧ cur.size = c * 5 := by
  obtain ⟨_, inner, ho, _⟩ := h
  rcases ho.2 with ⟨_, h⟩ | ⟨g, cap, cur, h, hb, hh, hn, _, hs, _⟩
  · omega
  · exact ⟨g, cap, h, hb, hn, cur, hh, hs⟩
/-- The first part of an own row stays where cells behind it are stored. -/
theorem row_Without.R_behind {W : World} {base g n cap i : Nat} {xs : List S46} (h : Kd.R k46 46 W base (fun _ => True) (.slice (some ⟨g, 0, none⟩) n cap) xs) (hi : i ≤ xs.length) (vs : List Value) (o : Nat) (ho : i * 5 ≤ o) (hl : o + vs.length ≤ cap * 5) :
    Kd.R k46 46 (W.setCells g o vs) base (fun _ => True) (.slice (some ⟨g, 0, none⟩) i cap) (xs.take i) ∧ W.grownBy (W.setCells g o vs) (some g) := by
  obtain ⟨_, inner, hown, hr⟩ := Kd.R_take h hi
  have hg : W.grownBy (W.setCells g o vs) (some g) := by
    obtain ⟨h1, h2, h3, h4⟩ := setCells_same g vs o W
    exact ⟨h1, h2, h3, by rw [h4]; exact Nat.le_refl _, fun k _ hk => setCells_far vs o k (fun e => hk (by rw [e]))⟩
  refine ⟨⟨fun _ _ => trivial, inner, ⟨hown.1, ?_⟩, ?_⟩, hg⟩
  · rcases hown.2 with ⟨hv, _⟩ | ⟨g', cap', cur, hv, hb, hh, hnc, hcm, hcs, ht⟩
    · cases hv
    · injection hv with ha _ hc
      injection ha with ha
      injection ha with hg'
      subst hg'
      subst hc
      obtain ⟨cur', h1, h2, h3⟩ := setCells_row vs o W cur hh (by rw [hcs]; exact hl)
      have hlen : (xs.take i).length = i := by rw [List.length_take]; omega
      refine .inr ⟨g, cap, cur', by rw [hlen], hb, h1, hnc, hcm, h2.trans hcs, ?_⟩
      rw [← ht, h3]
      rw [hlen]
      have hcl : cur.toList.length = cap * 5 := by rw [Array.length_toList]; exact hcs
      have h5 : (k46).sz = 5 := rfl
      rw [h5, List.append_assoc, List.take_append_of_le_length (by rw [List.length_take]; omega), List.take_take, Nat.min_eq_left ho]
  · exact hr.imp_ (fun x cs hx => by
      have e := k46_openM hx
      subst e
      exact k46_mkM _ _ _ x)
theorem row_Without.zeros5 (n : Nat) : (Builtin.zeroCells (Value.agg #[(.int .i64 0), (.int .i64 0), (.int .i64 0), (.int .u64 0), (.string ⟨#[]⟩)]).cells n).toList.length = n * 5 ∧ ∀ q ∈ (Builtin.zeroCells (Value.agg #[(.int .i64 0), (.int .i64 0), (.int .i64 0), (.int .u64 0), (.string ⟨#[]⟩)]).cells n).toList, q.oneCell' = true := by
  refine ⟨by rw [Array.length_toList, size_zeroCells]; rfl, fun q hq => ?_⟩
  simp only [Builtin.zeroCells, Array.toList_map, List.mem_map] at hq
  obtain ⟨j, _, rfl⟩ := hq
  have hj : j % 5 < 5 := Nat.mod_lt _ (by decide)
  show (#[(Value.int .i64 0), (.int .i64 0), (.int .i64 0), (.int .u64 0), (.string ⟨#[]⟩)][j % 5]!).oneCell' = true
  generalize j % 5 = m at hj
  match m, hj with
  | 0, _ => rfl
  | 1, _ => rfl
  | 2, _ => rfl
  | 3, _ => rfl
  | 4, _ => rfl
theorem row_Without.run_clear (w : World) (ty : TypeId) (g o n c : Nat) {cur : Array Value} (hh : w.heap[g]? = some (.cells cur 46 (0, 0))) (hf : o + n * 5 ≤ cur.size) :
    (Builtin.clear_ #[22] ty #[.slice (some ⟨g, o, none⟩) n c]).run Try.prog w = .ok (.tuple #[]) (w.setCells g o (Builtin.zeroCells (Value.agg #[(.int .i64 0), (.int .i64 0), (.int .i64 0), (.int .u64 0), (.string ⟨#[]⟩)]).cells n).toList) := by
  have hz : ∀ w, (zeroValue 46).run Try.prog w = .ok (Value.agg #[(.int .i64 0), (.int .i64 0), (.int .i64 0), (.int .u64 0), (.string ⟨#[]⟩)]) w := fun _ => by go_simp
  obtain ⟨hl, h1⟩ := row_Without.zeros5 n
  cases n with
  | zero =>
    simp [Builtin.clear_, run_underlying Try.underlying22, Builtin.zeroCells, World.setCells]
  | succ n =>
    have hst := run_storeCells_cells (P := Try.prog) g o _ 0 w (fun j hj => by rw [cell_of_row w g _ cur 46 (0, 0) hh]; simp; omega) (fun j _ => blk_frozen hh _) h1
    simp only [Nat.add_zero] at hst
    simp only [Builtin.clear_, run_underlying Try.underlying22]
    simp [run_underlying Try.underlying22, hz, hst]
set_option maxHeartbeats 8000000 in
set_option maxRecDepth 100000 in
theorem row_Without.del (l0 : List (S46)) (nm : Int) (v : Value) (b base : Nat) (w : World) (hr : Kd.R k46 46 w base (fun _ => True) v l0) (hb : w.heap[b]? = some (.cells #[.int .i64 nm] 3 (0, 0))) (hlim : l0.length < 1000000) (hbase : base ≤ w.heap.size):
    Calls Try.prog 33 #[v, .func (.func 35) #[] #[.pointer (some ⟨b, 0, none⟩)]] w fun e w' => ∃ v0_ : Value, e = .returned (v0_) ∧ Kd.R k46 46 w' base (fun _ => True) v0_ (l0.filter fun c => !(row_Without.is nm c)) ∧ Below base w w' := by
  obtain ⟨A, cc, rfl, hcc, hC⟩ := Kd.R_reads hr
  have hlt := row_Without.find_lt nm l0
  have hidx := row_Without.idx A cc l0 nm b w hC ((blk_cell hb 0).trans rfl) (blk_lt hb)
  obtain ⟨i0, hi0⟩ : ∃ i, row_Without.find nm l0 = i := ⟨_, rfl⟩
  have HIE := Aside0.mk hi0
  rw [hi0] at hidx hlt
  have HIDX := Aside0.mk hidx
  have HR := Aside0.mk hr
  have HBK := Aside0.mk hb
  have HL := Aside0.mk hlim
  have HBS := Aside0.mk hbase
  clear hidx hr hb hlim hC hbase
  by_cases hm : i0 = -1
  · have hmb : (i0 == -1) = true := beq_iff_eq.mpr hm
    have HM := Aside0.mk hm
    clear hm hlt
    go_enter Try.func33, Try.ntmps33
    go_wp2_with (go_at_call 26; refine HIDX.out.mono ?_; rintro e w1 ⟨rfl, hb1⟩)
    go_ret
    have hf : l0.filter (fun c => !(row_Without.is nm c)) = l0 := row_Without.keep_all nm l0 (HIE.out.trans HM.out)
    exact ⟨_, rfl, by rw [hf]; exact Kd.R_below HR.out hb1, hb1.mono HBS.out⟩
  · have hmb : (i0 == -1) = false := beq_eq_false_iff_ne.mpr hm
    obtain ⟨k0, rfl, hk0, hf0, hf1⟩ := row_Without.found nm l0 i0 HIE.out hm
    obtain ⟨g, cc', hv, hbg, hnc, _⟩ := row_Without.shape HR.out (by omega)
    injection hv with hv1 _ hv2
    subst hv1
    subst hv2
    obtain ⟨y0, hy0⟩ : ∃ y, wrap64 ((k0 : Int) + 1) = y := ⟨_, rfl⟩
    have HY0 := Aside0.mk (show y0 = ((k0 + 1 : Nat) : Int) by have := HL.out; rw [← hy0]; unfold wrap64; omega)
    have HYE := Aside0.mk hy0
    clear hy0
    have HK := Aside0.mk hk0
    have HF1 := Aside0.mk hf1
    have HCC := Aside0.mk hnc
    have HBG := Aside0.mk hbg
    have hnb : b ≠ g := by
      have := Kd.R_ne HR.out HBK.out (by decide)
      intro e
      exact this (by rw [e]; rfl)
    have HNB := Aside0.mk hnb
    clear hm hlt hf0 hf1 hk0 hbg hnc hcc hnb
    go_enter Try.func33, Try.ntmps33
    go_wp2_with (go_at_call 26; refine HIDX.out.mono ?_; rintro e w1 ⟨rfl, hb1⟩; have HB1 := Aside0.mk (hb1.mono HBS.out); have HR1 := Aside0.mk (Kd.R_below HR.out hb1); have HBK1 := Aside0.mk (blk_below HBK.out hb1); clear hb1)
    go_loopw [5, 6] (fun v5 v6 wr => ∃ (i j : Nat) (ys : List S46), v5 = .int .i64 (i : Int) ∧ v6 = .int .i64 (j : Int) ∧ i < j ∧ j ≤ l0.length ∧ Aside0 (ys.length = l0.length) ∧ Aside0 (ys.take i = (l0.take j).filter fun c => !(row_Without.is nm c)) ∧ Aside0 (ys.drop j = l0.drop j) ∧ Aside0 (Kd.R k46 46 wr base (fun _ => True) (.slice (some ⟨g, 0, none⟩) l0.length cc) ys) ∧ Aside0 (wr.heap[b]? = some (.cells #[.int .i64 nm] 3 (0, 0))) ∧ Aside0 (Below base w wr)) (fun _ v _ => l0.length - (intOf v).toNat)
    case atStart => exact ⟨k0, k0 + 1, l0, rfl, by rw [← HY0.out, ← HYE.out], by omega, HK.out, ⟨rfl⟩, ⟨by rw [HF1.out]⟩, ⟨rfl⟩, HR1, HBK1, HB1⟩
    case round =>
      obtain ⟨i, j, ys, rfl, rfl, hij, hjl, HYL, HT, HD, HO, HBR, HB⟩ := hrel
      obtain ⟨hyn, _, hC⟩ := Kd.R_reads' HO.out
      by_cases hlt : j < l0.length
      · have q3 : decide ((j : Int) < (l0.length : Int)) = true := decide_eq_true (by omega)
        have hI0 := Aside0.mk (show (0 : Int) ≤ (i : Int) by omega)
        have hIL := Aside0.mk (show (i : Int) < (l0.length : Int) by omega)
        have hJY := Aside0.mk (show (j : Int) < (ys.length : Int) by have := HYL.out; omega)
        have hJL := Aside0.mk (show (j : Int) < (l0.length : Int) by omega)
        have hIY := Aside0.mk (show (i : Int) < (ys.length : Int) by have := HYL.out; omega)
        obtain ⟨y5, hy5⟩ : ∃ y, wrap64 ((i : Int) + 1) = y := ⟨_, rfl⟩
        have HY5 := Aside0.mk (show y5 = ((i + 1 : Nat) : Int) by have := HL.out; rw [← hy5]; unfold wrap64; omega)
        have HYE5 := Aside0.mk hy5
        clear hy5
        obtain ⟨y, hy⟩ : ∃ y, wrap64 ((j : Int) + 1) = y := ⟨_, rfl⟩
        have HY := Aside0.mk (show y = ((j + 1 : Nat) : Int) by have := HL.out; rw [← hy]; unfold wrap64; omega)
        have hJ0 := Aside0.mk (show (0 : Int) ≤ (j : Int) by omega)
        obtain ⟨ad, e0, x0, x1, x2, x3, x4⟩ := at_T46 hC (j : Int) hJ0.out hJY.out
        cases e0
        simp only [Int.toNat_natCast, row_Without.add0] at x0 x1 x2 x3 x4
        have p6 := eq_true hJ0.out
        have q6 := eq_true hJL.out
        have hrd : l0[j]? = some (rd_T46 ys (j : Int)) := by
          have hj2 : j < ys.length := by have := HYL.out; omega
          have h1 : rd_T46 ys (j : Int) = ys[j] := by unfold rd_T46; simp [hj2]
          have h2 := HD.out
          rw [List.drop_eq_getElem_cons hj2, List.drop_eq_getElem_cons hlt] at h2
          rw [h1, (List.cons.inj h2).1, List.getElem?_eq_getElem hlt]
        obtain ⟨x, hx⟩ : ∃ x, rd_T46 ys (j : Int) = x := ⟨_, rfl⟩
        rw [hx] at x0 x1 x2 x3 x4 hrd
        have HRD := Aside0.mk hrd
        have hcall := fun W (h1 : W.cell? ⟨b, 0, none⟩ = some (.int .i64 nm)) h2 => row_Without.clo x nm b W h1 h2
        have HLT := Aside0.mk hlt
        have HIJ := Aside0.mk hij
        have HJL := Aside0.mk hjl
        unfold row_Without.agg at hcall
        clear hrd hx hlt hC hyn hij hjl
        cases hq : row_Without.is nm x with
        | true =>
          rw [hq] at hcall
          have HCALL := Aside0.mk hcall
          have HQ := Aside0.mk hq
          clear hcall hq
          go_wp2_with (go_at_call 35; refine (HCALL.out _ ((blk_cell (blk_alloc HBR.out _) 0).trans rfl) (Nat.lt_of_lt_of_le (blk_lt HBR.out) (by simp))).mono ?_; rintro e w2 ⟨rfl, hb2⟩; have HB2 := Aside0.mk (below_then (HB.out.alloc (Nat.le_trans HBS.out HB.out.size) _) (Nat.le_trans (Nat.le_trans HBS.out HB.out.size) (by simp)) hb2); have HO2 := Aside0.mk (Kd.R_below (Kd.R_alloc HO.out _) hb2); have HBR2 := Aside0.mk (blk_below (blk_alloc HBR.out _) hb2); clear hb2)
          go_roundw
          case rel => exact ⟨i, j + 1, ys, rfl, by rw [hy, HY.out], by have := HIJ.out; clear hy; omega, HLT.out, HYL, ⟨by rw [HT.out, List.take_add_one, HRD.out, List.filter_append]; simp [HQ.out]⟩, ⟨by rw [← List.drop_drop, ← List.drop_drop, HD.out]⟩, HO2, HBR2, HB2⟩
          case measure => exact row_Without.less hy HY.out HLT.out
        | false =>
          rw [hq] at hcall
          have HCALL := Aside0.mk hcall
          have HQ := Aside0.mk hq
          clear hcall hq
          have hy5 := HYE5.out
          have p7 := eq_true hI0.out
          have q7 := eq_true hIL.out
          go_wp2_with (first | (go_at_call 35; refine (HCALL.out _ ((blk_cell (blk_alloc HBR.out _) 0).trans rfl) (Nat.lt_of_lt_of_le (blk_lt HBR.out) (by simp))).mono ?_; rintro e w2 ⟨rfl, hb2⟩; have BX := Aside0.mk (blk_below (blk_new wr (.cells #[.int .i64 x.f0, .int .i64 x.f1.f0, .int .i64 x.f1.f1, .int .u64 x.f1.f2, .string x.f1.f3] 46)) hb2); have HB2 := Aside0.mk (below_then (HB.out.alloc (Nat.le_trans HBS.out HB.out.size) _) (Nat.le_trans (Nat.le_trans HBS.out HB.out.size) (by simp)) hb2); have HO2 := Aside0.mk (Kd.R_below (Kd.R_alloc HO.out _) hb2); have HBR2 := Aside0.mk (blk_below (blk_alloc HBR.out _) hb2); clear hb2; have b0 : w2.cell? ⟨wr.heap.size, 0, none⟩ = some (.int .i64 x.f0) := (blk_cell BX.out 0).trans rfl; have b1 : w2.cell? ⟨wr.heap.size, 1, none⟩ = some (.int .i64 x.f1.f0) := (blk_cell BX.out 1).trans rfl; have b2 : w2.cell? ⟨wr.heap.size, 2, none⟩ = some (.int .i64 x.f1.f1) := (blk_cell BX.out 2).trans rfl; have b3 : w2.cell? ⟨wr.heap.size, 3, none⟩ = some (.int .u64 x.f1.f2) := (blk_cell BX.out 3).trans rfl; have b4 : w2.cell? ⟨wr.heap.size, 4, none⟩ = some (.string x.f1.f3) := (blk_cell BX.out 4).trans rfl; obtain ⟨ad, e0, z0, z1, z2, z3, z4⟩ := at_T46 (Kd.R_reads' HO2.out).2.2 (i : Int) hI0.out hIY.out; cases e0; simp only [Int.toNat_natCast, row_Without.add0] at z0 z1 z2 z3 z4) | ((with_reducible refine gate_store (t := 46) (p := 33) rfl ?_); refine Kd.R_store k46 (w0 := w) base rfl rfl 46 (.tmp 33) (.tmp 32) rfl 46 (o' := i * 5) (i : Int) 0 ys x (.agg #[.int .i64 x.f0, .int .i64 x.f1.f0, .int .i64 x.f1.f1, .int .u64 x.f1.f2, .string x.f1.f3]) [.int .i64 x.f0, .int .i64 x.f1.f0, .int .i64 x.f1.f1, .int .u64 x.f1.f2, .string x.f1.f3] [.int .i64 (rd_T46 ys (i : Int)).f0, .int .i64 (rd_T46 ys (i : Int)).f1.f0, .int .i64 (rd_T46 ys (i : Int)).f1.f1, .int .u64 (rd_T46 ys (i : Int)).f1.f2, .string (rd_T46 ys (i : Int)).f1.f3] (fun _ => True) (fun _ => False) ?hA ?hOff ?hX ?hU ?hT ?h1 HO2.out hI0.out hIL.out rfl ?hcc (Nat.le_refl 5) (k46_mkM _ _ _ x) (fun _ hk => hk.elim) HB2.out ?_; (case hA => first | rfl | (go_simp; done) | (go_simp; rfl)); (case hOff => show i * 5 = (i : Int).toNat * 5 + 0; rw [Int.toNat_natCast]; rfl); (case hX => first | rfl | (go_simp; done) | (go_simp; rfl)); (case hU => rfl); (case hT => exact (show (Try.prog.info? 46).map (·.size) = some 5 from by kernel_rfl)); (case hcc => exact row_Without.five z0 z1 z2 z3 z4); (case h1 => intro q hq; simp at hq; rcases hq with rfl | rfl | rfl | rfl | rfl <;> rfl); intro w3 ho hb hg; have HO3 := Aside0.mk ho; have HB3 := Aside0.mk hb; have HBR3 := Aside0.mk (blk_grown HBR2.out hg (by intro e; injection e with e; exact HNB.out e)); clear ho hb hg))
          go_roundw
          case rel => exact ⟨i + 1, j + 1, ys.set (i : Int).toNat x, by rw [hy5, HY5.out], by rw [hy, HY.out], by have := HIJ.out; clear hy hy5; omega, HLT.out, ⟨by rw [List.length_set]; exact HYL.out⟩, ⟨by
            rw [Int.toNat_natCast, row_Without.set_take ys i x (by have := hIY.out; clear hy hy5; omega), HT.out, List.take_add_one, HRD.out, List.filter_append]
            simp [HQ.out]⟩, ⟨by
            rw [Int.toNat_natCast, List.drop_set_of_lt (by have := HIJ.out; clear hy hy5; omega), ← List.drop_drop, ← List.drop_drop, HD.out]⟩, HO3, HBR3, HB3⟩
          case measure => exact row_Without.less hy HY.out HLT.out
      · have q3 : decide ((j : Int) < (l0.length : Int)) = false := decide_eq_false (by omega)
        have HIJ := Aside0.mk (show i ≤ l0.length by omega)
        obtain ⟨g', c', hv', _, hnc', cur, hh, hcs⟩ := row_Without.shape HO.out (by have := HYL.out; have := HK.out; omega)
        injection hv' with hv1 hvl hv2
        injection hv1 with hv1
        injection hv1 with hv1
        clear hvl
        subst hv1
        subst hv2
        have p7 := eq_true (show (0 : Int) ≤ (i : Int) by omega)
        have q7 := eq_true (show (i : Int) ≤ (l0.length : Int) by omega)
        have q8 := eq_true (show (i : Int) ≤ (cc : Int) by have := HCC.out; omega)
        have hclr := fun ty => row_Without.run_clear wr ty g (i * 5) (l0.length - i) (cc - i) hh (by have := HCC.out; rw [hcs]; omega)
        have hj : j = l0.length := by omega
        have HEQ := Aside0.mk (show ys.take i = l0.filter fun c => !(row_Without.is nm c) by rw [HT.out, hj, List.take_length])
        have HBH := Aside0.mk (row_Without.R_behind HO.out (show i ≤ ys.length by have := HYL.out; omega) (Builtin.zeroCells (Value.agg #[(.int .i64 0), (.int .i64 0), (.int .i64 0), (.int .u64 0), (.string ⟨#[]⟩)]).cells (l0.length - i)).toList (i * 5) (Nat.le_refl _) (by rw [(row_Without.zeros5 _).1]; have := HCC.out; omega))
        have n1 : i ≤ l0.length := HIJ.out
        have n2 : i ≤ cc := by have := HCC.out; omega
        have n5 : i < cc := by have := HCC.out; omega
        have n6 : ¬ cc = i := by omega
        have n7 : ¬ cc - i = 0 := by omega
        have n8 : ¬ cc ≤ i := by omega
        have n3 : decide (j < l0.length) = false := decide_eq_false hlt
        clear hjl hij hj hh hcs hyn hC
        go_wp2
        go_ret
        exact ⟨_, rfl, by have := HBH.out.1; rw [HEQ.out] at this; exact this, HB.out.grown HBH.out.2 (Nat.le_trans HBS.out HB.out.size) (fun k e => by cases e; exact HBG.out)⟩
set_option maxHeartbeats 8000000 in
set_option maxRecDepth 100000 in
theorem row_Without.calls (A0 : Option Addr) (c0 : Nat) (l0 : List (S46)) (a1 : Int) (r : List (S46)) (w : World) (hr0 : Kd.C k46 w A0 l0.length l0) (hc0 : l0.length ≤ c0) (h : row_Without.f l0 a1 = some r) :
    Calls Try.prog 21 #[.slice A0 l0.length c0, .int .i64 a1] w fun e w' => ∃ v0_ : Value, e = .returned (v0_) ∧ Kd.R k46 46 w' w.heap.size (fun _ => True) v0_ r ∧ Below w.heap.size w w' := by
  unfold row_Without.f at h
  by_cases hlim : l0.length < 1000000
  · rw [if_pos hlim] at h
    obtain rfl := Option.some.inj h
    have HR0 := Aside0.mk hr0
    have HL := Aside0.mk hlim
    have hmf : ∀ (fn : Fn) (first cap : Array Value) (w : World), (Instr.makeFunc fn first cap).run Try.prog w = .ok (.func fn first cap) w := fun _ _ _ _ => rfl
    clear h hr0 hlim hc0
    go_enter Try.func21, Try.ntmps21
    go_wp2_with (first | (go_at_call 34; refine (row_Without.clone A0 c0 l0 _ (Kd.C_alloc HR0.out _) HL.out).mono ?_; rintro e w1 ⟨v1, rfl, ho1, hb1⟩; have HO1 := Aside0.mk (Kd.R_lower ho1 (show w.heap.size ≤ _ from by simp)); have HB1 := Aside0.mk (below_then (below_alloc (Below.refl _ w) (.cells #[.int .i64 a1] 3)) (by simp) hb1); have BK1 := Aside0.mk (blk_below (blk_new w (.cells #[.int .i64 a1] 3)) hb1); clear ho1 hb1) | (go_at_call 33; refine (row_Without.del l0 a1 v1 w.heap.size w.heap.size _ HO1.out BK1.out HL.out HB1.out.size).mono ?_; rintro e w2 ⟨v2, rfl, ho2, hb2⟩; have HO2 := Aside0.mk ho2; have HB2 := Aside0.mk (HB1.out.trans hb2); clear ho2 hb2))
    go_ret
    exact ⟨_, rfl, HO2.out, HB2.out⟩
  · rw [if_neg hlim] at h; cases h

-- NOT PRINTED: function 49 (api_Cell_49)

end Go.Proofs.Ytebfilljdnhccaa.PA
