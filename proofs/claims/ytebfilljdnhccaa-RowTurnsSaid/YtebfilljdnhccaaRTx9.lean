/- Contracts of the Go functions of this seat: what each call returns is what a Lean function of its arguments says; each theorem bears its own conditions. Written by a program of this session (wip/tools/mkprint.py). -/
import Derived.Test.YtebfilljdnhccaaRTx0
import Derived.Test.YtebfilljdnhccaaRTx7
namespace Go.Proofs.Ytebfilljdnhccaa.PA
open Go.RowKit Go.Proofs.YtebfilljdnhccaaW.PrintWords Go.Proofs.YtebfilljdnhccaaW.PrintLast Go.Proofs.YtebfilljdnhccaaW.PrintMore
attribute [local go_sem] max2_int min2_int max_two min_two max_three min_three max_four min_four   -- for this text's walks alone
set_option linter.unusedVariables false
set_option linter.unusedSimpArgs false

attribute [local go_sem ↓ high] unary_xor_u64 ux_if_u64
attribute [local go_sem] str_gtr str_leq str_geq
/-! ### row_With: function 20 -/
/-- Whether a cell is of a higher column. -/
def row_With.is (nm : Int) (x : S46) : Bool := decide (nm < x.f0)
def row_With.find (nm : Int) (l : List S46) : Int := match l.findIdx? (row_With.is nm) with
  | some i => (i : Int)
  | none => -1
def row_With.agg (x : S46) : Value := .agg #[.int .i64 x.f0, .int .i64 x.f1.f0, .int .i64 x.f1.f1, .int .u64 x.f1.f2, .string x.f1.f3]
def row_With.ins (x : S46) (l : List (S46)) : List (S46) := match l.findIdx? (row_With.is x.f0) with
  | some i => l.take i ++ x :: l.drop i
  | none => l ++ [x]
def row_With.f (l0 : List (S46)) (a1 : Int) (a2_0 a2_1 a2_2 : Int) (a2_3 : ByteArray) : Option (List (S46)) := (row_Without.f l0 a1).map (row_With.ins ⟨a1, ⟨a2_0, a2_1, a2_2, a2_3⟩⟩)
set_option maxHeartbeats 4000000 in
set_option maxRecDepth 100000 in
theorem row_With.clo (x : S46) (nm : Int) (b : Nat) (w : World) (hc : w.cell? ⟨b, 0, none⟩ = some (.int .i64 nm)) (hb : b < w.heap.size) :
    Calls Try.prog 31 #[row_With.agg x, .pointer (some ⟨b, 0, none⟩)] w fun e w' => e = .returned (.bool (row_With.is nm x)) ∧ Below w.heap.size w w' := by
  have hne : ¬ w.heap.size = b := by omega
  unfold row_With.is row_With.agg
  go_enter Try.func31, Try.ntmps31
  go_wp2
  repeat (go_quiet (fail); try go_wp2)
  go_ret
  exact ⟨rfl, by repeat (first | (with_reducible first | apply below_alloc | apply pw_below_drewN | apply below_drew1) | exact Below.refl _ _)⟩
theorem row_With.find_lt (nm : Int) (l : List S46) : row_With.find nm l < (l.length : Int) := by
  unfold row_With.find
  cases h : l.findIdx? (row_With.is nm) with
  | none => show (-1 : Int) < _; omega
  | some i =>
    have := (List.findIdx?_eq_some_iff_getElem.1 h).1
    show (i : Int) < _; omega
theorem row_With.find_hit (nm : Int) (l : List S46) (i : Nat) (hi : i < l.length) (h : row_With.is nm l[i] = true) (ha : ∀ j (hj : j < l.length), j < i → row_With.is nm l[j] = false) : row_With.find nm l = (i : Int) := by
  unfold row_With.find
  have : l.findIdx? (row_With.is nm) = some i := by
    rw [List.findIdx?_eq_some_iff_getElem]
    exact ⟨hi, h, fun j hji => by have := ha j (by omega) hji; simp [this]⟩
  rw [this]
theorem row_With.find_miss (nm : Int) (l : List S46) (ha : ∀ j (hj : j < l.length), row_With.is nm l[j] = false) : row_With.find nm l = -1 := by
  unfold row_With.find
  have : l.findIdx? (row_With.is nm) = none := by
    rw [List.findIdx?_eq_none_iff]
    intro x hx
    obtain ⟨j, hj, rfl⟩ := List.getElem_of_mem hx
    exact ha j hj
  rw [this]
set_option maxHeartbeats 8000000 in
set_option maxRecDepth 100000 in
theorem row_With.idx (A0 : Option Addr) (c0 : Nat) (l0 : List (S46)) (nm : Int) (b : Nat) (w : World) (hr0 : Kd.C k46 w A0 l0.length l0) (hc : w.cell? ⟨b, 0, none⟩ = some (.int .i64 nm)) (hb : b < w.heap.size):
    Calls Try.prog 26 #[.slice A0 l0.length c0, .func (.func 31) #[] #[.pointer (some ⟨b, 0, none⟩)]] w fun e w' => e = .returned (.int .i64 (row_With.find nm l0)) ∧ Below w.heap.size w w' := by
  have HR0 := Aside0.mk hr0
  have HC := Aside0.mk hc
  have HB := Aside0.mk hb
  have HL0 := Aside0.mk hr0.2.1
  clear hr0 hc hb
  go_enter Try.func26, Try.ntmps26
  go_wp2
  go_loopw [5, 8] (fun _ v wr => ∃ x : Int, 0 ≤ x ∧ x ≤ (l0.length : Int) ∧ v = .int .i64 x ∧ Aside0 (∀ i (hi : i < l0.length), (i : Int) < x → row_With.is nm l0[i] = false) ∧ Aside0 (Below w.heap.size w wr)) (fun _ v _ => l0.length - (intOf v).toNat)
  case atStart => exact ⟨0, by omega, by omega, rfl, ⟨fun i hi h => by omega⟩, ⟨Below.refl _ _⟩⟩
  case round =>
    obtain ⟨x, h0, h1, rfl, HA, HBW⟩ := hrel
    by_cases hlt : x < (l0.length : Int)
    · have q3 : decide (x < (l0.length : Int)) = true := decide_eq_true (by omega)
      obtain ⟨y, hy⟩ : ∃ y, wrap64 (x + 1) = y := ⟨_, rfl⟩
      have HY := Aside0.mk (show y = x + 1 by have := HL0.out; rw [← hy]; unfold wrap64; omega)
      obtain ⟨ad, e0, x0, x1, x2, x3, x4⟩ := at_T46 (Kd.C_below HR0.out HBW.out) x h0 hlt
      cases e0
      have hcall := fun W (h1 : W.cell? ⟨b, 0, none⟩ = some (.int .i64 nm)) h2 => row_With.clo (rd_T46 l0 x) nm b W h1 h2
      have hi : x.toNat < l0.length := by omega
      have hrd : rd_T46 l0 x = l0[x.toNat] := by unfold rd_T46; simp [hi]
      have HRD := Aside0.mk (show ∃ hi : x.toNat < l0.length, rd_T46 l0 x = l0[x.toNat] from ⟨hi, hrd⟩)
      have hcb : wr.cell? ⟨b, 0, none⟩ = some (.int .i64 nm) := (HBW.out.cell (p := ⟨b, 0, none⟩) HB.out).trans HC.out
      have hbb : b < wr.heap.size := Nat.lt_of_lt_of_le HB.out HBW.out.size
      have HCB := Aside0.mk hcb
      have HBB := Aside0.mk hbb
      have HLT := Aside0.mk hlt
      have p6 := eq_true h0
      have q6 := eq_true hlt
      clear hrd hcb hbb hlt hi
      unfold row_With.agg at hcall
      cases hq : row_With.is nm (rd_T46 l0 x) with
      | true =>
        rw [hq] at hcall
        have HCALL := Aside0.mk hcall
        have HQ := Aside0.mk hq
        clear hcall hq
        go_wp2_with (go_at_call 31; refine (HCALL.out _ HCB.out HBB.out).mono ?_; rintro e w1 ⟨rfl, hb1⟩)
        go_ret
        have := HRD.out
        obtain ⟨hi, hrd⟩ := this
        have hf := row_With.find_hit nm l0 x.toNat hi (by rw [← hrd]; exact HQ.out) (fun j hj hji => HA.out j hj (by omega))
        exact ⟨by rw [hf, Int.toNat_of_nonneg (by omega)]; rfl, below_then HBW.out HBW.out.size hb1⟩
      | false =>
        rw [hq] at hcall
        have HCALL := Aside0.mk hcall
        have HQ := Aside0.mk hq
        clear hcall hq
        go_wp2_with (go_at_call 31; refine (HCALL.out _ HCB.out HBB.out).mono ?_; rintro e w1 ⟨rfl, hb1⟩)
        go_roundw
        case rel => exact ⟨y, by have := HY.out; omega, by have := HY.out; have := HLT.out; omega, (by first | rfl | (rw [hy])), ⟨fun i hi hiy => by
          by_cases e : (i : Int) < x
          · exact HA.out i hi e
          · obtain ⟨hi2, hrd⟩ := HRD.out
            have e2 : i = x.toNat := by have := HY.out; omega
            subst e2
            rw [← hrd]; exact HQ.out⟩, ⟨below_then HBW.out HBW.out.size hb1⟩⟩
        case measure => have := HY.out; have := HLT.out; simp [intOf]; omega
    · have q3 : decide (x < (l0.length : Int)) = false := decide_eq_false (by omega)
      have hf := row_With.find_miss nm l0 (fun j hj => HA.out j hj (by omega))
      have HFF := Aside0.mk hf
      clear hf hlt
      go_wp2
      go_ret
      exact ⟨by rw [HFF.out]; first | rfl | done, HBW.out⟩
/-- The cells of one cell, of several. -/
def row_With.cs (x : S46) : List Value := [.int .i64 x.f0, .int .i64 x.f1.f0, .int .i64 x.f1.f1, .int .u64 x.f1.f2, .string x.f1.f3]
def row_With.flat (l : List S46) : List Value := l.flatMap row_With.cs
theorem row_With.flat_cons (x : S46) (l : List S46) : row_With.flat (x :: l) = row_With.cs x ++ row_With.flat l := by simp [row_With.flat]
theorem row_With.flat_append (a b : List S46) : row_With.flat (a ++ b) = row_With.flat a ++ row_With.flat b := by simp [row_With.flat]
theorem row_With.flat_length (l : List S46) : (row_With.flat l).length = l.length * 5 := by
  induction l with
  | nil => rfl
  | cons x r ih => rw [row_With.flat_cons, List.length_append, ih, List.length_cons, Nat.add_mul, Nat.add_comm]; rfl
theorem row_With.flat_one (l : List S46) : ∀ q ∈ row_With.flat l, q.oneCell' = true := by
  intro q hq
  obtain ⟨x, _, hx⟩ := List.mem_flatMap.1 hq
  simp [row_With.cs] at hx
  rcases hx with rfl | rfl | rfl | rfl | rfl <;> rfl
theorem row_With.flat_at (l : List S46) (j : Nat) (x : S46) (h : l[j]? = some x) : ((row_With.flat l).drop (j * 5)).take 5 = row_With.cs x := by
  obtain ⟨hj, he⟩ := List.getElem?_eq_some_iff.1 h
  have e : l = l.take j ++ x :: l.drop (j + 1) := by rw [← he, ← List.drop_eq_getElem_cons hj, List.take_append_drop]
  have hlen : (row_With.flat (l.take j)).length = j * 5 := by rw [row_With.flat_length, List.length_take]; congr 1; omega
  rw [e, row_With.flat_append, row_With.flat_cons, ← hlen, List.drop_left]
  rfl
theorem row_With.flat_take (l : List S46) (i : Nat) (h : i ≤ l.length) : (row_With.flat l).take (i * 5) = row_With.flat (l.take i) := by
  have hlen : (row_With.flat (l.take i)).length = i * 5 := by rw [row_With.flat_length, List.length_take]; congr 1; omega
  conv => lhs; rw [← List.take_append_drop i l, row_With.flat_append, ← hlen, List.take_left]
theorem row_With.flat_drop (l : List S46) (i : Nat) (h : i ≤ l.length) : (row_With.flat l).drop (i * 5) = row_With.flat (l.drop i) := by
  have hlen : (row_With.flat (l.take i)).length = i * 5 := by rw [row_With.flat_length, List.length_take]; congr 1; omega
  conv => lhs; rw [← List.take_append_drop i l, row_With.flat_append, ← hlen, List.drop_left]
/-- An own row, by its block's cells; and back. -/
theorem row_With.R_flat {W : World} {base g n cap : Nat} {xs : List S46} (h : Kd.R k46 46 W base (fun _ => True) (.slice (some ⟨g, 0, none⟩) n cap) xs) :
    n = xs.length ∧ xs.length ≤ cap ∧ cap ≤ maxLen ∧ base ≤ g ∧ ∃ cur, W.heap[g]? = some (.cells cur 46 (0, 0)) ∧ cur.size = cap * 5 ∧ cur.toList.take (xs.length * 5) = row_With.flat xs := by
  obtain ⟨hn, _, _⟩ := Kd.R_reads' h
  obtain ⟨_, inner, hown, hr⟩ := h
  have hinner : inner = row_With.flat xs := by
    apply List.ext_getElem?
    intro k
    have h1 : inner.length = xs.length * 5 := hr.1
    rcases Nat.lt_or_ge k (xs.length * 5) with hk | hk
    · have hj : k / 5 < xs.length := by omega
      have hm := k46_openM (hr.2 (k / 5) xs[k / 5] (List.getElem?_eq_getElem hj))
      have hf := row_With.flat_at xs (k / 5) xs[k / 5] (List.getElem?_eq_getElem hj)
      have e1 : ∀ L : List Value, L[k]? = ((L.drop (k / 5 * 5)).take 5)[k % 5]? := fun L => by
        rw [List.getElem?_take_of_lt (Nat.mod_lt _ (by decide)), List.getElem?_drop]
        congr 1; omega
      rw [e1 inner, e1 (row_With.flat xs), hf]
      exact congrArg (fun L : List Value => L[k % 5]?) hm
    · rw [List.getElem?_eq_none (by omega), List.getElem?_eq_none (by rw [row_With.flat_length]; omega)]
  rcases hown.2 with ⟨hv, _⟩ | ⟨g', cap', cur, hv, hb, hh, hnc, hcm, hcs, ht⟩
  · cases hv
  · injection hv with ha _ hc
    injection ha with ha
    injection ha with hg'
    subst hg'
    subst hc
    exact ⟨hn, hnc, hcm, hb, cur, hh, hcs, by rw [← hinner]; exact ht⟩
theorem row_With.flat_R {W : World} {base g cap : Nat} {xs : List S46} {cur : Array Value} (hb : base ≤ g) (hh : W.heap[g]? = some (.cells cur 46 (0, 0))) (hcs : cur.size = cap * 5) (hnc : xs.length ≤ cap) (hcm : cap ≤ maxLen) (ht : cur.toList.take (xs.length * 5) = row_With.flat xs) :
    Kd.R k46 46 W base (fun _ => True) (.slice (some ⟨g, 0, none⟩) xs.length cap) xs :=
  ⟨fun _ _ => trivial, row_With.flat xs, ⟨row_With.flat_length xs, .inr ⟨g, cap, cur, rfl, hb, hh, hnc, hcm, hcs, ht⟩⟩, row_With.flat_length xs, fun j p hp => by
    have := row_With.flat_at xs j p hp
    show (k46).M _ _ _ p (((row_With.flat xs).drop (j * 5)).take 5)
    rw [this]
    exact k46_mkM _ _ _ p⟩
/-- copy, of elements of five cells. -/
theorem row_With.run_copy (w : World) (ty : TypeId) (g o dLen dCap : Nat) (a : Addr) (sLen sCap m : Nat) (cs : List Value) {cur : Array Value} (hm : Nat.min sLen dLen = m) (hl : cs.length = m * 5) (hsrc : ∀ j v, cs[j]? = some v → w.cell? (a.add j) = some v)
    (hh : w.heap[g]? = some (.cells cur 46 (0, 0))) (hf : o + m * 5 ≤ cur.size) (h1 : ∀ q ∈ cs, q.oneCell' = true) :
    (Builtin.copy_ #[22, 22] ty #[.slice (some ⟨g, o, none⟩) dLen dCap, .slice (some a) sLen sCap]).run Try.prog w = .ok (goInt m) (w.setCells g o cs) := by
  have hsz : (sizeOf 46).run Try.prog w = .ok 5 w := by go_simp
  have hfc := run_firstCells_some (P := Try.prog) (w := w) 5 m a sLen sCap cs hl hsrc
  have hst := run_storeCells_cells (P := Try.prog) g o cs 0 w (fun j hj => by rw [cell_of_row w g _ cur 46 (0, 0) hh]; simp; omega) (fun j _ => blk_frozen hh _) h1
  simp only [Nat.add_zero] at hst
  have hln : (Builtin.lenOf (.slice (some a) sLen sCap)).run Try.prog w = .ok sLen w := by first | rfl | (simp [Builtin.lenOf])
  simp [Builtin.copy_, run_underlying Try.underlying22, hsz, hln, hm, hfc, hst]
set_option maxRecDepth 100000 in
theorem row_With.overl (w : World) (h g o n c : Nat) {c1 c2 : Array Value} (hh : w.heap[h]? = some (.cells c1 46 (0, 0))) (hg : w.heap[g]? = some (.cells c2 46 (0, 0))) (hne : h ≠ g) :
    (callFunc 49 #[.slice (some ⟨h, 0, none⟩) 1 1, .slice (some ⟨g, o, none⟩) n c]).run Try.prog w = .ok (.value (.bool false)) w := by
  refine (run_callFunc_extern (e := Extern.SlicesOverlaps.overlaps #[22, 22] #[4]) Try.func49 (by kernel_rfl) (by kernel_rfl) (by kernel_rfl) (by rfl) _ w).trans ?_
  have hsz : ∀ w, (sizeOf 46).run Try.prog w = .ok 5 w := fun _ => by go_simp
  have f1 : w.frozen? ⟨h, 0, none⟩ = false := blk_frozen hh 0
  have f2 : w.frozen? ⟨g, o, none⟩ = false := blk_frozen hg o
  have f3 : ∀ k, w.frozen? ⟨h, k, none⟩ = false := fun k => blk_frozen hh k
  have f4 : ∀ k, w.frozen? ⟨g, k, none⟩ = false := fun k => blk_frozen hg k
  have s1 : w.shape? h = some (46, c1.size) := by simp [World.shape?, hh]
  have s2 : w.shape? g = some (46, c2.size) := by simp [World.shape?, hg]
  change (Sem.run Try.prog (Bind.bind (underlying 22) _) w).andThen _ = _
  simp [run_underlying Try.underlying22, hsz]
  intro _
  simp [hne, f1, f2, noView, viewAt, mayBeOne, stringish, frozen, shape, Sem.run, s1, s2, f3, f4, Result.andThen]
theorem row_With.do_append {P : Program} {o : Oper} {a : Act} {W w1 : World} {s x : Operand} {t t2 : TypeId} {V1 V2 v : Value} (ho : o.op = .call { callee := .builtin .append, args := #[s, x], argTypes := #[t, t2] }) (hs : a.eval s = V1) (hx : a.eval x = V2)
    (hrun : (Builtin.append_ #[t, t2] o.type #[V1, V2]).run P W = .ok v w1) : (execOp a.eval o).run P W = .ok (.value v) w1 := by
  simp [execOp, ho, resolve, invoke, builtin, hs, hx, hrun, Result.andThen]
theorem row_With.do_copy {P : Program} {o : Oper} {a : Act} {W w1 : World} {s x : Operand} {t t2 : TypeId} {V1 V2 v : Value} (ho : o.op = .call { callee := .builtin .copy, args := #[s, x], argTypes := #[t, t2] }) (hs : a.eval s = V1) (hx : a.eval x = V2)
    (hrun : (Builtin.copy_ #[t, t2] o.type #[V1, V2]).run P W = .ok v w1) : (execOp a.eval o).run P W = .ok (.value v) w1 := by
  simp [execOp, ho, resolve, invoke, builtin, hs, hx, hrun, Result.andThen]
theorem row_With.C_one {w : World} {h : Nat} {x : S46} (hx : w.heap[h]? = some (.cells (row_With.cs x).toArray 46 (0, 0))) : Kd.C k46 w (some ⟨h, 0, none⟩) 1 [x] := by
  refine ⟨rfl, by decide, fun _ => ⟨_, rfl, fun j p hp => ?_⟩⟩
  match j, hp with
  | 0, hp =>
    cases hp
    refine ⟨row_With.cs x, rfl, k46_mk w x, fun i u hu => ?_⟩
    rw [row_Without.add0, blk_cell hx]
    show (row_With.cs x).toArray[0 * 5 + i]? = some u
    rw [Nat.zero_mul, Nat.zero_add]
    simpa using hu
/-- The list where x is put in at i. -/
theorem row_With.laid {l : List S46} {x : S46} {i : Nat} (hi : i ≤ l.length) {L : List Value} {Z : List Value} (h : L = row_With.flat (l.take i) ++ row_With.cs x ++ row_With.flat (l.drop i) ++ Z) : L.take ((l.take i ++ x :: l.drop i).length * 5) = row_With.flat (l.take i ++ x :: l.drop i) := by
  have e : row_With.flat (l.take i ++ x :: l.drop i) = row_With.flat (l.take i) ++ row_With.cs x ++ row_With.flat (l.drop i) := by rw [row_With.flat_append, row_With.flat_cons, List.append_assoc]
  rw [h, ← e, ← row_With.flat_length, List.take_left]
set_option maxHeartbeats 8000000 in
set_option maxRecDepth 100000 in
theorem row_With.ins_end (l : List S46) (x : S46) (A : Option Addr) (cap : Nat) (h base : Nat) (w : World) (hr : Kd.R k46 46 w base (fun _ => True) (.slice A l.length cap) l) (hA : A = none → cap = 0) (hlim : l.length < 1000000) (hbase : base ≤ w.heap.size) (hx : w.heap[h]? = some (.cells (row_With.cs x).toArray 46 (0, 0))) :
    Calls Try.prog 32 #[.slice A l.length cap, .int .i64 (l.length : Int), .slice (some ⟨h, 0, none⟩) 1 1] w fun e w' => ∃ v0_ : Value, e = .returned (v0_) ∧ Kd.R k46 46 w' base (fun _ => True) v0_ (l ++ [x]) ∧ Below base w w' := by
  have HR := Aside0.mk hr
  have HC := Aside0.mk (row_With.C_one hx)
  have HL := Aside0.mk hlim
  have HBS := Aside0.mk hbase
  have hlc : l.length ≤ cap := (Kd.R_reads' hr).2.1
  have HLC := Aside0.mk hlc
  have n1 : ((l.length : Int) == (l.length : Int)) = true := beq_self_eq_true _
  have n2 := eq_true (show (0 : Int) ≤ (l.length : Int) by omega)
  clear hr hx hlim hbase
  cases A with
  | none =>
    obtain rfl := hA rfl
    have hl0 : l = [] := List.eq_nil_of_length_eq_zero (by omega)
    subst hl0
    go_enter Try.func32, Try.ntmps32
    go_wp2_with ((with_reducible refine gate_builtin (b := .append) (xs := #[.tmp 23, .tmp 24]) rfl ?_); at_builtin; refine Kd.R_append_rows k46 (w0 := w) base rfl (.tmp 23) (.tmp 24) 22 46 (.agg #[(.int .i64 0), (.int .i64 0), (.int .i64 0), (.int .u64 0), (.string ⟨#[]⟩)]) 48 rfl Try.underlying22 info46 rfl (by decide) (by omega) (.slice none 0 0) [] [x] _ _ _ (fun _ => True) (fun _ => False) rfl rfl HR.out HC.out (fun _ _ h => h) (fun _ h => h.elim) (fun _ _ => trivial) (Below.refl _ _) HBS.out (by have := HL.out; first | omega | (simp; omega) | simp) ?_; intro v2 w2 ho hb hg hat; have HO2 := Aside0.mk ho; have HB2 := Aside0.mk hb; clear ho hb hg hat)
    go_ret
    exact ⟨_, rfl, HO2.out, HB2.out⟩
  | some ad =>
    by_cases hcap : cap = l.length
    · subst hcap
      go_enter Try.func32, Try.ntmps32
      go_wp2_with ((with_reducible refine gate_builtin (b := .append) (xs := #[.tmp 23, .tmp 24]) rfl ?_); at_builtin; refine Kd.R_append_rows k46 (w0 := w) base rfl (.tmp 23) (.tmp 24) 22 46 (.agg #[(.int .i64 0), (.int .i64 0), (.int .i64 0), (.int .u64 0), (.string ⟨#[]⟩)]) 48 rfl Try.underlying22 info46 rfl (by decide) (by omega) (.slice (some ad) l.length l.length) l [x] _ _ _ (fun _ => True) (fun _ => False) rfl rfl HR.out HC.out (fun _ _ h => h) (fun _ h => h.elim) (fun _ _ => trivial) (Below.refl _ _) HBS.out (by have := HL.out; first | omega | (simp; omega) | simp) ?_; intro v2 w2 ho hb hg hat; have HO2 := Aside0.mk ho; have HB2 := Aside0.mk hb; clear ho hb hg hat)
      go_ret
      exact ⟨_, rfl, HO2.out, HB2.out⟩
    · have n5 : l.length < cap := by omega
      have n7 : ¬ cap - l.length = 0 := by omega
      have n8 : ¬ cap ≤ l.length := by omega
      go_enter Try.func32, Try.ntmps32
      go_wp2_with ((with_reducible refine gate_builtin (b := .append) (xs := #[.tmp 23, .tmp 24]) rfl ?_); at_builtin; refine Kd.R_append_rows k46 (w0 := w) base rfl (.tmp 23) (.tmp 24) 22 46 (.agg #[(.int .i64 0), (.int .i64 0), (.int .i64 0), (.int .u64 0), (.string ⟨#[]⟩)]) 48 rfl Try.underlying22 info46 rfl (by decide) (by omega) (.slice (some ad) l.length cap) l [x] _ _ _ (fun _ => True) (fun _ => False) rfl rfl HR.out HC.out (fun _ _ h => h) (fun _ h => h.elim) (fun _ _ => trivial) (Below.refl _ _) HBS.out (by have := HL.out; first | omega | (simp; omega) | simp) ?_; intro v2 w2 ho hb hg hat; have HO2 := Aside0.mk ho; have HB2 := Aside0.mk hb; clear ho hb hg hat)
      go_ret
      exact ⟨_, rfl, HO2.out, HB2.out⟩
theorem row_With.cells_at {w : World} {g : Nat} {cur : Array Value} (hh : w.heap[g]? = some (.cells cur 46 (0, 0))) {o : Nat} {L : List Value} (hL : (cur.toList.drop o).take L.length = L) : ∀ j v, L[j]? = some v → w.cell? ((⟨g, o, none⟩ : Addr).add j) = some v := by
  intro j v hj
  have hadd : (⟨g, o, none⟩ : Addr).add j = ⟨g, o + j, none⟩ := by unfold Addr.add; split <;> simp_all
  obtain ⟨hl, _⟩ := List.getElem?_eq_some_iff.1 hj
  rw [← hL, List.getElem?_take_of_lt hl, List.getElem?_drop] at hj
  rw [hadd, blk_cell hh]
  simpa using hj
set_option maxHeartbeats 8000000 in
set_option maxRecDepth 100000 in
theorem row_With.ins_grow (l : List S46) (x : S46) (i g h base : Nat) (w : World) (hr : Kd.R k46 46 w base (fun _ => True) (.slice (some ⟨g, 0, none⟩) l.length l.length) l) (hi : i < l.length) (hlim : l.length < 1000000) (hbase : base ≤ w.heap.size) (hx : w.heap[h]? = some (.cells (row_With.cs x).toArray 46 (0, 0))) :
    Calls Try.prog 32 #[.slice (some ⟨g, 0, none⟩) l.length l.length, .int .i64 (i : Int), .slice (some ⟨h, 0, none⟩) 1 1] w fun e w' => ∃ v0_ : Value, e = .returned (v0_) ∧ Kd.R k46 46 w' base (fun _ => True) v0_ (l.take i ++ x :: l.drop i) ∧ Below base w w' := by
  obtain ⟨_, _, hcm, hbg, cur, hg, hcs, hct⟩ := row_With.R_flat hr
  have hcl : cur.toList = row_With.flat l := by rw [← hct, List.take_of_length_le (by rw [Array.length_toList, hcs]; omega)]
  obtain ⟨K, hK⟩ : ∃ K : Nat, l.length + 1 = i + K := ⟨l.length + 1 - i, by omega⟩
  obtain ⟨C, hC⟩ : ∃ C, grownCap w (i + K) l.length 46 = C := ⟨_, rfl⟩
  have hC1 : i + K ≤ C := hC ▸ grownCap_ge w (i + K) l.length 46
  have hC2 : C ≤ maxLen := hC ▸ grownCap_le_maxLen w (i + K) l.length 46 (by unfold maxLen; omega)
  have hlt : (l.take i).length = i := by rw [List.length_take]; omega
  have hfl : (row_With.flat (l.take i)).length = i * 5 := by rw [row_With.flat_length, hlt]
  obtain ⟨inf, hinf, hzz⟩ := Option.map_eq_some_iff.1 info46
  simp only [Prod.mk.injEq] at hzz
  obtain ⟨hz0, hz1, hz2⟩ := hzz
  have hold : (Builtin.firstCells inf.size i (.slice (some ⟨g, 0, none⟩) i l.length)).run Try.prog w.drew = .ok (row_With.flat (l.take i)).toArray w.drew := by
    rw [hz1]
    exact run_firstCells_some (P := Try.prog) (w := w.drew) 5 i ⟨g, 0, none⟩ i l.length (row_With.flat (l.take i)) hfl (row_With.cells_at (w := w.drew) hg (by rw [hfl, List.drop_zero, hcl, row_With.flat_take l i (by omega)]))
  have hap := fun ty => Lib.run_append_grow_zeros (P := Try.prog) w 22 3 ty 46 inf _ .i64 .i64 Try.underlying22 Try.underlying3 hinf hz0 (some ⟨g, 0, none⟩) i l.length (row_With.flat (l.take i)) hold K (by omega) (by omega) (by omega) (by omega) (by rw [hz2]; omega) (growslice_fits (by omega) (by rw [hz2]; omega))
  rw [hC] at hap
  obtain ⟨W2, hW2⟩ : ∃ W2, w.drew.alloc (.cells ((row_With.flat (l.take i)).toArray ++ Builtin.zeroCells (Value.agg #[(.int .i64 0), (.int .i64 0), (.int .i64 0), (.int .u64 0), (.string ⟨#[]⟩)]).cells K ++ Builtin.zeroCells (Value.agg #[(.int .i64 0), (.int .i64 0), (.int .i64 0), (.int .u64 0), (.string ⟨#[]⟩)]).cells (C - (i + K))) 46) = W2 := ⟨_, rfl⟩
  rw [hW2] at hap
  obtain ⟨c2, hc2⟩ : ∃ c2, ((row_With.flat (l.take i)).toArray ++ Builtin.zeroCells (Value.agg #[(.int .i64 0), (.int .i64 0), (.int .i64 0), (.int .u64 0), (.string ⟨#[]⟩)]).cells K ++ Builtin.zeroCells (Value.agg #[(.int .i64 0), (.int .i64 0), (.int .i64 0), (.int .u64 0), (.string ⟨#[]⟩)]).cells (C - (i + K))) = c2 := ⟨_, rfl⟩
  rw [hc2] at hW2
  have hc2s : c2.size = C * 5 := by
    rw [← hc2, Array.size_append, Array.size_append, size_zeroCells, size_zeroCells, List.size_toArray, hfl]
    show i * 5 + K * 5 + (C - (i + K)) * 5 = C * 5
    omega
  have hc2t : c2.toList.take (i * 5) = row_With.flat (l.take i) := by
    rw [← hc2, Array.toList_append, Array.toList_append, List.append_assoc, ← hfl]
    exact List.take_left
  have h2g : W2.heap[w.heap.size]? = some (.cells c2 46 (0, 0)) := hW2 ▸ blk_new w.drew _
  have h2x : W2.heap[h]? = some (.cells (row_With.cs x).toArray 46 (0, 0)) := hW2 ▸ blk_alloc (w := w.drew) hx _
  have h2s : W2.heap[g]? = some (.cells cur 46 (0, 0)) := hW2 ▸ blk_alloc (w := w.drew) hg _
  have h2B : Below base w W2 := hW2 ▸ (below_drew (Below.refl base w)).alloc hbase _
  obtain ⟨W3, hW3⟩ : ∃ W3, W2.setCells w.heap.size (i * 5) (row_With.cs x) = W3 := ⟨_, rfl⟩
  have hcp1 := fun ty => row_With.run_copy W2 ty w.heap.size (i * 5) K (C - i) ⟨h, 0, none⟩ 1 1 1 (row_With.cs x) (by show min 1 K = 1; omega) rfl (row_With.cells_at h2x (by simp)) h2g (by rw [hc2s]; omega) (fun q hq => row_With.flat_one [x] q (by simp [row_With.flat]; exact hq))
  rw [hW3] at hcp1
  obtain ⟨c3, h3g, h3s, h3t⟩ := setCells_row (row_With.cs x) (i * 5) W2 c2 h2g (by rw [hc2s]; show i * 5 + 5 ≤ _; omega)
  rw [hW3] at h3g
  have hgne : g ≠ w.heap.size := by have := blk_lt hg; omega
  have h3src : W3.heap[g]? = some (.cells cur 46 (0, 0)) := hW3 ▸ (setCells_far _ _ g hgne).trans h2s
  obtain ⟨M, hM⟩ : ∃ M : Nat, l.length = i + M := ⟨l.length - i, by omega⟩
  have hld : (l.drop i).length = M := by rw [List.length_drop]; omega
  have hfd : (row_With.flat (l.drop i)).length = M * 5 := by rw [row_With.flat_length, hld]
  obtain ⟨W4, hW4⟩ : ∃ W4, W3.drew.setCells w.heap.size ((i + 1) * 5) (row_With.flat (l.drop i)) = W4 := ⟨_, rfl⟩
  have hcp2 := fun ty => row_With.run_copy W3.drew ty w.heap.size ((i + 1) * 5) M (C - (i + 1)) ⟨g, i * 5, none⟩ M M M (row_With.flat (l.drop i)) (Nat.min_self M) hfd (row_With.cells_at (w := W3.drew) h3src (by rw [hfd, hcl, row_With.flat_drop l i (by omega), ← hfd, List.take_length])) h3g (by rw [h3s, hc2s]; omega) (row_With.flat_one _)
  rw [hW4] at hcp2
  obtain ⟨c4, h4g, h4s, h4t⟩ := setCells_row (row_With.flat (l.drop i)) ((i + 1) * 5) W3.drew c3 h3g (by rw [h3s, hc2s, hfd]; omega)
  rw [hW4] at h4g
  have hfin : Kd.R k46 46 W4 base (fun _ => True) (.slice (some ⟨w.heap.size, 0, none⟩) (i + K) C) (l.take i ++ x :: l.drop i) := by
    have hlen : (l.take i ++ x :: l.drop i).length = i + K := by rw [List.length_append, List.length_cons, hlt, hld]; omega
    rw [← hlen]
    refine row_With.flat_R hbase h4g (h4s.trans (h3s.trans hc2s)) (by omega) hC2 (row_With.laid (by omega) (Z := c3.toList.drop ((i + 1) * 5 + (row_With.flat (l.drop i)).length)) ?_)
    rw [h4t, h3t, hc2t]
    congr 1
    congr 1
    have : (i + 1) * 5 = (row_With.flat (l.take i) ++ row_With.cs x).length := by rw [List.length_append, hfl]; show _ = i * 5 + 5; omega
    rw [this, List.take_left]
  have hBfin : Below base w W4 := by
    obtain ⟨a1, a2, a3, a4⟩ := setCells_same w.heap.size (row_With.flat (l.drop i)) ((i + 1) * 5) W3.drew
    obtain ⟨b1, b2, b3, b4⟩ := setCells_same w.heap.size (row_With.cs x) (i * 5) W2
    rw [hW4] at a1 a2 a3 a4
    rw [hW3] at b1 b2 b3 b4
    have e4 : W4.heap.size = W2.heap.size := a4.trans b4
    refine ⟨a1.trans (b1.trans h2B.os), a2.trans (b2.trans h2B.tape), a3.trans (b3.trans h2B.output), by rw [e4]; exact h2B.size, fun k hk => ?_⟩
    have hkne : k ≠ w.heap.size := by omega
    rw [← hW4, setCells_far _ _ k hkne]
    show W3.heap[k]? = _
    rw [← hW3, setCells_far _ _ k hkne]
    exact h2B.block k hk
  have HFIN := Aside0.mk hfin
  have HBF := Aside0.mk hBfin
  have e1 : wrap64 ((l.length : Int) + 1) = (l.length : Int) + 1 := by unfold wrap64; omega
  have e2 : wrap64 ((l.length : Int) + 1 - (i : Int)) = (K : Int) := by clear e1; unfold wrap64; omega
  have e3 : wrap64 ((i : Int) + 1) = (i : Int) + 1 := by clear e1 e2; unfold wrap64; omega
  have E := Aside0.mk (And.intro e1 (And.intro e2 e3))
  clear e1 e2 e3
  have t1 : ((i : Int) == (l.length : Int)) = false := beq_eq_false_iff_ne.mpr (by omega)
  have t2 : (i == l.length) = false := beq_eq_false_iff_ne.mpr (by omega)
  have t3 : ¬ i = l.length := by omega
  have u1 : i < l.length := hi
  have u2 : ¬ l.length ≤ i := by omega
  have u3 : i ≤ l.length := by omega
  have u4 : ¬ l.length = i := by omega
  have u5 : ¬ M = 0 := by omega
  have v1 : i < C := by omega
  have v2 : ¬ C ≤ i := by omega
  have v3 : ¬ C - i = 0 := by omega
  have v4 : ¬ C = i := by omega
  have v5 : i ≤ C := by omega
  have x1 : i + 1 < C := by omega
  have x2 : ¬ C ≤ i + 1 := by omega
  have x3 : ¬ C - (i + 1) = 0 := by omega
  have x4 : ¬ C = i + 1 := by omega
  have x5 : i + 1 ≤ i + K := by omega
  have z1 : i + K - (i + 1) = M := by omega
  have z2 : l.length - i = M := by omega
  have z3 : decide ((l.length : Int) + 1 > (l.length : Int)) = true := decide_eq_true (by omega)
  have z4 : decide ((l.length : Int) < (l.length : Int) + 1) = true := decide_eq_true (by omega)
  obtain ⟨e1, e2, e3⟩ := E.out
  clear hr hi hlim hbase hx hbg hcm hg hcs hct hcl hK hC hC1 hC2 hlt hfl hz0 hz1 hz2 hold hW2 hc2 hc2s hc2t h2g h2x h2s h2B hW3 h3g h3s h3t hgne h3src hM hld hfd hW4 h4g h4s h4t hfin hBfin hinf
  go_enter Try.func32, Try.ntmps32
  go_wp2_with (first | ((with_reducible refine gate_builtin (b := .append) (xs := #[.tmp 34, .tmp 39]) rfl ?_); refine Kd.event_run rfl (row_With.do_append (s := .tmp 34) (x := .tmp 39) (V1 := .slice (some ⟨g, 0, none⟩) i l.length) (V2 := .int .i64 (K : Int)) rfl ?hs ?hx (hap _)) ?_; (case hs => first | (go_simp; done) | (go_simp; rfl)); (case hx => first | (go_simp; done) | (go_simp; rfl))) | ((with_reducible refine gate_builtin (b := .copy) (xs := #[.tmp 43, .tmp 44]) rfl ?_); refine Kd.event_run rfl (row_With.do_copy (s := .tmp 43) (x := .tmp 44) (V1 := .slice (some ⟨w.heap.size, i * 5, none⟩) K (C - i)) (V2 := .slice (some ⟨h, 0, none⟩) 1 1) rfl ?hs ?hx (hcp1 _)) ?_; (case hs => first | (go_simp; done) | (go_simp; rfl)); (case hx => first | (go_simp; done) | (go_simp; rfl))))
  go_region
  go_wp2
  go_ret
  exact ⟨_, rfl, HFIN.out, HBF.out⟩
set_option maxHeartbeats 8000000 in
set_option maxRecDepth 100000 in
theorem row_With.ins_fit (l : List S46) (x : S46) (i g cap h base : Nat) (w : World) (hr : Kd.R k46 46 w base (fun _ => True) (.slice (some ⟨g, 0, none⟩) l.length cap) l) (hi : i < l.length) (hcap : l.length + 1 ≤ cap) (hlim : l.length < 1000000) (hx : w.heap[h]? = some (.cells (row_With.cs x).toArray 46 (0, 0))) (hne : h ≠ g) :
    Calls Try.prog 32 #[.slice (some ⟨g, 0, none⟩) l.length cap, .int .i64 (i : Int), .slice (some ⟨h, 0, none⟩) 1 1] w fun e w' => ∃ v0_ : Value, e = .returned (v0_) ∧ Kd.R k46 46 w' base (fun _ => True) v0_ (l.take i ++ x :: l.drop i) ∧ Below base w w' := by
  obtain ⟨_, _, hcm, hbg, cur, hg, hcs, hct⟩ := row_With.R_flat hr
  obtain ⟨M, hM⟩ : ∃ M : Nat, l.length = i + M := ⟨l.length - i, by omega⟩
  obtain ⟨K, hK⟩ : ∃ K : Nat, l.length + 1 = i + K := ⟨l.length + 1 - i, by omega⟩
  have hlt : (l.take i).length = i := by rw [List.length_take]; omega
  have hld : (l.drop i).length = M := by rw [List.length_drop]; omega
  have hft : (row_With.flat (l.take i)).length = i * 5 := by rw [row_With.flat_length, hlt]
  have hfd : (row_With.flat (l.drop i)).length = M * 5 := by rw [row_With.flat_length, hld]
  have hcl : cur.toList.length = cap * 5 := by rw [Array.length_toList, hcs]
  have hc1 : cur.toList.take (i * 5) = row_With.flat (l.take i) := by
    rw [← row_With.flat_take l i (by omega), ← hct, List.take_take, Nat.min_eq_left (by omega)]
  have hc2 : (cur.toList.drop (i * 5)).take (M * 5) = row_With.flat (l.drop i) := by
    rw [← row_With.flat_drop l i (by omega), ← hct, List.drop_take]
    congr 1
    omega
  have hov := row_With.overl w h g ((i + 1) * 5) M (cap - (i + 1)) hx hg hne
  obtain ⟨W1, hW1⟩ : ∃ W1, w.drew.setCells g ((i + 1) * 5) (row_With.flat (l.drop i)) = W1 := ⟨_, rfl⟩
  have hcp1 := fun ty => row_With.run_copy w.drew ty g ((i + 1) * 5) M (cap - (i + 1)) ⟨g, i * 5, none⟩ K (cap - i) M (row_With.flat (l.drop i)) (by show min K M = M; omega) hfd (row_With.cells_at (w := w.drew) hg (by rw [hfd]; exact hc2)) hg (by rw [hcs]; omega) (row_With.flat_one _)
  rw [hW1] at hcp1
  obtain ⟨a1, h1g, h1s, h1t⟩ := setCells_row (row_With.flat (l.drop i)) ((i + 1) * 5) w.drew cur hg (by rw [hcs, hfd]; omega)
  rw [hW1] at h1g
  have h1x : W1.heap[h]? = some (.cells (row_With.cs x).toArray 46 (0, 0)) := hW1 ▸ (setCells_far _ _ h hne).trans hx
  obtain ⟨W2, hW2⟩ : ∃ W2, W1.setCells g (i * 5) (row_With.cs x) = W2 := ⟨_, rfl⟩
  have hcp2 := fun ty => row_With.run_copy W1 ty g (i * 5) K (cap - i) ⟨h, 0, none⟩ 1 1 1 (row_With.cs x) (by show min 1 K = 1; omega) rfl (row_With.cells_at h1x (by simp)) h1g (by rw [h1s, hcs]; omega) (fun q hq => row_With.flat_one [x] q (by simp [row_With.flat]; exact hq))
  rw [hW2] at hcp2
  obtain ⟨a2, h2g, h2s, h2t⟩ := setCells_row (row_With.cs x) (i * 5) W1 a1 h1g (by rw [h1s, hcs]; show i * 5 + 5 ≤ _; omega)
  rw [hW2] at h2g
  have hfin : Kd.R k46 46 W2 base (fun _ => True) (.slice (some ⟨g, 0, none⟩) (l.length + 1) cap) (l.take i ++ x :: l.drop i) := by
    have hlen : (l.take i ++ x :: l.drop i).length = l.length + 1 := by rw [List.length_append, List.length_cons, hlt, hld]; omega
    rw [← hlen]
    refine row_With.flat_R hbg h2g (h2s.trans (h1s.trans hcs)) (by omega) hcm (row_With.laid (by omega) (Z := cur.toList.drop ((i + 1) * 5 + (row_With.flat (l.drop i)).length)) ?_)
    have e1 : (cur.toList.take ((i + 1) * 5)).length = (i + 1) * 5 := by rw [List.length_take, hcl]; omega
    have p1 : a1.toList.take (i * 5) = row_With.flat (l.take i) := by
      rw [h1t, List.append_assoc, List.take_append_of_le_length (by rw [e1]; omega), List.take_take, Nat.min_eq_left (by omega), hc1]
    have p2 : a1.toList.drop (i * 5 + (row_With.cs x).length) = row_With.flat (l.drop i) ++ cur.toList.drop ((i + 1) * 5 + (row_With.flat (l.drop i)).length) := by
      have : i * 5 + (row_With.cs x).length = (cur.toList.take ((i + 1) * 5)).length := by rw [e1]; show i * 5 + 5 = _; omega
      rw [h1t, List.append_assoc, this, List.drop_left]
    rw [h2t, p1, p2, List.append_assoc, List.append_assoc, List.append_assoc]
  have hBfin : Below base w W2 := by
    obtain ⟨a1, a2, a3, a4⟩ := setCells_same g (row_With.flat (l.drop i)) ((i + 1) * 5) w.drew
    obtain ⟨b1, b2, b3, b4⟩ := setCells_same g (row_With.cs x) (i * 5) W1
    rw [hW1] at a1 a2 a3 a4
    rw [hW2] at b1 b2 b3 b4
    have e4 : W2.heap.size = w.heap.size := b4.trans a4
    refine ⟨b1.trans a1, b2.trans a2, b3.trans a3, by rw [e4]; exact Nat.le_refl _, fun k hk => ?_⟩
    have hkne : k ≠ g := by omega
    rw [← hW2, setCells_far _ _ k hkne, ← hW1, setCells_far _ _ k hkne]
    rfl
  have HFIN := Aside0.mk hfin
  have HBF := Aside0.mk hBfin
  have e1 : wrap64 ((l.length : Int) + 1) = (l.length : Int) + 1 := by unfold wrap64; omega
  have e3 : wrap64 ((i : Int) + 1) = (i : Int) + 1 := by clear e1; unfold wrap64; omega
  have E := Aside0.mk (And.intro e1 e3)
  clear e1 e3
  have t1 : ((i : Int) == (l.length : Int)) = false := beq_eq_false_iff_ne.mpr (by omega)
  have t2 : (i == l.length) = false := beq_eq_false_iff_ne.mpr (by omega)
  have t3 : ¬ i = l.length := by omega
  have u1 : i < l.length := hi
  have u2 : ¬ l.length ≤ i := by omega
  have u3 : i ≤ l.length := by omega
  have v1 : i < cap := by omega
  have v2 : ¬ cap ≤ i := by omega
  have v3 : ¬ cap - i = 0 := by omega
  have v4 : ¬ cap = i := by omega
  have x1 : i + 1 < cap := by omega
  have x2 : ¬ cap ≤ i + 1 := by omega
  have x3 : ¬ cap - (i + 1) = 0 := by omega
  have x4 : ¬ cap = i + 1 := by omega
  have x5 : i + 1 ≤ l.length + 1 := by omega
  have x6 : l.length + 1 ≤ cap := hcap
  have x7 : l.length < cap := by omega
  have z1 : l.length + 1 - (i + 1) = M := by omega
  have z2 : l.length - i = M := by omega
  have z5 : l.length + 1 - i = K := by omega
  have z3 : decide ((l.length : Int) + 1 > (cap : Int)) = false := decide_eq_false (by omega)
  have z4 : decide ((cap : Int) < (l.length : Int) + 1) = false := decide_eq_false (by omega)
  have z6 : ¬ (cap : Int) < (l.length : Int) + 1 := by omega
  have z7 : ((l.length : Int) + 1 ≤ (cap : Int)) = True := eq_true (by omega)
  obtain ⟨e1, e3⟩ := E.out
  clear hr hi hcap hlim hx hne hcm hg hcs hct hM hK hlt hld hft hfd hcl hc1 hc2 hW1 h1g h1s h1t h1x hW2 h2g h2s h2t hfin hBfin hbg
  go_enter Try.func32, Try.ntmps32
  go_wp2
  go_region
  go_wp2
  go_ret
  exact ⟨_, rfl, HFIN.out, HBF.out⟩
theorem row_With.ins_none (x : S46) (l : List S46) (h : row_With.find x.f0 l = -1) : row_With.ins x l = l ++ [x] := by
  unfold row_With.find at h
  unfold row_With.ins
  cases hf : l.findIdx? (row_With.is x.f0) with
  | none => rfl
  | some i => rw [hf] at h; have h : (i : Int) = -1 := h; omega
theorem row_With.ins_some (x : S46) (l : List S46) (i : Int) (h : row_With.find x.f0 l = i) (h0 : ¬ i < 0) : ∃ k : Nat, i = (k : Int) ∧ k < l.length ∧ row_With.ins x l = l.take k ++ x :: l.drop k := by
  unfold row_With.find at h
  unfold row_With.ins
  cases hf : l.findIdx? (row_With.is x.f0) with
  | none => rw [hf] at h; have h : (-1 : Int) = i := h; omega
  | some k =>
    rw [hf] at h
    have h : (k : Int) = i := h
    exact ⟨k, h.symm, (List.findIdx?_eq_some_iff_getElem.1 hf).1, rfl⟩
/-- Insert, wherever. -/
theorem row_With.insert (l : List S46) (x : S46) (v : Value) (i h base : Nat) (w : World) (hr : Kd.R k46 46 w base (fun _ => True) v l) (hi : i < l.length) (hlim : l.length < 1000000) (hbase : base ≤ w.heap.size) (hx : w.heap[h]? = some (.cells (row_With.cs x).toArray 46 (0, 0))) (hne : some h ≠ v.ownBlock) :
    Calls Try.prog 32 #[v, .int .i64 (i : Int), .slice (some ⟨h, 0, none⟩) 1 1] w fun e w' => ∃ v0_ : Value, e = .returned (v0_) ∧ Kd.R k46 46 w' base (fun _ => True) v0_ (l.take i ++ x :: l.drop i) ∧ Below base w w' := by
  obtain ⟨g, cap, rfl, hbg, hnc, _⟩ := row_Without.shape hr (by omega)
  by_cases hc : l.length = cap
  · subst hc
    exact row_With.ins_grow l x i g h base w hr hi hlim hbase hx
  · exact row_With.ins_fit l x i g cap h base w hr hi (by omega) hlim hx (fun e => hne (by rw [e]; rfl))
theorem row_With.insert_end (l : List S46) (x : S46) (v : Value) (h base : Nat) (w : World) (hr : Kd.R k46 46 w base (fun _ => True) v l) (hlim : l.length < 1000000) (hbase : base ≤ w.heap.size) (hx : w.heap[h]? = some (.cells (row_With.cs x).toArray 46 (0, 0))) :
    Calls Try.prog 32 #[v, .int .i64 (l.length : Int), .slice (some ⟨h, 0, none⟩) 1 1] w fun e w' => ∃ v0_ : Value, e = .returned (v0_) ∧ Kd.R k46 46 w' base (fun _ => True) v0_ (l ++ [x]) ∧ Below base w w' := by
  obtain ⟨A, cap, rfl, _, _⟩ := Kd.R_reads hr
  refine row_With.ins_end l x A cap h base w hr (fun hA => ?_) hlim hbase hx
  subst hA
  obtain ⟨_, inner, ho, _⟩ := hr
  rcases ho.2 with ⟨hv, _⟩ | ⟨_, _, _, hv, _⟩
  · injection hv
  · cases hv
set_option maxHeartbeats 8000000 in
set_option maxRecDepth 100000 in
theorem row_With.calls (A0 : Option Addr) (c0 : Nat) (l0 : List (S46)) (a1 : Int) (a2_0 a2_1 a2_2 : Int) (a2_3 : ByteArray) (r : List (S46)) (w : World) (hr0 : Kd.C k46 w A0 l0.length l0) (hc0 : l0.length ≤ c0) (h : row_With.f l0 a1 a2_0 a2_1 a2_2 a2_3 = some r) :
    Calls Try.prog 20 #[.slice A0 l0.length c0, .int .i64 a1, .agg #[.int .i64 a2_0, .int .i64 a2_1, .int .u64 a2_2, .string a2_3]] w fun e w' => ∃ v0_ : Value, e = .returned (v0_) ∧ Kd.R k46 46 w' w.heap.size (fun _ => True) v0_ r ∧ Below w.heap.size w w' := by
  unfold row_With.f at h
  obtain ⟨m, hm, rfl⟩ := Option.map_eq_some_iff.1 h
  have hml : m.length < 1000000 := by
    unfold row_Without.f at hm
    by_cases hl : l0.length < 1000000
    · rw [if_pos hl] at hm
      obtain rfl := Option.some.inj hm
      exact Nat.lt_of_le_of_lt (List.length_filter_le _ _) hl
    · rw [if_neg hl] at hm; cases hm
  have HR0 := Aside0.mk hr0
  have HC0 := Aside0.mk hc0
  have HM := Aside0.mk hm
  have HL := Aside0.mk hml
  obtain ⟨x, hxe⟩ : ∃ x : S46, (⟨a1, ⟨a2_0, a2_1, a2_2, a2_3⟩⟩ : S46) = x := ⟨_, rfl⟩
  rw [hxe]
  have hx0 : x.f0 = a1 := by rw [← hxe]
  have hcs : row_With.cs x = [.int .i64 a1, .int .i64 a2_0, .int .i64 a2_1, .int .u64 a2_2, .string a2_3] := by rw [← hxe]; rfl
  obtain ⟨fi, hfi⟩ : ∃ i, row_With.find x.f0 m = i := ⟨_, rfl⟩
  have HFI := Aside0.mk hfi
  have HX0 := Aside0.mk hx0
  have HCS := Aside0.mk hcs
  have hmf : ∀ (fn : Fn) (first cap : Array Value) (w : World), (Instr.makeFunc fn first cap).run Try.prog w = .ok (.func fn first cap) w := fun _ _ _ _ => rfl
  clear h hr0 hc0 hm hml hxe hx0 hcs hfi
  by_cases hneg : fi < 0
  · have q1 : decide (fi < 0) = true := decide_eq_true hneg
    have HE := Aside0.mk (row_With.ins_none x m (by have h1 := HFI.out; have h2 := hneg; unfold row_With.find at h1 ⊢; split at h1 <;> omega))
    go_enter Try.func20, Try.ntmps20
    go_wp2_with (first | (go_at_call 21; refine (row_Without.calls A0 c0 l0 a1 m _ (Kd.C_alloc (Kd.C_alloc HR0.out _) _) HC0.out HM.out).mono ?_; rintro e w1 ⟨v1, rfl, ho1, hb1⟩; have BK := Aside0.mk (blk_below (blk_alloc (blk_new w (.cells #[.int .i64 a1] 3)) (.cells #[.int .i64 a2_0, .int .i64 a2_1, .int .u64 a2_2, .string a2_3] 44)) hb1); have BV := Aside0.mk (blk_below (blk_new (w.alloc (.cells #[.int .i64 a1] 3)) (.cells #[.int .i64 a2_0, .int .i64 a2_1, .int .u64 a2_2, .string a2_3] 44)) hb1); have HO1 := Aside0.mk (Kd.R_lower ho1 (show w.heap.size ≤ _ from by first | (simp; done) | (simp; omega))); have HB1 := Aside0.mk (below_then (below_alloc (below_alloc (Below.refl _ w) (.cells #[.int .i64 a1] 3)) (.cells #[.int .i64 a2_0, .int .i64 a2_1, .int .u64 a2_2, .string a2_3] 44)) (by first | (simp; done) | (simp; omega)) hb1); obtain ⟨VA, VC, rfl, HVC, HCC⟩ := Kd.R_reads HO1.out; clear ho1 hb1; have k1 : w1.cell? ⟨w.heap.size, 0, none⟩ = some (.int .i64 a1) := (blk_cell BK.out 0).trans rfl) | (go_at_call 26; refine (row_With.idx VA VC m x.f0 w.heap.size _ HCC ((blk_cell BK.out 0).trans (by simp [HX0.out])) (blk_lt BK.out)).mono ?_; rintro e w2 ⟨he2, hb2⟩; rw [HFI.out] at he2; subst he2; have BK2 := Aside0.mk (blk_below BK.out hb2); have BV2 := Aside0.mk (blk_below BV.out hb2); have HO2 := Aside0.mk (Kd.R_below HO1.out hb2); have HB2 := Aside0.mk (below_then HB1.out HB1.out.size hb2); clear hb2; have k2 : w2.cell? ⟨w.heap.size, 0, none⟩ = some (.int .i64 a1) := (blk_cell BK2.out 0).trans rfl; have g0 : w2.cell? ⟨w.heap.size + 1, 0, none⟩ = some (.int .i64 a2_0) := (by have h := BV2.out; rw [World.size_alloc] at h; exact (blk_cell h 0).trans rfl); have g1 : w2.cell? ⟨w.heap.size + 1, 1, none⟩ = some (.int .i64 a2_1) := (by have h := BV2.out; rw [World.size_alloc] at h; exact (blk_cell h 1).trans rfl); have g2 : w2.cell? ⟨w.heap.size + 1, 2, none⟩ = some (.int .u64 a2_2) := (by have h := BV2.out; rw [World.size_alloc] at h; exact (blk_cell h 2).trans rfl); have g3 : w2.cell? ⟨w.heap.size + 1, 3, none⟩ = some (.string a2_3) := (by have h := BV2.out; rw [World.size_alloc] at h; exact (blk_cell h 3).trans rfl)) | (go_at_call 32; refine (row_With.insert_end m x (.slice VA m.length VC) w2.heap.size w.heap.size _ (Kd.R_alloc HO2.out _) HL.out (Nat.le_trans HB2.out.size (by simp)) (show ((w2.alloc (.cells #[.int .i64 a1, .int .i64 a2_0, .int .i64 a2_1, .int .u64 a2_2, .string a2_3] 46))).heap[w2.heap.size]? = some (.cells (row_With.cs x).toArray 46 (0, 0)) from by rw [HCS.out]; exact blk_new w2 _)).mono ?_; rintro e w3 ⟨v3, rfl, ho3, hb3⟩; have HO3 := Aside0.mk ho3; have HB3 := Aside0.mk ((HB2.out.alloc HB2.out.size _).trans hb3); clear ho3 hb3))
    go_ret
    exact ⟨_, rfl, by rw [HE.out]; exact HO3.out, HB3.out⟩
  · have q1 : decide (fi < 0) = false := decide_eq_false hneg
    obtain ⟨k0, rfl, hk0, he⟩ := row_With.ins_some x m fi HFI.out hneg
    have HE := Aside0.mk he
    have HK := Aside0.mk hk0
    clear he hk0
    go_enter Try.func20, Try.ntmps20
    go_wp2_with (first | (go_at_call 21; refine (row_Without.calls A0 c0 l0 a1 m _ (Kd.C_alloc (Kd.C_alloc HR0.out _) _) HC0.out HM.out).mono ?_; rintro e w1 ⟨v1, rfl, ho1, hb1⟩; have BK := Aside0.mk (blk_below (blk_alloc (blk_new w (.cells #[.int .i64 a1] 3)) (.cells #[.int .i64 a2_0, .int .i64 a2_1, .int .u64 a2_2, .string a2_3] 44)) hb1); have BV := Aside0.mk (blk_below (blk_new (w.alloc (.cells #[.int .i64 a1] 3)) (.cells #[.int .i64 a2_0, .int .i64 a2_1, .int .u64 a2_2, .string a2_3] 44)) hb1); have HO1 := Aside0.mk (Kd.R_lower ho1 (show w.heap.size ≤ _ from by first | (simp; done) | (simp; omega))); have HB1 := Aside0.mk (below_then (below_alloc (below_alloc (Below.refl _ w) (.cells #[.int .i64 a1] 3)) (.cells #[.int .i64 a2_0, .int .i64 a2_1, .int .u64 a2_2, .string a2_3] 44)) (by first | (simp; done) | (simp; omega)) hb1); obtain ⟨VA, VC, rfl, HVC, HCC⟩ := Kd.R_reads HO1.out; clear ho1 hb1; have k1 : w1.cell? ⟨w.heap.size, 0, none⟩ = some (.int .i64 a1) := (blk_cell BK.out 0).trans rfl) | (go_at_call 26; refine (row_With.idx VA VC m x.f0 w.heap.size _ HCC ((blk_cell BK.out 0).trans (by simp [HX0.out])) (blk_lt BK.out)).mono ?_; rintro e w2 ⟨he2, hb2⟩; rw [HFI.out] at he2; subst he2; have BK2 := Aside0.mk (blk_below BK.out hb2); have BV2 := Aside0.mk (blk_below BV.out hb2); have HO2 := Aside0.mk (Kd.R_below HO1.out hb2); have HB2 := Aside0.mk (below_then HB1.out HB1.out.size hb2); clear hb2; have k2 : w2.cell? ⟨w.heap.size, 0, none⟩ = some (.int .i64 a1) := (blk_cell BK2.out 0).trans rfl; have g0 : w2.cell? ⟨w.heap.size + 1, 0, none⟩ = some (.int .i64 a2_0) := (by have h := BV2.out; rw [World.size_alloc] at h; exact (blk_cell h 0).trans rfl); have g1 : w2.cell? ⟨w.heap.size + 1, 1, none⟩ = some (.int .i64 a2_1) := (by have h := BV2.out; rw [World.size_alloc] at h; exact (blk_cell h 1).trans rfl); have g2 : w2.cell? ⟨w.heap.size + 1, 2, none⟩ = some (.int .u64 a2_2) := (by have h := BV2.out; rw [World.size_alloc] at h; exact (blk_cell h 2).trans rfl); have g3 : w2.cell? ⟨w.heap.size + 1, 3, none⟩ = some (.string a2_3) := (by have h := BV2.out; rw [World.size_alloc] at h; exact (blk_cell h 3).trans rfl)) | (go_at_call 32; refine (row_With.insert m x (.slice VA m.length VC) k0 w2.heap.size w.heap.size _ (Kd.R_alloc HO2.out _) HK.out HL.out (Nat.le_trans HB2.out.size (by simp)) (show ((w2.alloc (.cells #[.int .i64 a1, .int .i64 a2_0, .int .i64 a2_1, .int .u64 a2_2, .string a2_3] 46))).heap[w2.heap.size]? = some (.cells (row_With.cs x).toArray 46 (0, 0)) from by rw [HCS.out]; exact blk_new w2 _) (by intro e; have := Kd.R_lt HO2.out _ e.symm; omega)).mono ?_; rintro e w3 ⟨v3, rfl, ho3, hb3⟩; have HO3 := Aside0.mk ho3; have HB3 := Aside0.mk ((HB2.out.alloc HB2.out.size _).trans hb3); clear ho3 hb3))
    go_ret
    exact ⟨_, rfl, by rw [HE.out]; exact HO3.out, HB3.out⟩

end Go.Proofs.Ytebfilljdnhccaa.PA
