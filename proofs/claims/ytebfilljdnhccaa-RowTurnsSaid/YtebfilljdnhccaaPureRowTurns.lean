/- Behind With its column has that value, all others what they had; With, and Without then, is Without: for all cells and columns; of rows that are long nothing is asked. -/
import Derived.Test.YtebfilljdnhccaaRTx0
import Derived.Test.YtebfilljdnhccaaRTx6
import Derived.Test.YtebfilljdnhccaaRTx7
import Derived.Test.YtebfilljdnhccaaRTx9
import Derived.Test.YtebfilljdnhccaaRTx10
import Derived.Test.YtebfilljdnhccaaLibsRT
namespace Go.Proofs.Ytebfilljdnhccaa.Pure
open Go.RowKit Go.Proofs.Ytebfilljdnhccaa.PA Go.Proofs.YtebfilljdnhccaaW.PrintWords Go.Proofs.YtebfilljdnhccaaW.PrintLast Go.Proofs.Ytebfilljdnhccaa.Plain

theorem first_without (col id : Int) (d : Vc) (l : List Cel) (h : ¬ id = col) : firstV id d (without col l) = firstV id d l := by
  induction l with
  | nil => rfl
  | cons c r ih =>
    rw [without_cons]
    by_cases hc : c.f0 = col
    · rw [if_pos hc, ih]
      show _ = if c.f0 = id then c.f1 else firstV id d r
      rw [if_neg (fun e : c.f0 = id => h (e.symm.trans hc))]
    · rw [if_neg hc]
      show (if c.f0 = id then c.f1 else firstV id d (without col r)) = if c.f0 = id then c.f1 else firstV id d r
      rw [ih]
theorem first_ins (x : Cel) (id : Int) (d : Vc) (l : List Cel) (h : ¬ id = x.f0) : firstV id d (row_With.ins x l) = firstV id d l := by
  induction l with
  | nil =>
    show (if x.f0 = id then x.f1 else d) = d
    rw [if_neg (fun e => h e.symm)]
  | cons c r ih =>
    rw [ins_cons]
    split
    · show (if x.f0 = id then x.f1 else firstV id d (c :: r)) = _
      rw [if_neg (fun e => h e.symm)]
    · show (if c.f0 = id then c.f1 else firstV id d (row_With.ins x r)) = if c.f0 = id then c.f1 else firstV id d r
      rw [ih]
theorem first_here (x : Cel) (d : Vc) (l : List Cel) (h : ∀ c ∈ l, ¬ c.f0 = x.f0) : firstV x.f0 d (row_With.ins x l) = x.f1 := by
  induction l with
  | nil =>
    show (if x.f0 = x.f0 then x.f1 else d) = x.f1
    rw [if_pos rfl]
  | cons c r ih =>
    rw [ins_cons]
    split
    · show (if x.f0 = x.f0 then x.f1 else firstV x.f0 d (c :: r)) = x.f1
      rw [if_pos rfl]
    · show (if c.f0 = x.f0 then c.f1 else firstV x.f0 d (row_With.ins x r)) = x.f1
      rw [if_neg (h c List.mem_cons_self), ih (fun c hc => h c (List.mem_cons_of_mem _ hc))]
theorem none_left (col : Int) (l : List Cel) : ∀ c ∈ without col l, ¬ c.f0 = col := by
  intro c hc
  have := (List.mem_filter.1 hc).2
  simpa [row_Without.is] using this
theorem rdv_at (l : List Vc) (i : Nat) (x : Vc) (h : l[i]? = some x) : rd_T44 l (i : Int) = x := by
  unfold rd_T44
  rw [Int.toNat_natCast, List.getD_eq_getElem?_getD, h]
  rfl
theorem turn_from (l : List Cel) (hl : l.length ≤ 1000) (col k n f : Int) (s : ByteArray) (cols : List Col) (hc : cols.length ≤ 1000) (w : List Cel) (hw : w = row_With.ins ⟨col, ⟨k, n, f, s⟩⟩ (without col l)) (d : Nat) : ∀ (K i : Nat), i + d = cols.length → d + 1200 < K →
    falseworklaw4_RowTurns.l0 K l col cols w (cols.map (row_Fill.one l)) (cols.map (row_Fill.one w)) (i : Int) k n f s = some true := by
  have h1 := without_length col l
  have h2 : w.length = (without col l).length + 1 := by rw [hw, ins_length]
  induction d with
  | zero =>
    intro K i hi hk
    obtain ⟨K, rfl⟩ : ∃ m, K = m + 1 := ⟨K - 1, by omega⟩
    simp only [falseworklaw4_RowTurns.l0]
    have e : without col w = without col l := by
      rw [hw]
      exact (without_ins (⟨col, ⟨k, n, f, s⟩⟩ : Cel) (without col l)).trans (without_twice col l)
    rw [if_neg (by omega), without_is w (by omega), Option.bind_some, without_is l (by omega), Option.bind_some, e, samec_is _ (by omega) K (by omega), Option.bind_some, if_pos rfl, row_awake_true K (by omega)]
    rfl
  | succ d ih =>
    intro K i hi hk
    obtain ⟨K, rfl⟩ : ∃ m, K = m + 1 := ⟨K - 1, by omega⟩
    obtain ⟨c, hcc, hm, hd⟩ := rdcol_at cols i (by omega)
    have hci : cols[i]? = some c := by
      have := congrArg List.head? hd
      rwa [List.head?_drop] at this
    have ha : rd_T44 (cols.map (row_Fill.one l)) (i : Int) = firstV c.f0 c.f5 l := rdv_at _ i _ (by rw [List.getElem?_map, hci, ← fill_first]; rfl)
    have hb : rd_T44 (cols.map (row_Fill.one w)) (i : Int) = firstV c.f0 c.f5 w := rdv_at _ i _ (by rw [List.getElem?_map, hci, ← fill_first]; rfl)
    have hnext := ih K (i + 1) (by omega) (by omega)
    simp only [falseworklaw4_RowTurns.l0]
    rw [if_pos (by omega), if_pos (by omega), hcc, show wrap64 ((i : Int) + 1) = ((i + 1 : Nat) : Int) by unfold wrap64; omega, ha, hb]
    by_cases he : c.f0 = col
    · have e : firstV c.f0 c.f5 w = (⟨k, n, f, s⟩ : Vc) := by
        rw [hw, he]
        exact first_here (⟨col, ⟨k, n, f, s⟩⟩ : Cel) c.f5 _ (none_left col l)
      rw [if_pos he, if_pos (by rw [List.length_map]; omega), e, if_neg (by simp)]
      exact hnext
    · have e : firstV c.f0 c.f5 w = firstV c.f0 c.f5 l := by
        rw [hw]
        exact (first_ins (⟨col, ⟨k, n, f, s⟩⟩ : Cel) c.f0 c.f5 _ he).trans (first_without col c.f0 c.f5 l he)
      rw [if_neg he, if_pos (by rw [List.length_map]; omega), if_pos (by rw [List.length_map]; omega), e, if_neg (by simp)]
      exact hnext
theorem RowTurns (l : List Cel) (col k n f : Int) (s : ByteArray) (cols : List Col) (_ : l.length ≤ maxLen ∧ ∀ x ∈ l, ((Lit.int .i64 x.f0).wf = true ∧ ((Lit.int .i64 x.f1.f0).wf = true ∧ (Lit.int .i64 x.f1.f1).wf = true ∧ (Lit.int .u64 x.f1.f2).wf = true ∧ x.f1.f3.size ≤ maxLen)))
    (_ : (Lit.int .i64 col).wf = true) (_ : (Lit.int .i64 k).wf = true ∧ (Lit.int .i64 n).wf = true ∧ (Lit.int .u64 f).wf = true ∧ s.size ≤ maxLen)
    (_ : cols.length ≤ maxLen ∧ ∀ x ∈ cols, ((Lit.int .i64 x.f0).wf = true ∧ x.f1.size ≤ maxLen ∧ (Lit.int .i64 x.f2).wf = true ∧ (Lit.int .i64 x.f3).wf = true ∧ (Lit.int .i64 x.f4).wf = true ∧ ((Lit.int .i64 x.f5.f0).wf = true ∧ (Lit.int .i64 x.f5.f1).wf = true ∧ (Lit.int .u64 x.f5.f2).wf = true ∧ x.f5.f3.size ≤ maxLen))) :
    ∃ K, falseworklaw4_RowTurns.f K l col k n f s cols = some true := by
  refine ⟨3002, ?_⟩
  have j0t : falseworklaw4_RowTurns.j0 3002 l col cols true k n f s = some true := by
    simp only [falseworklaw4_RowTurns.j0, if_true]; rw [row_awake_true 3001 (by decide)]; rfl
  unfold falseworklaw4_RowTurns.f
  obtain ⟨b, hb, hf⟩ := row_long_is l 3002 (by decide)
  rw [hb, Option.bind_some]
  cases b with
  | true => exact j0t
  | false =>
    have hl := hf rfl
    rw [if_neg (by decide)]
    by_cases h : (s.size : Int) > 1000
    · rw [if_pos h]; exact j0t
    · rw [if_neg h]
      by_cases hc : (cols.length : Int) > 100
      · rw [decide_eq_true hc]; exact j0t
      · rw [decide_eq_false hc]
        have hfill : ∀ m : List Cel, row_Fill.f m cols = some (cols.map (row_Fill.one m)) := fun m => by unfold row_Fill.f; rw [if_pos (by omega)]
        simp only [falseworklaw4_RowTurns.j0, Bool.false_eq_true, if_false]
        rw [with_is l (by omega), Option.bind_some, hfill, Option.bind_some, hfill, Option.bind_some, if_pos (by rw [List.length_map])]
        have e : (((cols.map (row_Fill.one (row_With.ins ⟨col, ⟨k, n, f, s⟩⟩ (without col l)))).length : Int) != (cols.length : Int)) = false := by rw [List.length_map]; simp
        rw [e]
        simp only [falseworklaw4_RowTurns.j1, Bool.false_eq_true, if_false]
        exact turn_from l (by omega) col k n f s cols (by omega) _ rfl cols.length 3000 0 (by omega) (by omega)
end Go.Proofs.Ytebfilljdnhccaa.Pure
