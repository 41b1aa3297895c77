/- With, and without a cell, any cells are the document's; what was handed in stays: for all cells; of rows that are long nothing is asked. -/
import Derived.Test.YtebfilljdnhccaaRWx11
import Derived.Test.YtebfilljdnhccaaLibsRW
namespace Go.Proofs.Ytebfilljdnhccaa.Pure
open Go.RowKit Go.Proofs.Ytebfilljdnhccaa.PA Go.Proofs.YtebfilljdnhccaaW.PrintWords Go.Proofs.YtebfilljdnhccaaW.PrintLast Go.Proofs.Ytebfilljdnhccaa.Plain

theorem RowWiths (l : List Cel) (col k n f : Int) (s : ByteArray) (_ : l.length ≤ maxLen ∧ ∀ x ∈ l, ((Lit.int .i64 x.f0).wf = true ∧ ((Lit.int .i64 x.f1.f0).wf = true ∧ (Lit.int .i64 x.f1.f1).wf = true ∧ (Lit.int .u64 x.f1.f2).wf = true ∧ x.f1.f3.size ≤ maxLen)))
    (_ : (Lit.int .i64 col).wf = true) (_ : (Lit.int .i64 k).wf = true ∧ (Lit.int .i64 n).wf = true ∧ (Lit.int .u64 f).wf = true ∧ s.size ≤ maxLen) : ∃ K, falseworklaw4_RowWiths.f K l col k n f s = some true := by
  refine ⟨2001, ?_⟩
  have j0t : falseworklaw4_RowWiths.j0 2001 l col true k n f s = some true := by
    simp only [falseworklaw4_RowWiths.j0, if_true]; rw [row_awake_true 2000 (by decide)]; rfl
  unfold falseworklaw4_RowWiths.f
  obtain ⟨b, hb, hf⟩ := row_long_is l 2001 (by decide)
  rw [hb, Option.bind_some]
  cases b with
  | true => exact j0t
  | false =>
    have hl := hf rfl
    rw [if_neg (by decide)]
    by_cases h : (s.size : Int) > 1000
    · rw [decide_eq_true h]; exact j0t
    · rw [decide_eq_false h]
      have h1 := without_length col l
      have h2 := ins_length (⟨col, ⟨k, n, f, s⟩⟩ : Cel) (without col l)
      simp only [falseworklaw4_RowWiths.j0, Bool.false_eq_true, if_false, Option.bind_some]
      rw [if_pos (by show 0 + _ < _; omega), with_is l (by omega), Option.bind_some, without_is l (by omega), Option.bind_some, rwith_is l (by omega) col k n f s 2000 (by omega), Option.bind_some, samec_is _ (by omega) 2000 (by omega), Option.bind_some, if_pos rfl,
        rwithout_is l (by omega) col 2000 (by omega), Option.bind_some, samec_is _ (by omega) 2000 (by omega), Option.bind_some, if_pos rfl, List.nil_append, samec_is l (by omega) 2000 (by omega), Option.bind_some, if_pos rfl, row_awake_true 2000 (by decide)]
      rfl
end Go.Proofs.Ytebfilljdnhccaa.Pure
