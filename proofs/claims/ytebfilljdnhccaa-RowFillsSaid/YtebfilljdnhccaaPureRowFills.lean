/- The values of any cells over any columns are the document's: for all cells and columns; of rows that are long nothing is asked. -/
import Derived.Test.YtebfilljdnhccaaRFx5
import Derived.Test.YtebfilljdnhccaaRFx7
import Derived.Test.YtebfilljdnhccaaLibsRF
namespace Go.Proofs.Ytebfilljdnhccaa.Pure
open Go.RowKit Go.Proofs.Ytebfilljdnhccaa.PA Go.Proofs.YtebfilljdnhccaaW.PrintWords Go.Proofs.YtebfilljdnhccaaW.PrintLast Go.Proofs.Ytebfilljdnhccaa.Plain

theorem RowFills (l : List Cel) (cols : List Col) (_ : l.length ≤ maxLen ∧ ∀ x ∈ l, ((Lit.int .i64 x.f0).wf = true ∧ ((Lit.int .i64 x.f1.f0).wf = true ∧ (Lit.int .i64 x.f1.f1).wf = true ∧ (Lit.int .u64 x.f1.f2).wf = true ∧ x.f1.f3.size ≤ maxLen)))
    (_ : l.length * 48 ≤ 140737488351232)
    (_ : cols.length ≤ maxLen ∧ ∀ x ∈ cols, ((Lit.int .i64 x.f0).wf = true ∧ x.f1.size ≤ maxLen ∧ (Lit.int .i64 x.f2).wf = true ∧ (Lit.int .i64 x.f3).wf = true ∧ (Lit.int .i64 x.f4).wf = true ∧ ((Lit.int .i64 x.f5.f0).wf = true ∧ (Lit.int .i64 x.f5.f1).wf = true ∧ (Lit.int .u64 x.f5.f2).wf = true ∧ x.f5.f3.size ≤ maxLen)))
    (_ : cols.length * 88 ≤ 140737488351232) : ∃ K, falseworklaw4_RowFills.f K l cols = some true := by
  refine ⟨60001, ?_⟩
  have j0t : falseworklaw4_RowFills.j0 60001 l cols true = some true := by
    simp only [falseworklaw4_RowFills.j0, if_true]; rw [row_awake_true 60000 (by decide)]; rfl
  unfold falseworklaw4_RowFills.f
  obtain ⟨b, hb, hf⟩ := row_long_is l 60001 (by decide)
  rw [hb, Option.bind_some]
  cases b
  · have hl := hf rfl
    rw [if_neg (by decide)]
    by_cases h : (cols.length : Int) > 100
    · rw [decide_eq_true h]; exact j0t
    · rw [decide_eq_false h]
      have hfill : row_Fill.f l cols = some (cols.map (row_Fill.one l)) := by unfold row_Fill.f; rw [if_pos (by omega)]
      have hm : cols.length * (l.length + 2) ≤ 100 * 502 := Nat.mul_le_mul (by omega) (by omega)
      simp only [falseworklaw4_RowFills.j0, Bool.false_eq_true, if_false]
      rw [hfill, Option.bind_some, rfill_is l (by omega) cols (by omega) 60000 (by omega), Option.bind_some, same_is _ (by rw [List.length_map]; omega) 60000 (by rw [List.length_map]; omega), Option.bind_some, if_pos rfl, row_awake_true 60000 (by decide)]; rfl
  · exact j0t
end Go.Proofs.Ytebfilljdnhccaa.Pure
