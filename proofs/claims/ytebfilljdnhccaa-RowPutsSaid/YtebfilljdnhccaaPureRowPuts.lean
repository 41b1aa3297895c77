/- The bytes of any cells are the document's, or they are refused: for all cells; of rows that are long nothing is asked. -/
import Derived.Test.YtebfilljdnhccaaRPx4
import Derived.Test.YtebfilljdnhccaaRPx8
import Derived.Test.YtebfilljdnhccaaLibsRP
namespace Go.Proofs.Ytebfilljdnhccaa.Pure
open Go.RowKit Go.Proofs.Ytebfilljdnhccaa.PA Go.Proofs.YtebfilljdnhccaaW.PrintWords Go.Proofs.YtebfilljdnhccaaW.PrintLast Go.Proofs.Ytebfilljdnhccaa.Plain

theorem RowPuts (l : List Cel) (gl : l.length ≤ maxLen ∧ ∀ x ∈ l, ((Lit.int .i64 x.f0).wf = true ∧ ((Lit.int .i64 x.f1.f0).wf = true ∧ (Lit.int .i64 x.f1.f1).wf = true ∧ (Lit.int .u64 x.f1.f2).wf = true ∧ x.f1.f3.size ≤ maxLen)))
    (_ : l.length * 48 ≤ 140737488351232) : ∃ K, falseworklaw4_RowPuts.f K l = some true := by
  have g : ∀ c ∈ l, Cel.Good c := gl.2
  refine ⟨1200, ?_⟩
  unfold falseworklaw4_RowPuts.f
  obtain ⟨b, hb, hf⟩ := row_long_is l 1200 (by decide)
  rw [hb, Option.bind_some, row_awake_true 1200 (by decide)]
  cases b
  · have := hf rfl
    rw [if_neg (by decide), row_put_is l g (by omega) 1200 (by omega), rrow_put_is l g (by omega) 1200 (by omega)]
    simp [falseworklaw4_num.f]
  · rfl
end Go.Proofs.Ytebfilljdnhccaa.Pure
