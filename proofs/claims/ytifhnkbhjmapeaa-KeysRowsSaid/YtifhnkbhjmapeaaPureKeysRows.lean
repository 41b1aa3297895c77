/- Where any row, any table's rows, any job stands is the document's: for all numbers and values; of keys of more than 1000 bytes nothing is asked. -/
import Derived.Test.YtifhnkbhjmapeaaPAx5
import Derived.Test.YtifhnkbhjmapeaaPAx12
import Derived.Test.YtifhnkbhjmapeaaKeys
namespace Go.Proofs.Ytifhnkbhjmapeaa.Pure
open Go.RowKit Go.Proofs.Ytifhnkbhjmapeaa.PA Go.Proofs.YtifhnkbhjmapeaaW.PrintWords Go.Proofs.YtifhnkbhjmapeaaW.PrintLast Go.Proofs.Ytifhnkbhjmapeaa.Plain

theorem KeysRows (a0 a1 f0 f1 f2 : Int) (f3 : ByteArray) (h0 : (Lit.int .i64 a0).wf = true) (h1 : (Lit.int .i64 a1).wf = true) (g : Vc.Good ⟨f0, f1, f2, f3⟩) : ∃ k, falseworklaw21_KeysRows.f k a0 a1 f0 f1 f2 f3 = some true := by
  refine ⟨100, ?_⟩
  unfold falseworklaw21_KeysRows.f
  have e1 := keys_row_is h0 g 100 (by decide)
  have e2 := ref_row_is h0 g 100 (by decide)
  dsimp only at e1 e2
  rw [keys_awake_true 100 (by decide), e1, e2, keys_rows_is h0 100 (by decide), ref_rows_is h0 100 (by decide), keys_job_is h1 100 (by decide), ref_job_is h1 100 (by decide)]
  split
  · rfl
  · simp [falseworklaw21_num.f]
end Go.Proofs.Ytifhnkbhjmapeaa.Pure
