/- Whether any row has any conditions is the document's: for all columns, values and conditions; of what is heavy nothing is asked. -/
import Derived.Test.YtcjnmnelhpjhfaaPTx2
import Derived.Test.YtcjnmnelhpjhfaaPTx17
import Derived.Test.YtcjnmnelhpjhfaaLibsPT
namespace Go.Proofs.Ytcjnmnelhpjhfaa.Pure
open Go.RowKit Go.Proofs.Ytcjnmnelhpjhfaa.PA Go.Proofs.YtcjnmnelhpjhfaaW.PrintWords Go.Proofs.YtcjnmnelhpjhfaaW.PrintLast Go.Proofs.Ytcjnmnelhpjhfaa.Plain

theorem PredTests (cols : List Col) (vals : List Vc) (l : List Cnd)
    (gc : cols.length ≤ maxLen ∧ ∀ x ∈ cols, ((Lit.int .i64 x.f0).wf = true ∧ x.f1.size ≤ maxLen ∧ (Lit.int .i64 x.f2).wf = true ∧ (Lit.int .i64 x.f3).wf = true ∧ (Lit.int .i64 x.f4).wf = true ∧ ((Lit.int .i64 x.f5.f0).wf = true ∧ (Lit.int .i64 x.f5.f1).wf = true ∧ (Lit.int .u64 x.f5.f2).wf = true ∧ x.f5.f3.size ≤ maxLen)))
    (bc : cols.length * 88 ≤ 140737488351232)
    (gv : vals.length ≤ maxLen ∧ ∀ x ∈ vals, ((Lit.int .i64 x.f0).wf = true ∧ (Lit.int .i64 x.f1).wf = true ∧ (Lit.int .u64 x.f2).wf = true ∧ x.f3.size ≤ maxLen))
    (bv : vals.length * 40 ≤ 140737488351232)
    (gl : l.length ≤ maxLen ∧ ∀ x ∈ l, (x.f0.size ≤ maxLen ∧ (Lit.int .i64 x.f1).wf = true ∧ ((Lit.int .i64 x.f2.f0).wf = true ∧ (Lit.int .i64 x.f2.f1).wf = true ∧ (Lit.int .u64 x.f2.f2).wf = true ∧ x.f2.f3.size ≤ maxLen)))
    (bl : l.length * 64 ≤ 140737488351232) : ∃ K, falseworklaw18_PredTests.f K cols vals l = some true := by
  have g : ∀ c ∈ l, Cnd.Good c := gl.2
  have gw : ∀ v ∈ vals, v.Good := gv.2
  refine ⟨2 * l.length + vals.length + cols.length + 100, ?_⟩
  unfold falseworklaw18_PredTests.f
  obtain ⟨b, hb, _⟩ := heavy_is l vals cols (by omega) (by omega) (by omega) (2 * l.length + vals.length + cols.length + 100) (by omega)
  rw [hb, Option.bind_some, test_is cols vals gw l g gl.1 _ (by omega), rtest_is cols gc.1 vals gw l g gl.1 _ (by omega), pred_awake_true _ (by omega)]
  split
  · rfl
  · simp [falseworklaw18_num.f]
end Go.Proofs.Ytcjnmnelhpjhfaa.Pure
