/- What is wrong with any conditions is the document's: for all columns and conditions; of what is heavy nothing is asked. -/
import Derived.Test.YtcjnmnelhpjhfaaPCx2
import Derived.Test.YtcjnmnelhpjhfaaPCx12
import Derived.Test.YtcjnmnelhpjhfaaLibsPC
namespace Go.Proofs.Ytcjnmnelhpjhfaa.Pure
open Go.RowKit Go.Proofs.Ytcjnmnelhpjhfaa.PA Go.Proofs.YtcjnmnelhpjhfaaW.PrintWords Go.Proofs.YtcjnmnelhpjhfaaW.PrintLast Go.Proofs.Ytcjnmnelhpjhfaa.Plain

theorem PredChecks (cols : List Col) (l : List Cnd)
    (gc : cols.length ≤ maxLen ∧ ∀ x ∈ cols, ((Lit.int .i64 x.f0).wf = true ∧ x.f1.size ≤ maxLen ∧ (Lit.int .i64 x.f2).wf = true ∧ (Lit.int .i64 x.f3).wf = true ∧ (Lit.int .i64 x.f4).wf = true ∧ ((Lit.int .i64 x.f5.f0).wf = true ∧ (Lit.int .i64 x.f5.f1).wf = true ∧ (Lit.int .u64 x.f5.f2).wf = true ∧ x.f5.f3.size ≤ maxLen)))
    (bc : cols.length * 88 ≤ 140737488351232)
    (gl : l.length ≤ maxLen ∧ ∀ x ∈ l, (x.f0.size ≤ maxLen ∧ (Lit.int .i64 x.f1).wf = true ∧ ((Lit.int .i64 x.f2.f0).wf = true ∧ (Lit.int .i64 x.f2.f1).wf = true ∧ (Lit.int .u64 x.f2.f2).wf = true ∧ x.f2.f3.size ≤ maxLen)))
    (bl : l.length * 64 ≤ 140737488351232) : ∃ K, falseworklaw18_PredChecks.f K cols l = some true := by
  have g : ∀ c ∈ l, Cnd.Good c := gl.2
  refine ⟨2 * l.length + cols.length + 100, ?_⟩
  unfold falseworklaw18_PredChecks.f
  obtain ⟨b, hb, _⟩ := heavy_is l [] cols (by omega) (by decide) (by omega) (2 * l.length + cols.length + 100) (by show l.length + 0 + 3 < _; omega)
  rw [hb, Option.bind_some, check_is cols l g gl.1 _ (by omega), rcheck_is cols gc.1 l g gl.1 _ (by omega), pred_awake_true _ (by omega)]
  split
  · rfl
  · simp [falseworklaw18_num.f]
end Go.Proofs.Ytcjnmnelhpjhfaa.Pure
