/- The bytes of any values are the document's, or they are refused: for every row of values; of rows that are long nothing is asked. -/
import Derived.Test.YtncdpdbafklodaaPAx4
import Derived.Test.YtncdpdbafklodaaPAx10
import Derived.Test.YtncdpdbafklodaaTupPut
import Derived.Test.YtncdpdbafklodaaTupAfter
namespace Go.Proofs.Ytncdpdbafklodaa.Pure
open Go.RowKit Go.Proofs.Ytncdpdbafklodaa.PA Go.Proofs.YtncdpdbafklodaaW.PrintWords Go.Proofs.YtncdpdbafklodaaW.PrintLast Go.Proofs.Ytncdpdbafklodaa.Plain

theorem TuplePuts (l : List Vc) (g : l.length ≤ maxLen ∧ ∀ x ∈ l, ((Lit.int .i64 x.f0).wf = true ∧ (Lit.int .i64 x.f1).wf = true ∧ (Lit.int .u64 x.f2).wf = true ∧ x.f3.size ≤ maxLen)) :
    ∃ K, falseworklaw3_TuplePuts.f K l = some true := by
  refine ⟨100, ?_⟩
  unfold falseworklaw3_TuplePuts.f
  obtain ⟨b, hb⟩ := tup_long_is l 100 (by decide)
  rw [hb, tuple_put_is l g.2 100 (by decide), ref_tuple_is l g.2 100 (by decide), tup_awake_true 100 (by decide)]
  simp only [Option.bind_some, falseworklaw3_num.f, if_true]
  cases b <;> rfl
end Go.Proofs.Ytncdpdbafklodaa.Pure
