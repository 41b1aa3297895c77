/- What is behind all that begin so is the document's: for all texts; of texts of more than 5000 bytes nothing is asked. -/
import Derived.Test.YtncdpdbafklodaaPAx11
import Derived.Test.YtncdpdbafklodaaTupPut
import Derived.Test.YtncdpdbafklodaaTupAfter
namespace Go.Proofs.Ytncdpdbafklodaa.Pure
open Go.RowKit Go.Proofs.Ytncdpdbafklodaa.PA Go.Proofs.YtncdpdbafklodaaW.PrintWords Go.Proofs.YtncdpdbafklodaaW.PrintLast Go.Proofs.Ytncdpdbafklodaa.Plain

theorem TupleAfters : falseworklaw3_TupleAfters.Pure := by
  intro s hs
  refine ⟨5100, ?_⟩
  unfold falseworklaw3_TupleAfters.f
  rw [tup_awake_true 5100 (by decide)]
  by_cases h : (s.size : Int) > 5000
  · rw [if_pos h]; rfl
  · rw [if_neg h, tuple_after_is s (by omega) 5100 (by omega), ref_after_is s (by omega)]
    simp
end Go.Proofs.Ytncdpdbafklodaa.Pure
