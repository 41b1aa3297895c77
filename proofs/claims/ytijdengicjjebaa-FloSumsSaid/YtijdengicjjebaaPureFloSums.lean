/- The sum of any two floats is the document's; it does not hang on their order: for all words of 64 bits. -/
import Derived.Test.YtijdengicjjebaaPAx4
import Derived.Test.YtijdengicjjebaaFloAwake
import Derived.Test.YtijdengicjjebaaFloRefT
namespace Go.Proofs.Ytijdengicjjebaa.Pure
open Go.RowKit Go.Proofs.Ytijdengicjjebaa.PA Go.Proofs.YtijdengicjjebaaW.PrintWords Go.Proofs.YtijdengicjjebaaW.PrintLast Go.Proofs.Ytijdengicjjebaa.Plain

theorem FloSums : falseworklaw1_FloSums.Pure := by
  intro a b ha hb
  obtain ⟨x, rfl, hx⟩ := u64_nat ha
  obtain ⟨y, rfl, hy⟩ := u64_nat hb
  refine ⟨3000, ?_⟩
  obtain ⟨z, hz⟩ := flo_sum_some hx hy
  unfold falseworklaw1_FloSums.f
  rw [ref_sum_is hx hy, flo_sum_comm hx hy, hz, flo_awake_true]
  simp
end Go.Proofs.Ytijdengicjjebaa.Pure
