/- The place of any float, and the float of any place, are the document's: for every word of 64 bits. -/
import Derived.Test.YtijdengicjjebaaPAx8
import Derived.Test.YtijdengicjjebaaFloAwake
namespace Go.Proofs.Ytijdengicjjebaa.Pure
open Go.RowKit Go.Proofs.Ytijdengicjjebaa.PA Go.Proofs.YtijdengicjjebaaW.PrintWords Go.Proofs.YtijdengicjjebaaW.PrintLast Go.Proofs.Ytijdengicjjebaa.Plain

theorem FloOrders : falseworklaw1_FloOrders.Pure := by
  intro a b ha hb
  obtain ⟨x, rfl, hx⟩ := u64_nat ha
  obtain ⟨y, rfl, hy⟩ := u64_nat hb
  refine ⟨1, ?_⟩
  unfold falseworklaw1_FloOrders.f
  rw [flo_back_is hy, ref_back_is hy 1 (by decide), flo_order_is hx, ref_order_is hx]
  simp only [Option.bind_some, if_true, beq_self_eq_true]
  rw [flo_awake_true]; rfl
end Go.Proofs.Ytijdengicjjebaa.Pure
