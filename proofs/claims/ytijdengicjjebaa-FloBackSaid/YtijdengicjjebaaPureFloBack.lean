/- Each place of a float leads back to its one form; a place that leads to a float is that float's: for all words of 64 bits. -/
import Derived.Test.YtijdengicjjebaaPAx8
import Derived.Test.YtijdengicjjebaaFloAwake
namespace Go.Proofs.Ytijdengicjjebaa.Pure
open Go.RowKit Go.Proofs.Ytijdengicjjebaa.PA Go.Proofs.YtijdengicjjebaaW.PrintWords Go.Proofs.YtijdengicjjebaaW.PrintLast Go.Proofs.Ytijdengicjjebaa.Plain

theorem FloBack : falseworklaw1_FloBack.Pure := by
  intro a b ha hb
  obtain ⟨x, rfl, hx⟩ := u64_nat ha
  obtain ⟨y, rfl, hy⟩ := u64_nat hb
  unfold falseworklaw1_FloBack.f
  rw [flo_order_is hx, Option.bind_some, flo_back_is (ordr_lt x), Option.bind_some, flo_back_is hy, Option.bind_some, back_ordr hx, flo_canon_is hx, flo_awake_true]
  simp only [Option.bind_some, if_true]
  unfold back
  by_cases hc : canon (unplace y) = unplace y
  · rw [if_pos hc]
    simp only [if_true]
    rw [flo_order_is (unplace_lt hy), ordr_unplace hy hc, flo_canon_is (unplace_lt hy), hc]
    simp
  · rw [if_neg hc]; rfl
end Go.Proofs.Ytijdengicjjebaa.Pure
