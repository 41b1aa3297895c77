/- The one form of any float is the document's; of that it is itself: for every word of 64 bits. -/
import Derived.Test.YtijdengicjjebaaPAx2
import Derived.Test.YtijdengicjjebaaFloAwake
namespace Go.Proofs.Ytijdengicjjebaa.Pure
open Go.RowKit Go.Proofs.Ytijdengicjjebaa.PA Go.Proofs.YtijdengicjjebaaW.PrintWords Go.Proofs.YtijdengicjjebaaW.PrintLast Go.Proofs.Ytijdengicjjebaa.Plain

theorem FloCanons : falseworklaw1_FloCanons.Pure := by
  intro a ha
  obtain ⟨x, rfl, hx⟩ := u64_nat ha
  unfold falseworklaw1_FloCanons.f
  rw [flo_canon_is hx, ref_canon_is hx, Option.bind_some, Option.bind_some, if_pos rfl, flo_canon_is (canon_lt hx), canon_canon, Option.bind_some, if_pos rfl, flo_awake_true]; rfl
end Go.Proofs.Ytijdengicjjebaa.Pure
