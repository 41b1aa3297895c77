/- Of any two floats which is below is the document's: for all words of 64 bits. -/
import Derived.Test.YtijdengicjjebaaPAx8
import Derived.Test.YtijdengicjjebaaFloAwake
namespace Go.Proofs.Ytijdengicjjebaa.Pure
open Go.RowKit Go.Proofs.Ytijdengicjjebaa.PA Go.Proofs.YtijdengicjjebaaW.PrintWords Go.Proofs.YtijdengicjjebaaW.PrintLast Go.Proofs.Ytijdengicjjebaa.Plain

theorem FloCmps : falseworklaw1_FloCmps.Pure := by
  intro a b ha hb
  obtain ⟨x, rfl, hx⟩ := u64_nat ha
  obtain ⟨y, rfl, hy⟩ := u64_nat hb
  unfold falseworklaw1_FloCmps.f
  rw [flo_cmp_is hx hy, ref_cmp_is hx hy]
  simp only [Option.bind_some, if_true]
  rw [flo_awake_true]; rfl
end Go.Proofs.Ytijdengicjjebaa.Pure
