/- The float of any number, and the number that any float is, are the document's: for all numbers and words of 64 bits. -/
import Derived.Test.YtijdengicjjebaaPAx7
import Derived.Test.YtijdengicjjebaaFloAwake
import Derived.Test.YtijdengicjjebaaFloInt
import Derived.Test.YtijdengicjjebaaFloRef
import Derived.Test.YtijdengicjjebaaFloRefI
namespace Go.Proofs.Ytijdengicjjebaa.Pure
open Go.RowKit Go.Proofs.Ytijdengicjjebaa.PA Go.Proofs.YtijdengicjjebaaW.PrintWords Go.Proofs.YtijdengicjjebaaW.PrintLast Go.Proofs.Ytijdengicjjebaa.Plain

theorem FloInts : falseworklaw1_FloInts.Pure := by
  intro n f hn hf
  obtain ⟨x, rfl, hx⟩ := u64_nat hf
  have h1 : IntKind.i64.min ≤ n ∧ n ≤ IntKind.i64.max := by simpa [Lit.wf] using hn
  have h2 : IntKind.i64.min = -9223372036854775808 := by decide
  have h3 : IntKind.i64.max = 9223372036854775807 := by decide
  rw [h2, h3] at h1
  obtain ⟨m, b, hi⟩ := flo_int_some hx
  refine ⟨67, ?_⟩
  unfold falseworklaw1_FloInts.f
  rw [ref_int_is hx, hi, flo_of_is, ref_of_is (by omega) (by omega), flo_awake_true]
  simp
end Go.Proofs.Ytijdengicjjebaa.Pure
