/- The document's examples of layer 1: they hold. -/
import Derived.Test.YtijdengicjjebaaPAx1
import Derived.Test.YtijdengicjjebaaFloFns
namespace Go.Proofs.Ytijdengicjjebaa.PA
open Go.RowKit Go.Proofs.YtijdengicjjebaaW.PrintWords Go.Proofs.YtijdengicjjebaaW.PrintLast Go.Proofs.Ytijdengicjjebaa.Plain

theorem flo_awake_true : falseworklaw1_awake.f = some true := by
  have h1 : flo_Int.f 4602678819172646912 = some (0, false) := by decide +kernel
  have h2 : flo_Order.f 4607182418800017408 = some 13830554455654793216 := flo_order_is (x := 4607182418800017408) (by decide)
  have h3 : flo_Sum.f 9218868437227405312 18442240474082181120 = some 9221120237041090560 := by decide +kernel
  have h4 : flo_Of.f 9007199254740993 = some 4845873199050653696 := by decide +kernel
  unfold falseworklaw1_awake.f
  rw [h1, h2, h3, h4]; rfl
end Go.Proofs.Ytijdengicjjebaa.PA
