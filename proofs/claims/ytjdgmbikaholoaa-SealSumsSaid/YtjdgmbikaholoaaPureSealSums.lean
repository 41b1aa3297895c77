/- The sum over any text is the document's: for any text of at most 20000 bytes both sums are one plain sum; of longer ones nothing is asked. -/
import Derived.Test.YtjdgmbikaholoaaPAx2
import Derived.Test.YtjdgmbikaholoaaSealSum
namespace Go.Proofs.Ytjdgmbikaholoaa.Pure
open Go.RowKit Go.Proofs.Ytjdgmbikaholoaa.PA Go.Proofs.YtjdgmbikaholoaaW.PrintWords Go.Proofs.YtjdgmbikaholoaaW.PrintLast Go.Proofs.Ytjdgmbikaholoaa.Plain

theorem SealSums : falseworklaw5_SealSums.Pure := by
  intro s hs
  refine ⟨10 * s.size + 100, ?_⟩
  unfold falseworklaw5_SealSums.f
  by_cases h : (s.size : Int) > 20000
  · rw [if_pos h]
  · rw [if_neg h, sum_is s hs _ (by omega), ref_is s hs _ (by omega), awake_true _ (by omega)]
    simp
end Go.Proofs.Ytjdgmbikaholoaa.Pure
