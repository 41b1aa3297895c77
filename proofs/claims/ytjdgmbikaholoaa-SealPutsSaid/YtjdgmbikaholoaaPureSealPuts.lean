/- A text with its sum, and what is ahead of a sum, are the document's: for any text of at most 20000 bytes; of longer ones nothing is asked. -/
import Derived.Test.YtjdgmbikaholoaaPAx2
import Derived.Test.YtjdgmbikaholoaaPAx3
import Derived.Test.YtjdgmbikaholoaaSealPut
namespace Go.Proofs.Ytjdgmbikaholoaa.Pure
open Go.RowKit Go.Proofs.Ytjdgmbikaholoaa.PA Go.Proofs.YtjdgmbikaholoaaW.PrintWords Go.Proofs.YtjdgmbikaholoaaW.PrintLast Go.Proofs.Ytjdgmbikaholoaa.Plain

theorem SealPuts : falseworklaw5_SealPuts.Pure := by
  intro s hs
  refine ⟨10 * s.size + 100, ?_⟩
  unfold falseworklaw5_SealPuts.f
  rw [awake_true _ (by omega)]
  by_cases h : (s.size : Int) > 20000
  · rw [if_pos h]; rfl
  · rw [if_neg h, get_is s hs _ (by omega), open_is s hs _ (by omega), put_is s hs _ (by omega), seal_is s hs _ (by omega)]
    simp [falseworklaw5_num.f]
end Go.Proofs.Ytjdgmbikaholoaa.Pure
