/- A text with its sum is read back: for any text of at most 20000 bytes; of longer ones nothing is asked. -/
import Derived.Test.YtjdgmbikaholoaaPAx2
import Derived.Test.YtjdgmbikaholoaaPAx3
import Derived.Test.YtjdgmbikaholoaaSealPut
namespace Go.Proofs.Ytjdgmbikaholoaa.Pure
open Go.RowKit Go.Proofs.Ytjdgmbikaholoaa.PA Go.Proofs.YtjdgmbikaholoaaW.PrintWords Go.Proofs.YtjdgmbikaholoaaW.PrintLast Go.Proofs.Ytjdgmbikaholoaa.Plain

theorem SealBack : falseworklaw5_SealBack.Pure := by
  intro s hs
  refine ⟨10 * s.size + 200, ?_⟩
  unfold falseworklaw5_SealBack.f
  have ha := awake_true (10 * s.size + 200) (by omega)
  have hp := put_is s hs (10 * s.size + 200) (by omega)
  have h2 := size_sealed s
  by_cases h : (s.size : Int) > 20000
  · rw [ha, if_pos h]; rfl
  · have hw : ((sealed s).size : Int) = wrap64 ((s.size : Int) + 4) := by rw [h2]; unfold wrap64; omega
    have hg := get_is (sealed s) (by omega) (10 * s.size + 200) (by omega)
    rw [opened_sealed] at hg
    generalize 10 * s.size + 200 = k at *
    rw [ha, hp, if_neg h, Option.bind_some, hg, Option.bind_some]
    unfold falseworklaw5_num.f
    rw [Option.bind_some, if_pos rfl, if_pos rfl, Option.bind_some, if_pos hw]; rfl
end Go.Proofs.Ytjdgmbikaholoaa.Pure
