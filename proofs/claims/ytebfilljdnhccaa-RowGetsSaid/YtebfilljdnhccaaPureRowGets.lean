/- The cells of any bytes are the document's, or they are refused: for every text; of texts of more than 5000 bytes nothing is asked. -/
import Derived.Test.YtebfilljdnhccaaRGx5
import Derived.Test.YtebfilljdnhccaaRGx12
import Derived.Test.YtebfilljdnhccaaLibsRG
namespace Go.Proofs.Ytebfilljdnhccaa.Pure
open Go.RowKit Go.Proofs.Ytebfilljdnhccaa.PA Go.Proofs.YtebfilljdnhccaaW.PrintWords Go.Proofs.YtebfilljdnhccaaW.PrintLast Go.Proofs.Ytebfilljdnhccaa.Plain

theorem RowGets : falseworklaw4_RowGets.Pure := by
  intro s hs
  refine ⟨20000, ?_⟩
  unfold falseworklaw4_RowGets.f
  by_cases h : (s.size : Int) > 5000
  · rw [if_pos h, row_awake_true 20000 (by decide)]; rfl
  · have hl : (ansG [] (decR (s.size + 1) 0 s.data.toList)).1.length ≤ 5000 := by
      have h1 := ansG_len (decR (s.size + 1) 0 s.data.toList)
      have h2 := decR_len (s.size + 1) 0 s.data.toList
      rw [← size_data] at h2
      omega
    rw [if_neg h, row_get_is s (by omega) 20000 (by omega), rget_is s (by omega) 20000 (by omega), row_awake_true 20000 (by decide)]
    simp only [Option.bind_some, falseworklaw4_num.f]
    rw [samec_is _ (by omega) 20000 (by omega)]
    simp only [Option.bind_some, if_true]
end Go.Proofs.Ytebfilljdnhccaa.Pure
