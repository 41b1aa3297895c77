/- The value at the beginning of any bytes is the document's, or they are refused: for every text; of texts of more than 5000 bytes nothing is asked. -/
import Derived.Test.YtpkfkmempgamkaaPAx2
import Derived.Test.YtpkfkmempgamkaaPAx5
import Derived.Test.YtpkfkmempgamkaaPAx20
import Derived.Test.YtpkfkmempgamkaaValueGet
namespace Go.Proofs.Ytpkfkmempgamkaa.Pure
open Go.RowKit Go.Proofs.Ytpkfkmempgamkaa.PA Go.Proofs.YtpkfkmempgamkaaW.PrintWords Go.Proofs.YtpkfkmempgamkaaW.PrintLast Go.Proofs.Ytpkfkmempgamkaa.Plain

theorem ValueGets : falseworklaw2_ValueGets.Pure := by
  intro s hs
  refine ⟨6000, ?_⟩
  unfold falseworklaw2_ValueGets.f falseworklaw2_long.f
  by_cases h : (s.size : Int) > 5000
  · rw [decide_eq_true h, Option.bind_some, if_pos rfl, awake_true 6000 (by decide)]; rfl
  · rw [decide_eq_false h]
    simp only [Option.bind_some, Bool.false_eq_true, if_false]
    rw [value_get_is s (by omega) 6000 (by omega), ref_get_is s (by omega) 6000 (by omega), awake_true 6000 (by decide)]
    simp only [Option.bind_some, falseworklaw2_num.f, beq_self_eq_true, Bool.and_self, if_true]
end Go.Proofs.Ytpkfkmempgamkaa.Pure
