/- Which values may be is the document's: for every value; of texts of more than 5000 bytes nothing is asked. -/
import Derived.Test.YtpkfkmempgamkaaPAx2
import Derived.Test.YtpkfkmempgamkaaPAx6
import Derived.Test.YtpkfkmempgamkaaValueRef
namespace Go.Proofs.Ytpkfkmempgamkaa.Pure
open Go.RowKit Go.Proofs.Ytpkfkmempgamkaa.PA Go.Proofs.YtpkfkmempgamkaaW.PrintWords Go.Proofs.YtpkfkmempgamkaaW.PrintLast Go.Proofs.Ytpkfkmempgamkaa.Plain

theorem ValueMays (k n f : Int) (s : ByteArray) (g : (Lit.int .i64 k).wf = true ∧ (Lit.int .i64 n).wf = true ∧ (Lit.int .u64 f).wf = true ∧ s.size ≤ maxLen) : ∃ K, falseworklaw2_ValueMays.f K k n f s = some true := by
  obtain ⟨_, hn, hf, _⟩ := g
  obtain ⟨x, rfl, hx⟩ := u64_nat hf
  refine ⟨50, ?_⟩
  unfold falseworklaw2_ValueMays.f falseworklaw2_long.f
  rw [value_may_is k n hx s, ref_may_is k n hx s, awake_true 50 (by decide)]
  simp only [Option.bind_some, beq_self_eq_true, if_true]
  split <;> rfl
end Go.Proofs.Ytpkfkmempgamkaa.Pure
