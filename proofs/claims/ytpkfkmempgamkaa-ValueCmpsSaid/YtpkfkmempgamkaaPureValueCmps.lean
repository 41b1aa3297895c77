/- Of any two values which is below is the document's: for all values; of texts of more than 5000 bytes nothing is asked. -/
import Derived.Test.YtpkfkmempgamkaaPAx2
import Derived.Test.YtpkfkmempgamkaaPAx12
import Derived.Test.YtpkfkmempgamkaaValueCmp
namespace Go.Proofs.Ytpkfkmempgamkaa.Pure
open Go.RowKit Go.Proofs.Ytpkfkmempgamkaa.PA Go.Proofs.YtpkfkmempgamkaaW.PrintWords Go.Proofs.YtpkfkmempgamkaaW.PrintLast Go.Proofs.Ytpkfkmempgamkaa.Plain

theorem ValueCmps (k n f : Int) (s : ByteArray) (k' n' f' : Int) (s' : ByteArray) (g : (Lit.int .i64 k).wf = true ∧ (Lit.int .i64 n).wf = true ∧ (Lit.int .u64 f).wf = true ∧ s.size ≤ maxLen)
    (g' : (Lit.int .i64 k').wf = true ∧ (Lit.int .i64 n').wf = true ∧ (Lit.int .u64 f').wf = true ∧ s'.size ≤ maxLen) : ∃ K, falseworklaw2_ValueCmps.f K k n f s k' n' f' s' = some true := by
  obtain ⟨_, hn, hf, _⟩ := g
  obtain ⟨_, hn', hf', _⟩ := g'
  obtain ⟨x, rfl, hx⟩ := u64_nat hf
  obtain ⟨x', rfl, hx'⟩ := u64_nat hf'
  refine ⟨51, ?_⟩
  have last : ∀ b, falseworklaw2_ValueCmps.j0 51 b k n x s k' n' x' s' = some true := by
    intro b
    simp only [falseworklaw2_ValueCmps.j0]
    rw [value_cmp_is hn hx s hn' hx' s' 50 (by decide), ref_cmpv_is hn hx s hn' hx' s' 50 (by decide), value_cmp_is hn' hx' s' hn hx s 50 (by decide), awake_true 50 (by decide), cmpV_turn k n x]
    have hb := cmpV_bounds k n x s.data.toList k' n' x' s'.data.toList
    have hw : -cmpV k n x s.data.toList k' n' x' s'.data.toList = wrap64 (-cmpV k n x s.data.toList k' n' x' s'.data.toList) := by unfold wrap64; omega
    simp only [Option.bind_some, if_true]
    rw [if_pos hw]
    split <;> rfl
  unfold falseworklaw2_ValueCmps.f falseworklaw2_long.f
  simp only [Option.bind_some]
  split
  · exact last _
  · exact last _
end Go.Proofs.Ytpkfkmempgamkaa.Pure
