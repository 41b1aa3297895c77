/- A value that may be is read back, whatever stands behind its bytes: for all values and texts; of texts of more than 5000 bytes nothing is asked. -/
import Derived.Test.YtpkfkmempgamkaaPAx2
import Derived.Test.YtpkfkmempgamkaaPAx5
import Derived.Test.YtpkfkmempgamkaaPAx21
import Derived.Test.YtpkfkmempgamkaaValueGet
namespace Go.Proofs.Ytpkfkmempgamkaa.Pure
open Go.RowKit Go.Proofs.Ytpkfkmempgamkaa.PA Go.Proofs.YtpkfkmempgamkaaW.PrintWords Go.Proofs.YtpkfkmempgamkaaW.PrintLast Go.Proofs.Ytpkfkmempgamkaa.Plain

theorem ValueBack (k n f : Int) (s : ByteArray) (more : ByteArray) (g : (Lit.int .i64 k).wf = true ∧ (Lit.int .i64 n).wf = true ∧ (Lit.int .u64 f).wf = true ∧ s.size ≤ maxLen) (_ : more.size ≤ maxLen) :
    ∃ K, falseworklaw2_ValueBack.f K k n f s more = some true := by
  obtain ⟨_, hn, hf, _⟩ := g
  obtain ⟨x, rfl, hx⟩ := u64_nat hf
  refine ⟨7000, ?_⟩
  have j0 : ∀ b, (b = true ∨ more.size ≤ 5000) → falseworklaw2_ValueBack.j0 7000 more b k n x s = some true := by
    intro b hb
    simp only [falseworklaw2_ValueBack.j0]
    by_cases h : b = true
    · rw [if_pos h, awake_true 6999 (by decide)]; rfl
    rw [if_neg h, value_put_is hn hx s 6999 (by decide), value_may_is k n hx s]
    simp only [Option.bind_some, falseworklaw2_num.f]
    have hb' : more.size ≤ 5000 := hb.resolve_left h
    unfold putV
    by_cases hm : mayB k n x s.data.toList = true
    · rw [if_pos hm, if_pos rfl]
      obtain ⟨v, hv, e1, e2, e3, e4⟩ := view hm (i64_bounds hn) hx
      have ev : encV k n x s.data.toList = v.enc := by rw [e1, e2, e3, e4, V.enc_is]
      have hl := V.enc_length v hv
      have hz : (txt v.enc ++ more).size = v.enc.length + more.size := by rw [ByteArray.size_append, txt_size]
      have hd : (txt v.enc ++ more).data.toList = v.enc ++ more.data.toList := by rw [ByteArray.data_append, Array.toList_append, txt_data]
      show (if (txt (encV k n x s.data.toList)).size + more.size ≤ 9223372036854775807 then _ else none) = _
      rw [ev]
      dsimp only
      rw [if_pos (by rw [txt_size]; omega), value_get_is _ (by omega) 6999 (by omega), hd, decV_enc v hv, awake_true 6999 (by decide), hm]
      simp only [Option.bind_some, getA, if_true, txt_size]
      rw [if_pos]
      rw [toList_data, toList_data, txt_data, e1, e2, e3, e4]
      simp
    · rw [if_neg hm, if_neg (by decide), if_neg hm]
      simp only [toList_data, txt_data]
      rw [if_pos trivial, awake_true 6999 (by decide)]; rfl
  unfold falseworklaw2_ValueBack.f falseworklaw2_long.f
  simp only [Option.bind_some]
  by_cases h : (s.size : Int) > 5000
  · rw [decide_eq_true h, if_pos rfl]; exact j0 true (.inl rfl)
  · rw [decide_eq_false h, if_neg (by decide)]
    exact j0 _ (by rw [decide_eq_true_eq]; omega)
end Go.Proofs.Ytpkfkmempgamkaa.Pure
