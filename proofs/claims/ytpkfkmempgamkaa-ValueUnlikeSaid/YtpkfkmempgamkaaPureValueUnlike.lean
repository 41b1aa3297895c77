/- Unlike values have unlike bytes, and none is a beginning of the other's: for all values; of texts of more than 5000 bytes, and of values that may not be, nothing is asked. -/
import Derived.Test.YtpkfkmempgamkaaPAx2
import Derived.Test.YtpkfkmempgamkaaPAx5
import Derived.Test.YtpkfkmempgamkaaPAx10
import Derived.Test.YtpkfkmempgamkaaValueCmp
namespace Go.Proofs.Ytpkfkmempgamkaa.Pure
open Go.RowKit Go.Proofs.Ytpkfkmempgamkaa.PA Go.Proofs.YtpkfkmempgamkaaW.PrintWords Go.Proofs.YtpkfkmempgamkaaW.PrintLast Go.Proofs.Ytpkfkmempgamkaa.Plain

theorem beq_of_iff {p q : Bool} (h : p = true ↔ q = true) : (p == q) = true := by cases p <;> cases q <;> simp_all
theorem ValueUnlike (k n f : Int) (s : ByteArray) (k' n' f' : Int) (s' : ByteArray) (g : (Lit.int .i64 k).wf = true ∧ (Lit.int .i64 n).wf = true ∧ (Lit.int .u64 f).wf = true ∧ s.size ≤ maxLen)
    (g' : (Lit.int .i64 k').wf = true ∧ (Lit.int .i64 n').wf = true ∧ (Lit.int .u64 f').wf = true ∧ s'.size ≤ maxLen) : ∃ K, falseworklaw2_ValueUnlike.f K k n f s k' n' f' s' = some true := by
  obtain ⟨_, hn, hf, _⟩ := g
  obtain ⟨_, hn', hf', _⟩ := g'
  obtain ⟨x, rfl, hx⟩ := u64_nat hf
  obtain ⟨x', rfl, hx'⟩ := u64_nat hf'
  refine ⟨52, ?_⟩
  have j1 : ∀ p q : List UInt8, falseworklaw2_ValueUnlike.j1 51 (txt p) (txt q) true k n x s k' n' x' s' = some true := by
    intro p q
    simp only [falseworklaw2_ValueUnlike.j1, if_true]
    rw [awake_true 50 (by decide)]; rfl
  have j0 : ∀ b, falseworklaw2_ValueUnlike.j0 52 b k n x s k' n' x' s' = some true := by
    intro b
    simp only [falseworklaw2_ValueUnlike.j0]
    by_cases hb : b = true
    · rw [if_pos hb, awake_true 51 (by decide)]; rfl
    rw [if_neg hb, value_put_is hn hx s 51 (by decide), value_put_is hn' hx' s' 51 (by decide)]
    simp only [Option.bind_some, falseworklaw2_num.f]
    unfold putV
    by_cases h : mayB k n x s.data.toList = true
    · by_cases h' : mayB k' n' x' s'.data.toList = true
      · rw [if_pos h, if_pos h', if_pos rfl]
        obtain ⟨v, hv, e1, e2, e3, e4⟩ := view h (i64_bounds hn) hx
        obtain ⟨u, hu, e1', e2', e3', e4'⟩ := view h' (i64_bounds hn') hx'
        have ev : encV k n x s.data.toList = v.enc := by rw [e1, e2, e3, e4, V.enc_is]
        have eu : encV k' n' x' s'.data.toList = u.enc := by rw [e1', e2', e3', e4', V.enc_is]
        have heq : (k == k' && (n == n' && ((x : Int) == (x' : Int) && (s.toList == s'.toList)))) = true ↔ v = u := by
          rw [toList_data, toList_data, e1, e2, e3, e4, e1', e2', e3', e4']
          simp only [Bool.and_eq_true, beq_iff_eq]
          constructor
          · rintro ⟨a, b, c, d⟩; exact V.fields_inj a b (by omega) d
          · rintro rfl; exact ⟨rfl, rfl, rfl, rfl⟩
        rw [ev, eu]
        simp only [falseworklaw2_ValueUnlike.j1, bne_self_eq_false, Bool.false_eq_true, if_false]
        have cut : ∀ (l : List UInt8) (m : Nat), (((txt l).extract 0 ((m : Int)).toNat).toList) = l.take m := by
          intro l m
          rw [Int.toNat_natCast, toList_data, ByteArray.data_extract, Array.toList_extract, txt_data]
          simp
        by_cases hl : ((txt u.enc).size : Int) < ((txt v.enc).size : Int)
        · rw [if_pos hl, if_pos (by omega), if_pos (by omega), if_pos (by omega), cut, cut]
          have hh : (((v.enc).take (txt u.enc).size == (u.enc).take (txt u.enc).size) == (k == k' && (n == n' && ((x : Int) == (x' : Int) && (s.toList == s'.toList))))) = true := by
            apply beq_of_iff
            rw [heq, beq_iff_eq, txt_size, List.take_length]
            constructor
            · intro e
              have h2 := SD.begins (V.sd u v) (v.enc.drop u.enc.length) (by conv => lhs; lhs; rw [← e]
                                                                            exact List.take_append_drop _ _)
              exact (V.enc_inj hu hv h2).symm
            · rintro rfl; exact List.take_length
          rw [if_pos hh, awake_true 50 (by decide)]; rfl
        · rw [if_neg hl, if_pos (by omega), if_pos (by omega), if_pos (by omega), cut, cut]
          have hh : (((v.enc).take (txt v.enc).size == (u.enc).take (txt v.enc).size) == (k == k' && (n == n' && ((x : Int) == (x' : Int) && (s.toList == s'.toList))))) = true := by
            apply beq_of_iff
            rw [heq, beq_iff_eq, txt_size, List.take_length]
            constructor
            · intro e
              have h2 := SD.begins (V.sd v u) (u.enc.drop v.enc.length) (by conv => lhs; lhs; rw [e]
                                                                            exact List.take_append_drop _ _)
              exact V.enc_inj hv hu h2
            · rintro rfl; exact List.take_length.symm
          rw [if_pos hh, awake_true 50 (by decide)]; rfl
      · rw [if_pos h, if_neg h', if_pos rfl]
        exact j1 _ _
    · rw [if_neg h, if_neg (by decide)]
      exact j1 _ _
  unfold falseworklaw2_ValueUnlike.f falseworklaw2_long.f
  simp only [Option.bind_some]
  split
  · exact j0 _
  · exact j0 _
end Go.Proofs.Ytpkfkmempgamkaa.Pure
