/- Bytes of a text that are turned: what the text's bytes are then. -/
import Derived.Test.YtjdgmbikaholoaaPAx2
import Derived.Test.YtjdgmbikaholoaaSealPut
namespace Go.Proofs.Ytjdgmbikaholoaa.PA
open Go.RowKit Go.Proofs.YtjdgmbikaholoaaW.PrintWords Go.Proofs.YtjdgmbikaholoaaW.PrintLast Go.Proofs.Ytjdgmbikaholoaa.Plain

theorem xor_byte8 {a b : Nat} (ha : a < 256) (hb : b < 256) : Go.bits .xor .u8 (a : Int) (b : Int) = ((a ^^^ b : Nat) : Int) := (bits_gen .u8 k_u8 a b ha hb).1
theorem str_data (xs : List Int) : (strOfNums xs).data.toList = xs.map fun n => UInt8.ofNat n.toNat := by unfold strOfNums; simp
theorem bytes_back (l : List UInt8) : (l.map fun b => (b.toNat : Int)).map (fun n => UInt8.ofNat n.toNat) = l := by
  rw [List.map_map]
  conv => rhs; rw [← List.map_id l]
  apply List.map_congr_left
  intro b _
  simp
theorem be4_inj {a b : Nat} (ha : a < 4294967296) (hb : b < 4294967296) (h : be4 a = be4 b) : a = b := by
  unfold be4 at h
  simp only [List.cons.injEq, and_true] at h
  obtain ⟨h1, h2, h3, h4⟩ := h
  have e : ∀ x y : Nat, x < 256 → y < 256 → UInt8.ofNat x = UInt8.ofNat y → x = y := by
    intro x y hx hy h
    have := congrArg UInt8.toNat h
    rw [UInt8.toNat_ofNat', UInt8.toNat_ofNat'] at this
    omega
  have h1 := e _ _ (Nat.mod_lt _ (by decide)) (Nat.mod_lt _ (by decide)) h1
  have h2 := e _ _ (Nat.mod_lt _ (by decide)) (Nat.mod_lt _ (by decide)) h2
  have h3 := e _ _ (Nat.mod_lt _ (by decide)) (Nat.mod_lt _ (by decide)) h3
  have h4 := e _ _ (Nat.mod_lt _ (by decide)) (Nat.mod_lt _ (by decide)) h4
  omega
theorem set_mid (l : List UInt8) (i : Nat) (h : i < l.length) (x : UInt8) : ∃ pre post, l = pre ++ (l[i] :: post) ∧ l.set i x = pre ++ (x :: post) := by
  refine ⟨l.take i, l.drop (i + 1), ?_, ?_⟩
  · rw [← List.drop_eq_getElem_cons h, List.take_append_drop]
  · rw [List.set_eq_take_append_cons_drop, if_pos h]
/-- A text with its sum, of which a byte is turned, is none. -/
theorem turned (l : List UInt8) (i : Nat) (x : UInt8) (hi : i < (l ++ be4 (crc l)).length) (hx : x ≠ (l ++ be4 (crc l))[i]) (t : List UInt8) (ht : t = ((l ++ be4 (crc l)).set i x).take l.length) :
    t ++ be4 (crc t) ≠ (l ++ be4 (crc l)).set i x := by
  intro h
  by_cases hl : i < l.length
  · rw [List.set_append_left _ _ hl] at ht h
    have hlen : (l.set i x).length = l.length := List.length_set
    rw [List.take_left' hlen] at ht
    subst ht
    have h2 := List.append_cancel_left h
    have h3 := be4_inj (crc_lt _) (crc_lt _) h2
    rw [List.getElem_append_left hl] at hx
    obtain ⟨pre, post, e1, e2⟩ := set_mid l i hl x
    rw [e2] at h3
    conv at h3 => rhs; rw [e1]
    exact crc_one pre post l[i] x hx h3
  · have hl : l.length ≤ i := by omega
    rw [List.set_append_right _ _ hl] at ht h
    rw [List.take_left' rfl] at ht
    subst ht
    have h2 := List.append_cancel_left h
    rw [List.getElem_append_right hl] at hx
    have hj : i - t.length < (be4 (crc t)).length := by rw [List.length_append] at hi; omega
    apply hx
    have h3 : ((be4 (crc t)).set (i - t.length) x)[i - t.length]'(by rw [List.length_set]; exact hj) = x := List.getElem_set_self _
    rw [← h3]
    congr 1
    exact h2.symm
theorem put_mid (pre : List Int) (x : Int) (r : List Int) (m c : Int) (hm : m = (pre.length : Int)) : falseworklaw5_SealTwo.put (pre ++ x :: r) m c = pre ++ Go.bits .xor .u8 x c :: r := by
  unfold falseworklaw5_SealTwo.put rd
  rw [hm, Int.toNat_natCast]
  simp
theorem row_mid (pre : List Int) (b0 b1 b2 b3 : Int) (post : List Int) (m c : Int) (hm : m = (pre.length : Int)) :
    falseworklaw5_SealTwo.row (pre ++ b0 :: b1 :: b2 :: b3 :: post) m c 4 = pre ++ Go.bits .xor .u8 b0 (c % 256) :: Go.bits .xor .u8 b1 (c / 256 % 256) :: Go.bits .xor .u8 b2 (c / 65536 % 256) :: Go.bits .xor .u8 b3 (c / 16777216) :: post := by
  unfold falseworklaw5_SealTwo.row
  rw [put_mid pre b0 _ (m + 0) _ (by omega)]
  generalize Go.bits .xor .u8 b0 (c % 256) = X0
  rw [show pre ++ X0 :: b1 :: b2 :: b3 :: post = (pre ++ [X0]) ++ b1 :: (b2 :: b3 :: post) by simp, put_mid (pre ++ [X0]) b1 _ (m + 1) _ (by simp; omega)]
  generalize Go.bits .xor .u8 b1 (c / 256 % 256) = X1
  rw [show (pre ++ [X0]) ++ X1 :: (b2 :: b3 :: post) = (pre ++ [X0, X1]) ++ b2 :: (b3 :: post) by simp, put_mid (pre ++ [X0, X1]) b2 _ (m + 2) _ (by simp; omega)]
  generalize Go.bits .xor .u8 b2 (c / 65536 % 256) = X2
  rw [show (pre ++ [X0, X1]) ++ X2 :: (b3 :: post) = (pre ++ [X0, X1, X2]) ++ b3 :: post by simp, put_mid (pre ++ [X0, X1, X2]) b3 _ (m + 3) _ (by simp; omega)]
  simp
end Go.Proofs.Ytjdgmbikaholoaa.PA
