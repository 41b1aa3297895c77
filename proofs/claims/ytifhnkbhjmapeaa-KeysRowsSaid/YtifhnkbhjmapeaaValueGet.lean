/- Values read from bytes: what the program's and the document's functions come to. -/
import Derived.Test.YtifhnkbhjmapeaaValDec
import Derived.Test.YtifhnkbhjmapeaaValueRef
namespace Go.Proofs.Ytifhnkbhjmapeaa.PA
open Go.RowKit Go.Proofs.YtifhnkbhjmapeaaW.PrintWords Go.Proofs.YtifhnkbhjmapeaaW.PrintLast Go.Proofs.Ytifhnkbhjmapeaa.Plain

theorem extract_tail (s : ByteArray) : (s.extract 1 s.size).data.toList = s.data.toList.drop 1 := by
  rw [ByteArray.data_extract, Array.toList_extract]
  simp only [List.extract]
  exact List.take_of_length_le (by rw [List.length_drop, ← size_data]; exact Nat.le_refl _)
theorem tail_size (s : ByteArray) : (s.extract 1 s.size).size = s.size - 1 := by
  rw [size_data, extract_tail, List.length_drop, ← size_data]
theorem byte_is (c d : UInt8) : ((c.toNat : Nat) : Int) = ((d.toNat : Nat) : Int) ↔ c = d := by
  constructor
  · intro h; exact UInt8.toNat_inj.1 (by omega)
  · rintro rfl; rfl
theorem byte_1 (c : UInt8) : ((c.toNat : Nat) : Int) = 1 ↔ c = 1 := byte_is c 1
theorem byte_2 (c : UInt8) : ((c.toNat : Nat) : Int) = 2 ↔ c = 2 := byte_is c 2
theorem byte_3 (c : UInt8) : ((c.toNat : Nat) : Int) = 3 ↔ c = 3 := byte_is c 3
theorem byte_4 (c : UInt8) : ((c.toNat : Nat) : Int) = 4 ↔ c = 4 := byte_is c 4
theorem byte_5 (c : UInt8) : ((c.toNat : Nat) : Int) = 5 ↔ c = 5 := byte_is c 5
theorem byte_6 (c : UInt8) : ((c.toNat : Nat) : Int) = 6 ↔ c = 6 := byte_is c 6
theorem byte_7 (c : UInt8) : ((c.toNat : Nat) : Int) = 7 ↔ c = 7 := byte_is c 7
theorem byte_255 (c : UInt8) : ((c.toNat : Nat) : Int) = 255 ↔ c = 255 := byte_is c 255
theorem bytesI_snoc (a : List UInt8) (b : UInt8) : bytesI a ++ [((b.toNat : Nat) : Int)] = bytesI (a ++ [b]) := by rw [bytesI_append]; rfl
theorem or_byte (x : Nat) (hx : x < 72057594037927936) (b : UInt8) : Go.bits .or .u64 (IntKind.u64.wrap ((x : Int) * 256)) (IntKind.u64.wrap ((b.toNat : Nat) : Int)) = ((x * 256 + b.toNat : Nat) : Int) := by
  have hb := b.toNat_lt
  rw [wrap_u64, wrap_u64, show ((x : Int) * 256) % 18446744073709551616 = ((x * 256 : Nat) : Int) by omega, show ((b.toNat : Nat) : Int) % 18446744073709551616 = ((b.toNat : Nat) : Int) by omega]
  rw [or_u64 (a := x * 256) (b := b.toNat) (by omega) (by omega)]
  have h : 256 * x + b.toNat = 256 * x ||| b.toNat := Nat.two_pow_add_eq_or_of_lt (i := 8) hb x
  rw [Nat.mul_comm x 256, ← h]
/-- What plain tells. -/
def plainA (acc : List UInt8) (i : Nat) : Option (List UInt8 × Nat) → ByteArray × Int
  | none => (⟨#[]⟩, -1)
  | some q => (txt (acc ++ q.1), ((i + q.2 : Nat) : Int))
/-- What text tells. -/
def textA (acc : List UInt8) (i : Nat) : Option (List UInt8 × Nat) → ByteArray × Int × Bool
  | none => (⟨#[]⟩, 0, false)
  | some q => (txt (acc ++ q.1), ((i + q.2 : Nat) : Int), true)
theorem plainA_step (acc : List UInt8) (i j : Nat) (a : UInt8) (o : Option (List UInt8 × Nat)) : plainA acc i (o.map fun q => (a :: q.1, q.2 + j)) = plainA (acc ++ [a]) (i + j) o := by
  cases o with
  | none => rfl
  | some q => simp [plainA]; omega
theorem textA_step (acc : List UInt8) (i j : Nat) (a : UInt8) (o : Option (List UInt8 × Nat)) : textA acc i (o.map fun q => (a :: q.1, q.2 + j)) = textA (acc ++ [a]) (i + j) o := by
  cases o with
  | none => rfl
  | some q => simp [textA]; omega
/-- What Get tells. -/
def getA : Option (V × Nat) → Int × Int × Int × ByteArray × Int × Int
  | none => (0, 0, 0, ⟨#[]⟩, 0, 3)
  | some q => (q.1.k, q.1.n, ((q.1.f : Nat) : Int), txt q.1.s, ((q.2 : Nat) : Int), 0)
theorem head_data (s : ByteArray) (c : UInt8) (r : List UInt8) (h : s.data.toList = c :: r) : bt s 0 = ((c.toNat : Nat) : Int) ∧ s.size = r.length + 1 ∧ (s.extract 1 s.size).data.toList = r := by
  have hz : s.size = r.length + 1 := by rw [size_data, h]; rfl
  obtain ⟨b, hb, hd⟩ := bt_data s 0 (by omega)
  rw [List.drop_zero, h] at hd
  obtain ⟨rfl, _⟩ := List.cons.inj hd
  refine ⟨hb, hz, ?_⟩
  rw [extract_tail, h]; rfl
theorem xor_word {u : Nat} (h : u < 18446744073709551616) : wrap64 (Go.bits .xor .u64 (u : Int) 9223372036854775808) = (u : Int) - 9223372036854775808 := by
  rw [xor_top h]; unfold wrap64; split <;> omega
end Go.Proofs.Ytifhnkbhjmapeaa.PA
