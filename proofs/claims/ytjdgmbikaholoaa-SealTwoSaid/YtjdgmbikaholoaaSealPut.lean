/- A text with its sum, and what is ahead of a sum: what the program's and the document's functions come to, in plain lists of bytes. -/
import Derived.Test.YtjdgmbikaholoaaPAx2
import Derived.Test.YtjdgmbikaholoaaPAx3
import Derived.Test.YtjdgmbikaholoaaSealSum
namespace Go.Proofs.Ytjdgmbikaholoaa.PA
open Go.RowKit Go.Proofs.YtjdgmbikaholoaaW.PrintWords Go.Proofs.YtjdgmbikaholoaaW.PrintLast Go.Proofs.Ytjdgmbikaholoaa.Plain

/-- A sum in four bytes, the highest first. -/
def be4 (c : Nat) : List UInt8 := [UInt8.ofNat (c / 16777216 % 256), UInt8.ofNat (c / 65536 % 256), UInt8.ofNat (c / 256 % 256), UInt8.ofNat (c % 256)]
def sealed (s : ByteArray) : ByteArray := s ++ ⟨(be4 (crc s.data.toList)).toArray⟩
theorem nums_be4 (c : Nat) : strOfNums ([((c : Int) / 16777216) % 256, ((c : Int) / 65536) % 256, ((c : Int) / 256) % 256, ((c : Int)) % 256] : List Int) = ⟨(be4 c).toArray⟩ := by
  unfold strOfNums be4
  simp only [List.map_cons, List.map_nil]
  have e : ∀ d : Nat, ((c : Int) / (d : Int) % 256).toNat = c / d % 256 := fun d => by
    rw [show ((c : Int) / (d : Int) % 256) = ((c / d % 256 : Nat) : Int) by omega, Int.toNat_natCast]
  have e1 := e 16777216
  have e2 := e 65536
  have e3 := e 256
  have e4 : ((c : Int) % 256).toNat = c % 256 := by omega
  rw [show ((16777216 : Nat) : Int) = 16777216 from rfl] at e1
  rw [show ((65536 : Nat) : Int) = 65536 from rfl] at e2
  rw [show ((256 : Nat) : Int) = 256 from rfl] at e3
  rw [e1, e2, e3, e4]
theorem size_be4 (c : Nat) : (⟨(be4 c).toArray⟩ : ByteArray).size = 4 := rfl
theorem put_is (s : ByteArray) (hn : s.size ≤ 140737488351232) (k : Nat) (hk : 10 * s.size < k) : seal_Put.f k s = some (sealed s) := by
  unfold seal_Put.f
  rw [sum_is s hn k hk]
  simp only [Option.bind_some]
  rw [nums_be4, size_be4, if_pos (by omega)]; rfl
theorem seal_is (s : ByteArray) (hn : s.size ≤ 140737488351232) (k : Nat) (hk : 10 * s.size < k) : falseworkref4_Seal.f k s = some (sealed s) := by
  unfold falseworkref4_Seal.f
  rw [ref_is s hn k hk]
  simp only [Option.bind_some]
  rw [nums_be4, size_be4, if_pos (by omega)]; rfl
theorem size_sealed (s : ByteArray) : (sealed s).size = s.size + 4 := by unfold sealed; rw [ByteArray.size_append, size_be4]
/-- What is ahead of a sum, and the error's number. -/
def opened (s : ByteArray) : ByteArray × Int := if s.size < 4 then (⟨#[]⟩, 3) else if sealed (s.extract 0 (s.size - 4)) = s then (s.extract 0 (s.size - 4), 0) else (⟨#[]⟩, 3)
theorem bytes_ext {a b : ByteArray} (h : a.toList = b.toList) : a = b := by
  rw [ByteArray.toList_eq, ByteArray.toList_eq] at h
  exact ByteArray.ext (by rw [← Array.toList_inj]; exact h)
theorem bytes_iff {a b : ByteArray} : a.toList = b.toList ↔ a = b := ⟨bytes_ext, fun h => by rw [h]⟩
theorem size_cut (s : ByteArray) (n : Nat) (h : n ≤ s.size) : (s.extract 0 n).size = n := by rw [ByteArray.size_extract]; omega
theorem get_is (s : ByteArray) (hn : s.size ≤ 140737488351232) (k : Nat) (hk : 10 * s.size < k) : seal_Get.f k s = some (opened s) := by
  unfold seal_Get.f opened
  have hw : wrap64 ((s.size : Int) - 4) = (s.size : Int) - 4 := by unfold wrap64; omega
  rw [hw]
  by_cases h : s.size < 4
  · rw [if_pos (by omega), if_pos h]
  · have ht : ((s.size : Int) - 4).toNat = s.size - 4 := by omega
    have hc := size_cut s (s.size - 4) (by omega)
    rw [if_neg (by omega), if_neg h, if_pos (by omega), if_pos (by omega), ht, put_is _ (by omega) k (by omega)]
    simp only [Option.bind_some, bytes_iff]
    by_cases e : sealed (s.extract 0 (s.size - 4)) = s
    · rw [if_pos e, if_pos e]
    · rw [if_neg e, if_neg e]
theorem open_is (s : ByteArray) (hn : s.size ≤ 140737488351232) (k : Nat) (hk : 10 * s.size < k) : falseworkref4_Open.f k s = some (opened s) := by
  unfold falseworkref4_Open.f opened
  have hw : wrap64 ((s.size : Int) - 4) = (s.size : Int) - 4 := by unfold wrap64; omega
  rw [hw]
  by_cases h : s.size < 4
  · rw [if_pos (by omega), if_pos h]
  · have ht : ((s.size : Int) - 4).toNat = s.size - 4 := by omega
    have hc := size_cut s (s.size - 4) (by omega)
    rw [if_neg (by omega), if_neg h, if_pos (by omega), if_pos (by omega), ht, seal_is _ (by omega) k (by omega)]
    simp only [Option.bind_some, bytes_iff]
    by_cases e : sealed (s.extract 0 (s.size - 4)) = s
    · rw [if_pos e, if_pos e]
    · rw [if_neg e, if_neg e]
theorem cut_sealed (s : ByteArray) : (sealed s).extract 0 ((sealed s).size - 4) = s := by
  rw [size_sealed, Nat.add_sub_cancel]
  unfold sealed
  apply ByteArray.ext
  rw [ByteArray.data_extract, ByteArray.data_append, Array.extract_append]
  have h : s.data.size = s.size := rfl
  rw [← h]
  simp
theorem opened_sealed (s : ByteArray) : opened (sealed s) = (s, 0) := by
  unfold opened
  rw [if_neg (by rw [size_sealed]; omega), cut_sealed, if_pos rfl]
end Go.Proofs.Ytjdgmbikaholoaa.PA
