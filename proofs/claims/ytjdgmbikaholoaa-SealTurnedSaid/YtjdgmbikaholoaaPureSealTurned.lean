/- A text with its sum, of which one byte is turned, is refused: for any text of at most 20000 bytes; of longer ones nothing is asked. -/
import Derived.Test.YtjdgmbikaholoaaPAx4
import Derived.Test.YtjdgmbikaholoaaSealTurn
namespace Go.Proofs.Ytjdgmbikaholoaa.Pure
open Go.RowKit Go.Proofs.Ytjdgmbikaholoaa.PA Go.Proofs.YtjdgmbikaholoaaW.PrintWords Go.Proofs.YtjdgmbikaholoaaW.PrintLast Go.Proofs.Ytjdgmbikaholoaa.Plain

theorem u8_bounds {n : Int} (hn : (Lit.int .u8 n).wf = true) : 0 ≤ n ∧ n ≤ 255 := by
  have h1 : IntKind.u8.min ≤ n ∧ n ≤ IntKind.u8.max := by simpa [Lit.wf] using hn
  have h2 : IntKind.u8.min = 0 := by decide
  have h3 : IntKind.u8.max = 255 := by decide
  rw [h2, h3] at h1
  exact h1
theorem SealTurned (s : ByteArray) (at_ wi : Int) (_ : s.size ≤ maxLen) (_ : (Lit.int .i64 at_).wf = true) (h2 : (Lit.int .u8 wi).wf = true) : ∃ k, falseworklaw5_SealTurned.f k s at_ wi = some true := by
  obtain ⟨b0, b1⟩ := u8_bounds h2
  refine ⟨10 * s.size + 300, ?_⟩
  unfold falseworklaw5_SealTurned.f
  rw [awake_true _ (by omega)]
  by_cases h : (s.size : Int) > 20000
  · rw [if_pos h]
  have hz := size_sealed s
  rw [if_neg h, if_pos b0, if_pos b1, put_is s (by omega) _ (by omega), Option.bind_some, if_pos (by omega), if_pos (by omega)]
  have hm0 := Int.emod_nonneg (at_ % 18446744073709551616) (show ((sealed s).size : Int) ≠ 0 by omega)
  have hm1 := Int.emod_lt_of_pos (at_ % 18446744073709551616) (show 0 < ((sealed s).size : Int) by omega)
  generalize (at_ % 18446744073709551616) % ((sealed s).size : Int) = q at *
  obtain ⟨m, rfl⟩ : ∃ m : Nat, q = (m : Int) := ⟨q.toNat, by omega⟩
  have hL : (sealed s).data.toList = s.data.toList ++ be4 (crc s.data.toList) := by
    unfold sealed
    rw [ByteArray.data_append, Array.toList_append]
  have hlen : (sealed s).data.toList.length = (sealed s).size := by rw [Array.length_toList]; rfl
  have hi : m < (sealed s).data.toList.length := by omega
  have hbt : bt (sealed s) (m : Int) = (((sealed s).data.toList[m]'hi).toNat : Int) := by
    unfold bt
    rw [dif_pos (show (m : Int).toNat < (sealed s).size by omega)]
    rfl
  have hb := ((sealed s).data.toList[m]'hi).toNat_lt
  obtain ⟨d, hd, hd0, hd1⟩ : ∃ d : Nat, 1 + wi % 255 = (d : Int) ∧ 0 < d ∧ d < 256 := ⟨(1 + wi % 255).toNat, by omega, by omega, by omega⟩
  have hv : falseworklaw5_SealTurned.v (sealed s) (m : Int) wi = ((((sealed s).data.toList[m]'hi).toNat ^^^ d : Nat) : Int) := by
    unfold falseworklaw5_SealTurned.v
    rw [hbt, hd, xor_byte8 hb hd1]
  have hxl : ((sealed s).data.toList[m]'hi).toNat ^^^ d < 256 := Nat.xor_lt_two_pow (n := 8) hb hd1
  obtain ⟨x, hx⟩ : ∃ x : UInt8, x.toNat = ((sealed s).data.toList[m]'hi).toNat ^^^ d := ⟨UInt8.ofNat (((sealed s).data.toList[m]'hi).toNat ^^^ d), by rw [UInt8.toNat_ofNat', Nat.mod_eq_of_lt hxl]⟩
  have hne : x ≠ (sealed s).data.toList[m]'hi := by
    intro e
    rw [e] at hx
    exact xor_ne (a := ((sealed s).data.toList[m]'hi).toNat) (d := d) (by omega) hx.symm
  rw [hv, ← hx, Int.toNat_natCast]
  have hS : (strOfNums ((bytesOf (sealed s)).set m (x.toNat : Int))).data.toList = (sealed s).data.toList.set m x := by
    rw [str_data]
    have : (bytesOf (sealed s)).set m (x.toNat : Int) = ((sealed s).data.toList.set m x).map fun b => (b.toNat : Int) := by
      unfold bytesOf; rw [List.map_set]
    rw [this, bytes_back]
  generalize strOfNums ((bytesOf (sealed s)).set m (x.toNat : Int)) = S at *
  have hSz : S.size = s.size + 4 := by
    have e : S.data.toList.length = S.size := by rw [Array.length_toList]; rfl
    rw [hS, List.length_set] at e
    omega
  rw [get_is S (by omega) _ (by omega), Option.bind_some]
  have hop : opened S = (⟨#[]⟩, 3) := by
    unfold opened
    rw [if_neg (by omega), if_neg]
    intro e
    have e2 : (sealed (S.extract 0 (S.size - 4))).data.toList = S.data.toList := by rw [e]
    unfold sealed at e2
    rw [ByteArray.data_append, Array.toList_append] at e2
    have ht : (S.extract 0 (S.size - 4)).data.toList = ((s.data.toList ++ be4 (crc s.data.toList)).set m x).take s.data.toList.length := by
      rw [ByteArray.data_extract, Array.toList_extract, ← hL, ← hS]
      have : s.data.toList.length = S.size - 4 := by rw [Array.length_toList]; show s.size = _; omega
      rw [this]
      simp
    rw [hS, hL] at e2
    have hi' : m < (s.data.toList ++ be4 (crc s.data.toList)).length := by rw [← hL]; exact hi
    refine turned s.data.toList m x hi' ?_ _ ht e2
    intro e3
    apply hne
    rw [e3]
    congr 1
  rw [hop, if_pos (by rfl), if_pos (by rw [ByteArray.toList_eq])]
end Go.Proofs.Ytjdgmbikaholoaa.Pure
