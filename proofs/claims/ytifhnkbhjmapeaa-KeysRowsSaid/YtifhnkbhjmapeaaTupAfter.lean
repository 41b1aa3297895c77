/- What is behind a text: what the program's function comes to. -/
import Derived.Test.YtifhnkbhjmapeaaPAx10
import Derived.Test.YtifhnkbhjmapeaaPAx11
import Derived.Test.YtifhnkbhjmapeaaTup
import Derived.Test.YtifhnkbhjmapeaaValueGet
namespace Go.Proofs.Ytifhnkbhjmapeaa.PA
open Go.RowKit Go.Proofs.YtifhnkbhjmapeaaW.PrintWords Go.Proofs.YtifhnkbhjmapeaaW.PrintLast Go.Proofs.Ytifhnkbhjmapeaa.Plain

def afterA : Option (List UInt8) → ByteArray × Bool
  | none => (⟨#[]⟩, false)
  | some h => (txt h, true)
theorem take_snoc (s : ByteArray) (n : Nat) (h : n < s.size) : ∃ b : UInt8, bt s (n : Int) = ((b.toNat : Nat) : Int) ∧ s.data.toList.take (n + 1) = s.data.toList.take n ++ [b] := by
  obtain ⟨b, hb, hd⟩ := bt_data s n h
  refine ⟨b, hb, ?_⟩
  have h1 := List.take_append_drop n s.data.toList
  have hl : (s.data.toList.take n).length = n := by rw [List.length_take, ← size_data]; omega
  rw [hd] at h1
  have h2 : s.data.toList.take (n + 1) = (s.data.toList.take n ++ b :: s.data.toList.drop (n + 1)).take (n + 1) := by rw [h1]
  rw [h2, List.take_append, hl, show n + 1 - n = 1 by omega, List.take_of_length_le (by omega)]; rfl
theorem extract_head (s : ByteArray) (n : Nat) : s.extract 0 n = txt (s.data.toList.take n) := by
  apply ByteArray.ext
  rw [← Array.toList_inj, ByteArray.data_extract, Array.toList_extract]
  simp [List.extract, txt]
theorem byte_succ (b : UInt8) : strOfNums [(((b.toNat : Nat) : Int) + 1) % 256] = txt [b + 1] := by
  have hb := b.toNat_lt
  have h : (((b.toNat : Nat) : Int) + 1) % 256 = (((b + 1).toNat : Nat) : Int) := by
    rw [UInt8.toNat_add]
    show _ = (((b.toNat + 1) % 256 : Nat) : Int)
    omega
  rw [h]
  exact str_bytesI [b + 1]
theorem tuple_after_from (s : ByteArray) (hs : s.size ≤ 1000000) : ∀ (n k : Nat), n ≤ s.size → n < k → tuple_After.l0 k s (n : Int) = some (afterA (after (s.data.toList.take n))) := by
  intro n
  induction n with
  | zero =>
    intro k hn hk
    obtain ⟨k, rfl⟩ : ∃ m, k = m + 1 := ⟨k - 1, by omega⟩
    simp only [tuple_After.l0]
    rw [if_neg (by omega), if_pos (by omega)]; rfl
  | succ n ih =>
    intro k hn hk
    obtain ⟨k, rfl⟩ : ∃ m, k = m + 1 := ⟨k - 1, by omega⟩
    obtain ⟨b, hb, ht⟩ := take_snoc s n (by omega)
    simp only [tuple_After.l0, Option.bind_some]
    rw [show wrap64 (((n + 1 : Nat) : Int) - 1) = ((n : Nat) : Int) by unfold wrap64; omega, if_pos (by omega), if_pos (by omega), if_pos (by omega), hb, ht, after_snoc]
    by_cases h : b = 255
    · rw [if_pos ((byte_255 b).2 h), if_pos h]
      exact ih k (by omega) (by omega)
    · rw [if_neg (fun e => h ((byte_255 b).1 e)), if_neg h, if_neg (by omega), if_pos (by omega), Int.toNat_natCast, extract_head, byte_succ, if_pos (by
        rw [txt_size, txt_size, List.length_take]; show min n _ + 1 ≤ _; omega), txt_append]
      rfl
theorem tuple_after_is (s : ByteArray) (hs : s.size ≤ 1000000) (k : Nat) (hk : s.size < k) : tuple_After.f k s = some (afterA (after s.data.toList)) := by
  have := tuple_after_from s hs s.size k (Nat.le_refl _) hk
  rw [List.take_of_length_le (by rw [← size_data]; exact Nat.le_refl _)] at this
  exact this
theorem ref_after_from (s : ByteArray) : ∀ n : Nat, n ≤ s.size →
    (match falseworkref2_After.cut s n with
    | 0 => ((⟨#[]⟩ : ByteArray), false)
    | m + 1 => (s.extract 0 m ++ strOfNums [(bt s (m : Int) + 1) % 256], true)) = afterA (after (s.data.toList.take n)) := by
  intro n
  induction n with
  | zero => intro _; rfl
  | succ n ih =>
    intro hn
    obtain ⟨b, hb, ht⟩ := take_snoc s n (by omega)
    rw [ht, after_snoc]
    unfold falseworkref2_After.cut
    rw [hb]
    by_cases h : b = 255
    · rw [if_pos ((byte_255 b).2 h), if_pos h]
      exact ih (by omega)
    · rw [if_neg (fun e => h ((byte_255 b).1 e)), if_neg h]
      dsimp only
      rw [hb, extract_head, byte_succ, txt_append]
      rfl
theorem ref_after_is (s : ByteArray) (hs : s.size ≤ 1000000) : falseworkref2_After.f s = some (afterA (after s.data.toList)) := by
  have h := ref_after_from s s.size (Nat.le_refl _)
  rw [List.take_of_length_le (by rw [← size_data]; exact Nat.le_refl _)] at h
  unfold falseworkref2_After.f
  rw [if_pos hs, ← h]
  cases falseworkref2_After.cut s s.size <;> rfl
end Go.Proofs.Ytifhnkbhjmapeaa.PA
