/- Values read from bytes: what the program's and the document's functions come to. -/
import Derived.Test.YtncdpdbafklodaaPAx15
import Derived.Test.YtncdpdbafklodaaPAx16
import Derived.Test.YtncdpdbafklodaaPAx17
import Derived.Test.YtncdpdbafklodaaValDec
import Derived.Test.YtncdpdbafklodaaValueRef
namespace Go.Proofs.Ytncdpdbafklodaa.PA
open Go.RowKit Go.Proofs.YtncdpdbafklodaaW.PrintWords Go.Proofs.YtncdpdbafklodaaW.PrintLast Go.Proofs.Ytncdpdbafklodaa.Plain

theorem extract_tail (s : ByteArray) : (s.extract 1 s.size).data.toList = s.data.toList.drop 1 := by
  rw [ByteArray.data_extract, Array.toList_extract]
  simp only [List.extract]
  exact List.take_of_length_le (by rw [List.length_drop, ← size_data]; exact Nat.le_refl _)
theorem tail_size (s : ByteArray) : (s.extract 1 s.size).size = s.size - 1 := by
  rw [size_data, extract_tail, List.length_drop, ← size_data]
theorem byte_is (c d : UInt8) : ((c.toNat : Nat) : Int) = ((d.toNat : Nat) : Int) ↔ c = d := by
  constructor
  · intro h; exact UInt8.toNat_inj.1 (by omega)
  · rintro rfl; rfl
theorem byte_1 (c : UInt8) : ((c.toNat : Nat) : Int) = 1 ↔ c = 1 := byte_is c 1
theorem byte_2 (c : UInt8) : ((c.toNat : Nat) : Int) = 2 ↔ c = 2 := byte_is c 2
theorem byte_3 (c : UInt8) : ((c.toNat : Nat) : Int) = 3 ↔ c = 3 := byte_is c 3
theorem byte_4 (c : UInt8) : ((c.toNat : Nat) : Int) = 4 ↔ c = 4 := byte_is c 4
theorem byte_5 (c : UInt8) : ((c.toNat : Nat) : Int) = 5 ↔ c = 5 := byte_is c 5
theorem byte_6 (c : UInt8) : ((c.toNat : Nat) : Int) = 6 ↔ c = 6 := byte_is c 6
theorem byte_7 (c : UInt8) : ((c.toNat : Nat) : Int) = 7 ↔ c = 7 := byte_is c 7
theorem byte_255 (c : UInt8) : ((c.toNat : Nat) : Int) = 255 ↔ c = 255 := byte_is c 255
theorem bytesI_snoc (a : List UInt8) (b : UInt8) : bytesI a ++ [((b.toNat : Nat) : Int)] = bytesI (a ++ [b]) := by rw [bytesI_append]; rfl
theorem or_byte (x : Nat) (hx : x < 72057594037927936) (b : UInt8) : Go.bits .or .u64 (IntKind.u64.wrap ((x : Int) * 256)) (IntKind.u64.wrap ((b.toNat : Nat) : Int)) = ((x * 256 + b.toNat : Nat) : Int) := by
  have hb := b.toNat_lt
  rw [wrap_u64, wrap_u64, show ((x : Int) * 256) % 18446744073709551616 = ((x * 256 : Nat) : Int) by omega, show ((b.toNat : Nat) : Int) % 18446744073709551616 = ((b.toNat : Nat) : Int) by omega]
  rw [or_u64 (a := x * 256) (b := b.toNat) (by omega) (by omega)]
  have h : 256 * x + b.toNat = 256 * x ||| b.toNat := Nat.two_pow_add_eq_or_of_lt (i := 8) hb x
  rw [Nat.mul_comm x 256, ← h]
theorem num_from (s : ByteArray) (hs : s.size ≤ 1000000) (d : Nat) : ∀ (k i x : Nat), i + d = 8 → d < k → 8 ≤ s.size → x < 256 ^ i →
    falseworkref2_Number.l0 k s (x : Int) (i : Int) = some ((wordN d (s.data.toList.drop i) x : Nat) : Int) := by
  induction d with
  | zero =>
    intro k i x hi hk hl hx
    obtain ⟨k, rfl⟩ : ∃ m, k = m + 1 := ⟨k - 1, by omega⟩
    simp only [falseworkref2_Number.l0]
    rw [if_neg (by omega)]; rfl
  | succ d ih =>
    intro k i x hi hk hl hx
    obtain ⟨k, rfl⟩ : ∃ m, k = m + 1 := ⟨k - 1, by omega⟩
    obtain ⟨b, hb, hd⟩ := bt_data s i (by omega)
    have h7 : 256 ^ i ≤ 256 ^ 7 := Nat.pow_le_pow_right (by decide) (by omega)
    have e7 : 256 ^ 7 = 72057594037927936 := by decide
    have hb' := b.toNat_lt
    simp only [falseworkref2_Number.l0]
    rw [if_pos (by omega), if_pos (by omega), if_pos (by omega), hb, or_byte x (by omega), show wrap64 ((i : Int) + 1) = ((i + 1 : Nat) : Int) by unfold wrap64; omega, hd]
    exact ih k (i + 1) _ (by omega) (by omega) hl (by rw [Nat.pow_succ]; omega)
theorem ref_number_is (s : ByteArray) (hs : s.size ≤ 1000000) (h8 : 8 ≤ s.size) (k : Nat) (hk : 9 ≤ k) : falseworkref2_Number.f k s = some ((wordN 8 s.data.toList 0 : Nat) : Int) := by
  have := num_from s hs 8 k 0 0 rfl hk h8 (by decide)
  rw [List.drop_zero] at this
  exact this
/-- What plain tells. -/
def plainA (acc : List UInt8) (i : Nat) : Option (List UInt8 × Nat) → ByteArray × Int
  | none => (⟨#[]⟩, -1)
  | some q => (txt (acc ++ q.1), ((i + q.2 : Nat) : Int))
/-- What text tells. -/
def textA (acc : List UInt8) (i : Nat) : Option (List UInt8 × Nat) → ByteArray × Int × Bool
  | none => (⟨#[]⟩, 0, false)
  | some q => (txt (acc ++ q.1), ((i + q.2 : Nat) : Int), true)
theorem plainA_step (acc : List UInt8) (i j : Nat) (a : UInt8) (o : Option (List UInt8 × Nat)) : plainA acc i (o.map fun q => (a :: q.1, q.2 + j)) = plainA (acc ++ [a]) (i + j) o := by
  cases o with
  | none => rfl
  | some q => simp [plainA]; omega
theorem textA_step (acc : List UInt8) (i j : Nat) (a : UInt8) (o : Option (List UInt8 × Nat)) : textA acc i (o.map fun q => (a :: q.1, q.2 + j)) = textA (acc ++ [a]) (i + j) o := by
  cases o with
  | none => rfl
  | some q => simp [textA]; omega
theorem text_from (s : ByteArray) (hs : s.size ≤ 1000000) (d : Nat) : ∀ (k i : Nat) (acc : List UInt8), s.size ≤ i + d → i ≤ s.size → d < k → acc.length ≤ i →
    falseworkref2_text.l0 k s (bytesI acc) (i : Int) = some (textA acc i (unesc (s.data.toList.drop i))) := by
  induction d using Nat.strongRecOn with
  | _ d ih =>
    intro k i acc hi hi2 hk hl
    obtain ⟨k, rfl⟩ : ∃ m, k = m + 1 := ⟨k - 1, by omega⟩
    have hw : wrap64 ((i : Int) + 1) = ((i + 1 : Nat) : Int) := by unfold wrap64; omega
    have hw2 : wrap64 (((i + 1 : Nat) : Int) + 1) = ((i + 2 : Nat) : Int) := by unfold wrap64; omega
    simp only [falseworkref2_text.l0]
    rw [hw, hw2]
    by_cases h : i < s.size
    · obtain ⟨a, ha, hd⟩ := bt_data s i (by omega)
      rw [if_pos (by omega), if_pos (by omega), ha, bytesI_snoc, hd]
      by_cases h0 : a = 0
      · rw [if_pos ((byte_zero a).2 h0), h0]
        by_cases h9 : i + 1 < s.size
        · obtain ⟨b, hb, hd2⟩ := bt_data s (i + 1) (by omega)
          rw [if_neg (by omega), if_pos (by omega), if_pos (by omega), hb, hd2]
          by_cases h1 : b = 1
          · rw [if_pos ((byte_1 b).2 h1), h1, unesc_end, str_bytesI]; simp [textA, txt]
          · rw [if_neg (fun e => h1 ((byte_1 b).1 e))]
            by_cases h2 : b = 255
            · rw [if_pos ((byte_255 b).2 h2), if_pos (by rw [bytesI_length]; omega), h2, unesc_zero, textA_step, show bytesI acc ++ [0] = bytesI (acc ++ [0]) from bytesI_snoc acc 0]
              exact ih (d - 2) (by omega) k (i + 2) _ (by omega) (by omega) (by omega) (by simp; omega)
            · rw [if_neg (fun e => h2 ((byte_255 b).1 e)), unesc_bad h1 h2]; rfl
        · rw [if_pos (by omega)]
          have : s.data.toList.drop (i + 1) = [] := List.drop_eq_nil_of_le (by rw [← size_data]; omega)
          rw [this]; rfl
      · rw [if_neg (fun e => h0 ((byte_zero a).1 e)), if_pos (by rw [bytesI_length]; omega), unesc_other h0, textA_step]
        exact ih (d - 1) (by omega) k (i + 1) _ (by omega) (by omega) (by omega) (by simp; omega)
    · rw [if_neg (by omega)]
      have : s.data.toList.drop i = [] := List.drop_eq_nil_of_le (by rw [← size_data]; omega)
      rw [this]; rfl
theorem ref_text_is (s : ByteArray) (hs : s.size ≤ 1000000) (k : Nat) (hk : s.size < k) : falseworkref2_text.f k s = some (textA [] 0 (unesc s.data.toList)) := by
  have := text_from s hs s.size k 0 [] (by omega) (by omega) hk (by decide)
  rw [List.drop_zero] at this
  exact this
/-- What Get tells. -/
def getA : Option (V × Nat) → Int × Int × Int × ByteArray × Int × Int
  | none => (0, 0, 0, ⟨#[]⟩, 0, 3)
  | some q => (q.1.k, q.1.n, ((q.1.f : Nat) : Int), txt q.1.s, ((q.2 : Nat) : Int), 0)
theorem head_data (s : ByteArray) (c : UInt8) (r : List UInt8) (h : s.data.toList = c :: r) : bt s 0 = ((c.toNat : Nat) : Int) ∧ s.size = r.length + 1 ∧ (s.extract 1 s.size).data.toList = r := by
  have hz : s.size = r.length + 1 := by rw [size_data, h]; rfl
  obtain ⟨b, hb, hd⟩ := bt_data s 0 (by omega)
  rw [List.drop_zero, h] at hd
  obtain ⟨rfl, _⟩ := List.cons.inj hd
  refine ⟨hb, hz, ?_⟩
  rw [extract_tail, h]; rfl
theorem xor_word {u : Nat} (h : u < 18446744073709551616) : wrap64 (Go.bits .xor .u64 (u : Int) 9223372036854775808) = (u : Int) - 9223372036854775808 := by
  rw [xor_top h]; unfold wrap64; split <;> omega
theorem ref_get_is (s : ByteArray) (hs : s.size ≤ 1000000) (K : Nat) (hK : s.size + 60 ≤ K) : falseworkref2_Get.f K s = some (getA (decV s.data.toList)) := by
  obtain ⟨K, rfl⟩ : ∃ m, K = m + 3 := ⟨K - 3, by omega⟩
  unfold falseworkref2_Get.f
  rw [toList_data]
  cases hl : s.data.toList with
  | nil => rw [if_pos rfl]; rfl
  | cons c r =>
    obtain ⟨hb, hz, ht⟩ := head_data s c r hl
    have htz : (s.extract 1 s.size).size = r.length := by rw [size_data, ht]
    rw [if_neg (by simp), if_pos (by omega), hb]
    simp only [decV]
    by_cases h1 : c = 1
    · rw [if_pos ((byte_1 c).2 h1), if_pos h1]; rfl
    rw [if_neg (fun e => h1 ((byte_1 c).1 e)), if_neg h1]
    by_cases h2 : c = 2
    · rw [if_pos ((byte_2 c).2 h2), if_pos h2]
      simp only [falseworkref2_Get.j0]
      rw [hb, h2, if_pos (by decide), if_pos (by omega)]; rfl
    rw [if_neg (fun e => h2 ((byte_2 c).1 e)), if_neg h2]
    by_cases h3 : c = 3
    · rw [if_pos h3]
      simp only [falseworkref2_Get.j0]
      rw [hb, h3, if_pos (by decide), if_pos (by omega)]; rfl
    have n3 : (((c.toNat : Nat) : Int) == 3) = false := beq_eq_false_iff_ne.2 (fun e => h3 ((byte_3 c).1 e))
    rw [if_neg h3, n3]
    simp only [falseworkref2_Get.j0, Bool.false_eq_true, if_false]
    have hnum : 8 ≤ r.length → falseworkref2_Number.f (K + 1) (s.extract 1 s.size) = some ((wordN 8 r 0 : Nat) : Int) := fun h8 => by
      rw [ref_number_is _ (by omega) (by omega) _ (by omega), ht]
    by_cases h4 : c = 4
    · rw [if_pos ((byte_4 c).2 h4), if_pos h4]
      simp only [falseworkref2_Get.j1]
      rw [hb, h4, if_pos (by decide)]
      by_cases h8 : 8 ≤ r.length
      · rw [if_pos h8, if_neg (by omega), if_pos (by omega), hnum h8, Option.bind_some, if_pos (by omega), if_pos (by decide), xor_word (wordN_lt8 r)]; rfl
      · rw [if_neg h8, if_pos (by omega)]; rfl
    rw [if_neg (fun e => h4 ((byte_4 c).1 e)), if_neg h4]
    by_cases h5 : c = 5
    · rw [if_pos h5]
      simp only [falseworkref2_Get.j1]
      rw [hb, h5, if_pos (by decide)]
      by_cases h8 : 8 ≤ r.length
      · rw [if_pos h8, if_neg (by omega), if_pos (by omega), hnum h8, Option.bind_some, if_pos (by omega), if_neg (by decide), ref_back_is (wordN_lt8 r) _ (by omega), Option.bind_some]
        by_cases hbk : (back (wordN 8 r 0)).2 = true
        · rw [if_pos hbk, if_pos hbk]; rfl
        · rw [if_neg hbk, if_neg hbk]; rfl
      · rw [if_neg h8, if_pos (by omega)]; rfl
    have n5 : (((c.toNat : Nat) : Int) == 5) = false := beq_eq_false_iff_ne.2 (fun e => h5 ((byte_5 c).1 e))
    rw [if_neg h5, n5]
    simp only [falseworkref2_Get.j1, Bool.false_eq_true, if_false]
    have hp := ref_text_is (s.extract 1 s.size) (by omega) K (by omega)
    rw [ht] at hp
    have main : ∀ (F : List UInt8 → V), (∀ t, (F t).k = wrap64 (wrap64 ((c.toNat : Nat) : Int) - 2) ∧ (F t).n = 0 ∧ (F t).f = 0 ∧ (F t).s = t) →
        falseworkref2_Get.j2 (K + 1) s true = some (getA ((unesc r).bind fun q => if q.1.length ≤ 40 then some (F q.1, q.2 + 1) else none)) := by
      intro F hF
      simp only [falseworkref2_Get.j2, if_true]
      rw [if_pos (by omega), hp, Option.bind_some]
      cases e : unesc r with
      | none => rfl
      | some q =>
        obtain ⟨q1, q2⟩ := unesc_is r.length r (Nat.le_refl _) q.1 q.2 e
        have hq : q.2 ≤ 1000000 := by have := congrArg List.length q2; simp at this; omega
        simp only [textA, List.nil_append, Nat.zero_add, Option.bind_some, if_true, txt_size]
        obtain ⟨f1, f2, f3, f4⟩ := hF q.1
        by_cases h40 : q.1.length ≤ 40
        · rw [if_neg (by omega), if_pos (by omega), if_pos h40, hb]
          simp only [getA]
          rw [f1, f2, f3, f4, show wrap64 ((q.2 : Int) + 1) = ((q.2 + 1 : Nat) : Int) by unfold wrap64; omega]; rfl
        · rw [if_pos (by omega), if_neg h40]; rfl
    by_cases h6 : c = 6
    · rw [if_pos ((byte_6 c).2 h6), if_pos h6]
      have b6 : (((c.toNat : Nat) : Int) == 6) = true := beq_iff_eq.2 ((byte_6 c).2 h6)
      rw [b6]
      exact main V.raw (fun t => ⟨by rw [h6]; show (4 : Int) = wrap64 (wrap64 6 - 2); unfold wrap64; omega, rfl, rfl, rfl⟩)
    rw [if_neg (fun e => h6 ((byte_6 c).1 e)), if_neg h6]
    by_cases h7 : c = 7
    · rw [if_pos h7]
      have b7 : (((c.toNat : Nat) : Int) == 7) = true := beq_iff_eq.2 ((byte_7 c).2 h7)
      rw [b7]
      exact main V.text (fun t => ⟨by rw [h7]; show (5 : Int) = wrap64 (wrap64 7 - 2); unfold wrap64; omega, rfl, rfl, rfl⟩)
    have n7 : (((c.toNat : Nat) : Int) == 7) = false := beq_eq_false_iff_ne.2 (fun e => h7 ((byte_7 c).1 e))
    rw [if_neg h7, n7]; rfl
end Go.Proofs.Ytncdpdbafklodaa.PA
