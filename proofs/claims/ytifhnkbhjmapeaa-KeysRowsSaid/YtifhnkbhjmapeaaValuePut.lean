/- The bytes of values: what the program's and the document's functions come to. -/
import Derived.Test.YtifhnkbhjmapeaaPAx2
import Derived.Test.YtifhnkbhjmapeaaPAx3
import Derived.Test.YtifhnkbhjmapeaaValueMay
namespace Go.Proofs.Ytifhnkbhjmapeaa.PA
open Go.RowKit Go.Proofs.YtifhnkbhjmapeaaW.PrintWords Go.Proofs.YtifhnkbhjmapeaaW.PrintLast Go.Proofs.Ytifhnkbhjmapeaa.Plain

/-- Bytes as whole numbers. -/
def bytesI (l : List UInt8) : List Int := l.map fun b => (b.toNat : Int)
theorem str_bytesI (l : List UInt8) : strOfNums (bytesI l) = ⟨l.toArray⟩ := by
  unfold strOfNums bytesI
  rw [List.map_map]
  congr 2
  conv => rhs; rw [← List.map_id l]
  apply List.map_congr_left
  intro b _
  show UInt8.ofNat ((b.toNat : Int)).toNat = b
  rw [Int.toNat_natCast, UInt8.ofNat_toNat]
theorem bytesI_append (a b : List UInt8) : bytesI (a ++ b) = bytesI a ++ bytesI b := by unfold bytesI; rw [List.map_append]
theorem bytesI_length (a : List UInt8) : (bytesI a).length = a.length := by unfold bytesI; rw [List.length_map]
theorem byteI (d u : Nat) : ((UInt8.ofNat (u / d % 256)).toNat : Int) = (u : Int) / (d : Int) % 256 := by
  rw [UInt8.toNat_ofNat', ← Int.natCast_ediv]
  generalize u / d = q
  omega
theorem bytesI_be8 (u : Nat) : bytesI (be8 u) = [(u : Int) / 72057594037927936 % 256, (u : Int) / 281474976710656 % 256, (u : Int) / 1099511627776 % 256, (u : Int) / 4294967296 % 256, (u : Int) / 16777216 % 256, (u : Int) / 65536 % 256, (u : Int) / 256 % 256, (u : Int) % 256] := by
  unfold bytesI be8
  simp only [List.map_cons, List.map_nil]
  have e := fun d => byteI d u
  have e8 : ((UInt8.ofNat (u % 256)).toNat : Int) = (u : Int) % 256 := by
    have := byteI 1 u
    rw [Nat.div_one] at this
    rw [this]; simp
  rw [e, e, e, e, e, e, e, e8]; rfl
theorem shr8 (u : Nat) (j : Nat) (hj : j ≤ 64) : shr .u64 (u : Int) (j : Int) = (u : Int) / ((2 ^ j : Nat) : Int) := by
  unfold shr
  rw [Int.toNat_natCast]
  simp only [IntKind.bits]
  rw [Nat.min_eq_left hj]
  simp
theorem value_eight_is (u : Nat) (k : Nat) (hk : 9 ≤ k) : value_eight.f k (u : Int) = some (bytesI (be8 u)) := by
  obtain ⟨k, rfl⟩ : ∃ m, k = m + 9 := ⟨k - 9, by omega⟩
  unfold value_eight.f
  rw [if_pos (by decide), Option.bind_some, bytesI_be8]
  have hs : ∀ i : Nat, i ≤ 7 → wrap64 (8 * wrap64 (7 - (i : Int))) = ((8 * (7 - i) : Nat) : Int) := fun i hi => by unfold wrap64; omega
  have step : ∀ (i m : Nat) (l : List Int), i ≤ 7 → l.length = 8 → value_eight.l0 (m + 1) (u : Int) l 8 (i : Int) = value_eight.l0 m (u : Int) (l.set i ((u : Int) / ((2 ^ (8 * (7 - i)) : Nat) : Int) % 256)) 8 ((i + 1 : Nat) : Int) := by
    intro i m l hi hl
    simp only [value_eight.l0]
    rw [if_pos (by omega), hs i hi, if_pos (by omega), if_pos (by omega), if_pos (by omega), shr8 u _ (by omega), Int.toNat_natCast]
    congr 1
    unfold wrap64; omega
  have hr : (List.replicate 8 (0 : Int)) = [0, 0, 0, 0, 0, 0, 0, 0] := rfl
  rw [hr]
  show value_eight.l0 (k + 9) (u : Int) [0, 0, 0, 0, 0, 0, 0, 0] 8 ((0 : Nat) : Int) = _
  rw [step 0 (k + 8) _ (by decide) rfl, step 1 (k + 7) _ (by decide) rfl, step 2 (k + 6) _ (by decide) rfl, step 3 (k + 5) _ (by decide) rfl, step 4 (k + 4) _ (by decide) rfl, step 5 (k + 3) _ (by decide) rfl, step 6 (k + 2) _ (by decide) rfl, step 7 (k + 1) _ (by decide) rfl]
  simp only [value_eight.l0]
  rw [if_neg (by omega)]
  simp [List.set]
theorem bt_data (s : ByteArray) (i : Nat) (h : i < s.size) : ∃ b : UInt8, bt s (i : Int) = ((b.toNat : Nat) : Int) ∧ s.data.toList.drop i = b :: s.data.toList.drop (i + 1) := by
  refine ⟨s[i], ?_, ?_⟩
  · unfold bt; simp [h]
  · rw [List.drop_eq_getElem_cons (by simpa using h)]; rfl
theorem byte_zero (b : UInt8) : ((b.toNat : Nat) : Int) = 0 ↔ b = 0 := by
  constructor
  · intro h; exact UInt8.toNat_inj.1 (by simpa using h)
  · rintro rfl; rfl
theorem esc_from (s : ByteArray) (hs : s.size ≤ 1000000) (d : Nat) : ∀ (k i : Nat) (acc : List UInt8), i + d = s.size → d < k → acc.length ≤ 10 + 2 * i →
    value_escaped.l0 k s (bytesI acc) (s.size : Int) (i : Int) = some (bytesI (acc ++ (esc (s.data.toList.drop i) ++ [0, 1]))) := by
  induction d with
  | zero =>
    intro k i acc hi hk hl
    obtain ⟨k, rfl⟩ : ∃ m, k = m + 1 := ⟨k - 1, by omega⟩
    simp only [value_escaped.l0, Option.bind_some]
    rw [if_neg (by omega), if_pos (by rw [bytesI_length]; show acc.length + 2 < _; omega), List.drop_eq_nil_of_le (by rw [← size_data]; omega)]
    rw [bytesI_append]; rfl
  | succ d ih =>
    intro k i acc hi hk hl
    obtain ⟨k, rfl⟩ : ∃ m, k = m + 1 := ⟨k - 1, by omega⟩
    obtain ⟨b, hb, hd⟩ := bt_data s i (by omega)
    have hw : wrap64 ((i : Int) + 1) = ((i + 1 : Nat) : Int) := by unfold wrap64; omega
    simp only [value_escaped.l0, Option.bind_some]
    rw [if_pos (by omega), if_pos (by omega), if_pos (by omega), if_pos (by rw [bytesI_length]; omega), hb, hw, hd]
    have e1 : bytesI acc ++ [((b.toNat : Nat) : Int)] = bytesI (acc ++ [b]) := by rw [bytesI_append]; rfl
    rw [e1]
    simp only [esc]
    by_cases h0 : b = 0
    · rw [if_pos ((byte_zero b).2 h0), if_pos (by rw [bytesI_length, List.length_append]; show acc.length + 1 < _; omega), if_pos h0]
      have e2 : bytesI (acc ++ [b]) ++ [255] = bytesI (acc ++ [b] ++ [255]) := by rw [bytesI_append (acc ++ [b])]; rfl
      rw [e2, ih k (i + 1) _ (by omega) (by omega) (by simp; omega), h0]
      simp
    · rw [if_neg (fun h => h0 ((byte_zero b).1 h)), if_neg h0, ih k (i + 1) _ (by omega) (by omega) (by simp; omega)]
      simp
theorem value_escaped_is (c : UInt8) (s : ByteArray) (hs : s.size ≤ 1000000) (k : Nat) (hk : s.size < k) : value_escaped.f k (c.toNat : Int) s = some (bytesI (c :: (esc s.data.toList ++ [0, 1]))) := by
  unfold value_escaped.f
  have := esc_from s hs s.size k 0 [c] (by omega) hk (by show 1 ≤ _; omega)
  rw [List.drop_zero] at this
  exact this
theorem biased_is {n : Int} (h0 : -9223372036854775808 ≤ n) (h1 : n ≤ 9223372036854775807) : Go.bits .xor .u64 (IntKind.u64.wrap n) 9223372036854775808 = ((biased n : Nat) : Int) := by
  rw [wrap_u64]
  obtain ⟨x, hx, hl⟩ : ∃ x : Nat, n % 18446744073709551616 = (x : Int) ∧ x < 18446744073709551616 := ⟨(n % 18446744073709551616).toNat, by omega, by omega⟩
  rw [hx, xor_top hl]
  unfold biased
  split <;> omega
theorem i64_bounds {n : Int} (h : (Lit.int .i64 n).wf = true) : -9223372036854775808 ≤ n ∧ n ≤ 9223372036854775807 := by
  have h1 : IntKind.i64.min ≤ n ∧ n ≤ IntKind.i64.max := by simpa [Lit.wf] using h
  have h2 : IntKind.i64.min = -9223372036854775808 := by decide
  have h3 : IntKind.i64.max = 9223372036854775807 := by decide
  rw [h2, h3] at h1
  exact h1
/-- A list of bytes as a text. -/
def txt (l : List UInt8) : ByteArray := ⟨l.toArray⟩
theorem txt_data (l : List UInt8) : (txt l).data.toList = l := by unfold txt; simp
theorem txt_of (s : ByteArray) : txt s.data.toList = s := by unfold txt; apply ByteArray.ext; simp
theorem txt_size (l : List UInt8) : (txt l).size = l.length := by rw [size_data, txt_data]
theorem txt_append (a b : List UInt8) : txt a ++ txt b = txt (a ++ b) := by
  apply ByteArray.ext; rw [ByteArray.data_append, ← Array.toList_inj, Array.toList_append]; simp [txt]
/-- What the program's Put comes to. -/
theorem value_put_is {k n : Int} {f : Nat} (hn : (Lit.int .i64 n).wf = true) (hf : f < 18446744073709551616) (s : ByteArray) (K : Nat) (hK : 50 ≤ K) :
    value_Put.f K k n (f : Int) s = some (txt (putV k n f s.data.toList).1, (putV k n f s.data.toList).2) := by
  obtain ⟨n0, n1⟩ := i64_bounds hn
  unfold value_Put.f putV
  rw [value_may_is k n hf s, Option.bind_some]
  by_cases hm : mayB k n f s.data.toList = true
  · rw [if_pos hm, if_pos hm]
    unfold encV
    by_cases h0 : k = 0
    · rw [if_pos h0, if_pos h0]; rfl
    rw [if_neg h0, if_neg h0]
    by_cases h1 : k = 1
    · rw [if_pos h1, if_pos h1]
      have hb : n = 0 ∨ n = 1 := by
        unfold mayB at hm
        rw [if_neg h0, if_pos h1] at hm
        simp at hm
        exact hm.1
      rcases hb with rfl | rfl <;> rfl
    rw [if_neg h1, if_neg h1]
    by_cases h2 : k = 2
    · rw [if_pos h2, if_pos h2, biased_is n0 n1, value_eight_is _ K (by omega)]
      simp only [Option.bind_some]
      rw [if_pos (by rw [bytesI_length]; show 1 + 8 < _; omega)]
      have : ([4] : List Int) ++ bytesI (be8 (biased n)) = bytesI (4 :: be8 (biased n)) := rfl
      rw [this, str_bytesI]; rfl
    rw [if_neg h2, if_neg h2]
    by_cases h3 : k = 3
    · rw [if_pos h3, if_pos h3, flo_order_is hf]
      simp only [Option.bind_some]
      rw [value_eight_is _ K (by omega)]
      simp only [Option.bind_some]
      rw [if_pos (by rw [bytesI_length]; show 1 + 8 < _; omega)]
      have : ([5] : List Int) ++ bytesI (be8 (ordr f)) = bytesI (5 :: be8 (ordr f)) := rfl
      rw [this, str_bytesI]; rfl
    rw [if_neg h3, if_neg h3]
    have hl : s.size ≤ 40 := by
      rw [size_data]
      unfold mayB at hm
      rw [if_neg h0, if_neg h1, if_neg h2, if_neg h3] at hm
      by_cases h4 : k = 4
      · rw [if_pos h4] at hm; simp at hm; simpa using hm.2.2
      · rw [if_neg h4] at hm
        by_cases h5 : k = 5
        · rw [if_pos h5] at hm; simp at hm; simpa using hm.2.2
        · rw [if_neg h5] at hm; cases hm
    by_cases h4 : k = 4
    · rw [if_pos h4, if_pos h4]
      have := value_escaped_is 6 s (by omega) K (by omega)
      have h6 : ((6 : UInt8).toNat : Int) = 6 := rfl
      rw [h6] at this
      rw [this, Option.bind_some, str_bytesI]; rfl
    · rw [if_neg h4, if_neg h4]
      have := value_escaped_is 7 s (by omega) K (by omega)
      have h6 : ((7 : UInt8).toNat : Int) = 7 := rfl
      rw [h6] at this
      rw [this, Option.bind_some, str_bytesI]; rfl
  · rw [if_neg hm, if_neg hm]; rfl
end Go.Proofs.Ytifhnkbhjmapeaa.PA
