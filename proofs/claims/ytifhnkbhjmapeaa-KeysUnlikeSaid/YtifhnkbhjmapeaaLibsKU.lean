/- What the functions of layer 1 come to on words of 64 bits: the one form, the place, the way back, the order. -/
import Derived.Test.YtifhnkbhjmapeaaKUx0
import Derived.Test.YtifhnkbhjmapeaaKUx2
import Derived.Test.YtifhnkbhjmapeaaKUx3
import Derived.Test.YtifhnkbhjmapeaaKUx4
import Derived.Test.YtifhnkbhjmapeaaKUx5
import Derived.Test.YtifhnkbhjmapeaaKUx6
import Derived.Test.YtifhnkbhjmapeaaKUx7
import Derived.Test.YtifhnkbhjmapeaaKUx8
import Derived.Test.YtifhnkbhjmapeaaPlains
namespace Go.Proofs.Ytifhnkbhjmapeaa.PA
open Go.RowKit Go.Proofs.YtifhnkbhjmapeaaW.PrintWords Go.Proofs.YtifhnkbhjmapeaaW.PrintLast Go.Proofs.Ytifhnkbhjmapeaa.Plain

theorem u64_nat {a : Int} (h : (Lit.int .u64 a).wf = true) : ∃ x : Nat, a = (x : Int) ∧ x < 18446744073709551616 := by
  have h1 : IntKind.u64.min ≤ a ∧ a ≤ IntKind.u64.max := by simpa [Lit.wf] using h
  have h2 : IntKind.u64.min = 0 := by decide
  have h3 : IntKind.u64.max = 18446744073709551615 := by decide
  rw [h2, h3] at h1
  exact ⟨a.toNat, by omega, by omega⟩
theorem flo_canon_is {x : Nat} (h : x < 18446744073709551616) : flo_Canon.f (x : Int) = some ((canon x : Nat) : Int) := by
  unfold flo_Canon.f fcmp canon
  rw [Int.toNat_natCast, show Int.toNat 0 = 0 from rfl, nan_test]
  by_cases h1 : 9218868437227405312 < x % 9223372036854775808
  · rw [if_pos (decide_eq_true h1), if_pos h1]; rfl
  · rw [if_neg (by simp [h1]), if_neg h1, zero_test x h1]
    by_cases h2 : x % 9223372036854775808 = 0
    · rw [if_pos (decide_eq_true h2)]
      by_cases h3 : x = 9223372036854775808
      · rw [if_pos h3]; rfl
      · rw [if_neg h3]
        have : x = 0 := by omega
        rw [this]; rfl
    · rw [if_neg (by simp [h2]), if_neg (by omega)]
theorem flo_order_is {x : Nat} (h : x < 18446744073709551616) : flo_Order.f (x : Int) = some ((ordr x : Nat) : Int) := by
  have hc := canon_lt h
  unfold flo_Order.f ordr
  rw [flo_canon_is h, Option.bind_some, and_top hc]
  by_cases h1 : canon x < 9223372036854775808
  · rw [if_pos h1, if_pos rfl, or_top hc, if_pos h1, if_pos h1]
    exact congrArg some (by omega)
  · rw [if_neg h1, if_neg (by decide), xor_all hc, if_neg h1]
    exact congrArg some (by omega)
/-- Which of two numbers is below. -/
def cmpN (a b : Nat) : Int := if a < b then -1 else if b < a then 1 else 0
end Go.Proofs.Ytifhnkbhjmapeaa.PA
/- Which values may be: what the program's and the document's functions come to. -/
namespace Go.Proofs.Ytifhnkbhjmapeaa.PA
open Go.RowKit Go.Proofs.YtifhnkbhjmapeaaW.PrintWords Go.Proofs.YtifhnkbhjmapeaaW.PrintLast Go.Proofs.Ytifhnkbhjmapeaa.Plain

theorem toList_data (s : ByteArray) : s.toList = s.data.toList := ByteArray.toList_eq s
theorem size_data (s : ByteArray) : s.size = s.data.toList.length := by rw [Array.length_toList]; rfl
theorem dec_beq (a b : Int) : (a == b) = decide (a = b) := by
  by_cases h : a = b
  · rw [h, decide_eq_true rfl]; simp
  · rw [decide_eq_false h]; simpa using h
theorem dec_cast (f : Nat) : decide ((f : Int) = 0) = decide (f = 0) := by
  by_cases h : f = 0
  · rw [h]; rfl
  · rw [decide_eq_false h, decide_eq_false (by omega)]
theorem isE (l : List UInt8) : (l == ([] : List UInt8)) = l.isEmpty := by cases l <;> rfl
theorem value_may_is (k n : Int) {f : Nat} (hf : f < 18446744073709551616) (s : ByteArray) : value_May.f k n (f : Int) s = some (mayB k n f s.data.toList) := by
  unfold value_May.f mayB
  rw [toList_data, size_data]
  by_cases h0 : k = 0
  · rw [if_pos h0, if_pos h0, dec_beq, dec_beq, dec_cast]
  rw [if_neg h0, if_neg h0]
  by_cases h1 : k = 1
  · rw [if_pos h1, if_pos h1, dec_beq, dec_cast]
    by_cases n0 : n = 0
    · rw [if_pos n0, n0]; rfl
    · rw [if_neg n0]
      by_cases n1 : n = 1
      · rw [if_pos n1, n1]; rfl
      · rw [if_neg n1, decide_eq_false n0, decide_eq_false n1]; rfl
  rw [if_neg h1, if_neg h1]
  by_cases h2 : k = 2
  · rw [if_pos h2, if_pos h2, dec_beq, dec_cast]
  rw [if_neg h2, if_neg h2]
  by_cases h3 : k = 3
  · rw [if_pos h3, if_pos h3, flo_canon_is hf, Option.bind_some, dec_beq]
    by_cases hc : canon f = f
    · rw [if_pos (by omega), decide_eq_true hc, Bool.true_and]
    · rw [if_neg (by omega), decide_eq_false hc, Bool.false_and, Bool.and_false]
  rw [if_neg h3, if_neg h3]
  have key : (if ((s.data.toList.length : Nat) : Int) > 40 then some false else some (n == 0 && (f : Int) == 0)) = some (decide (n = 0) && (decide (f = 0) && decide (s.data.toList.length ≤ 40))) := by
    rw [dec_beq, dec_beq, dec_cast]
    by_cases hl : s.data.toList.length ≤ 40
    · rw [if_neg (by omega), decide_eq_true hl, Bool.and_true]
    · rw [if_pos (by omega), decide_eq_false hl, Bool.and_false, Bool.and_false]
  by_cases h4 : k = 4
  · rw [if_pos h4, if_pos h4, key]
  rw [if_neg h4, if_neg h4]
  by_cases h5 : k = 5
  · rw [if_pos h5, if_pos h5, key]
  rw [if_neg h5, if_neg h5]
end Go.Proofs.Ytifhnkbhjmapeaa.PA
/- The bytes of values: what the program's and the document's functions come to. -/
namespace Go.Proofs.Ytifhnkbhjmapeaa.PA
open Go.RowKit Go.Proofs.YtifhnkbhjmapeaaW.PrintWords Go.Proofs.YtifhnkbhjmapeaaW.PrintLast Go.Proofs.Ytifhnkbhjmapeaa.Plain

/-- Bytes as whole numbers. -/
def bytesI (l : List UInt8) : List Int := l.map fun b => (b.toNat : Int)
theorem str_bytesI (l : List UInt8) : strOfNums (bytesI l) = ⟨l.toArray⟩ := by
  unfold strOfNums bytesI
  rw [List.map_map]
  congr 2
  conv => rhs; rw [← List.map_id l]
  apply List.map_congr_left
  intro b _
  show UInt8.ofNat ((b.toNat : Int)).toNat = b
  rw [Int.toNat_natCast, UInt8.ofNat_toNat]
theorem bytesI_append (a b : List UInt8) : bytesI (a ++ b) = bytesI a ++ bytesI b := by unfold bytesI; rw [List.map_append]
theorem bytesI_length (a : List UInt8) : (bytesI a).length = a.length := by unfold bytesI; rw [List.length_map]
theorem byteI (d u : Nat) : ((UInt8.ofNat (u / d % 256)).toNat : Int) = (u : Int) / (d : Int) % 256 := by
  rw [UInt8.toNat_ofNat', ← Int.natCast_ediv]
  generalize u / d = q
  omega
theorem bytesI_be8 (u : Nat) : bytesI (be8 u) = [(u : Int) / 72057594037927936 % 256, (u : Int) / 281474976710656 % 256, (u : Int) / 1099511627776 % 256, (u : Int) / 4294967296 % 256, (u : Int) / 16777216 % 256, (u : Int) / 65536 % 256, (u : Int) / 256 % 256, (u : Int) % 256] := by
  unfold bytesI be8
  simp only [List.map_cons, List.map_nil]
  have e := fun d => byteI d u
  have e8 : ((UInt8.ofNat (u % 256)).toNat : Int) = (u : Int) % 256 := by
    have := byteI 1 u
    rw [Nat.div_one] at this
    rw [this]; simp
  rw [e, e, e, e, e, e, e, e8]; rfl
theorem shr8 (u : Nat) (j : Nat) (hj : j ≤ 64) : shr .u64 (u : Int) (j : Int) = (u : Int) / ((2 ^ j : Nat) : Int) := by
  unfold shr
  rw [Int.toNat_natCast]
  simp only [IntKind.bits]
  rw [Nat.min_eq_left hj]
  simp
theorem value_eight_is (u : Nat) (k : Nat) (hk : 9 ≤ k) : value_eight.f k (u : Int) = some (bytesI (be8 u)) := by
  obtain ⟨k, rfl⟩ : ∃ m, k = m + 9 := ⟨k - 9, by omega⟩
  unfold value_eight.f
  rw [if_pos (by decide), Option.bind_some, bytesI_be8]
  have hs : ∀ i : Nat, i ≤ 7 → wrap64 (8 * wrap64 (7 - (i : Int))) = ((8 * (7 - i) : Nat) : Int) := fun i hi => by unfold wrap64; omega
  have step : ∀ (i m : Nat) (l : List Int), i ≤ 7 → l.length = 8 → value_eight.l0 (m + 1) (u : Int) l 8 (i : Int) = value_eight.l0 m (u : Int) (l.set i ((u : Int) / ((2 ^ (8 * (7 - i)) : Nat) : Int) % 256)) 8 ((i + 1 : Nat) : Int) := by
    intro i m l hi hl
    simp only [value_eight.l0]
    rw [if_pos (by omega), hs i hi, if_pos (by omega), if_pos (by omega), if_pos (by omega), shr8 u _ (by omega), Int.toNat_natCast]
    congr 1
    unfold wrap64; omega
  have hr : (List.replicate 8 (0 : Int)) = [0, 0, 0, 0, 0, 0, 0, 0] := rfl
  rw [hr]
  show value_eight.l0 (k + 9) (u : Int) [0, 0, 0, 0, 0, 0, 0, 0] 8 ((0 : Nat) : Int) = _
  rw [step 0 (k + 8) _ (by decide) rfl, step 1 (k + 7) _ (by decide) rfl, step 2 (k + 6) _ (by decide) rfl, step 3 (k + 5) _ (by decide) rfl, step 4 (k + 4) _ (by decide) rfl, step 5 (k + 3) _ (by decide) rfl, step 6 (k + 2) _ (by decide) rfl, step 7 (k + 1) _ (by decide) rfl]
  simp only [value_eight.l0]
  rw [if_neg (by omega)]
  simp [List.set]
theorem bt_data (s : ByteArray) (i : Nat) (h : i < s.size) : ∃ b : UInt8, bt s (i : Int) = ((b.toNat : Nat) : Int) ∧ s.data.toList.drop i = b :: s.data.toList.drop (i + 1) := by
  refine ⟨s[i], ?_, ?_⟩
  · unfold bt; simp [h]
  · rw [List.drop_eq_getElem_cons (by simpa using h)]; rfl
theorem byte_zero (b : UInt8) : ((b.toNat : Nat) : Int) = 0 ↔ b = 0 := by
  constructor
  · intro h; exact UInt8.toNat_inj.1 (by simpa using h)
  · rintro rfl; rfl
theorem esc_from (s : ByteArray) (hs : s.size ≤ 1000000) (d : Nat) : ∀ (k i : Nat) (acc : List UInt8), i + d = s.size → d < k → acc.length ≤ 10 + 2 * i →
    value_escaped.l0 k s (bytesI acc) (s.size : Int) (i : Int) = some (bytesI (acc ++ (esc (s.data.toList.drop i) ++ [0, 1]))) := by
  induction d with
  | zero =>
    intro k i acc hi hk hl
    obtain ⟨k, rfl⟩ : ∃ m, k = m + 1 := ⟨k - 1, by omega⟩
    simp only [value_escaped.l0, Option.bind_some]
    rw [if_neg (by omega), if_pos (by rw [bytesI_length]; show acc.length + 2 < _; omega), List.drop_eq_nil_of_le (by rw [← size_data]; omega)]
    rw [bytesI_append]; rfl
  | succ d ih =>
    intro k i acc hi hk hl
    obtain ⟨k, rfl⟩ : ∃ m, k = m + 1 := ⟨k - 1, by omega⟩
    obtain ⟨b, hb, hd⟩ := bt_data s i (by omega)
    have hw : wrap64 ((i : Int) + 1) = ((i + 1 : Nat) : Int) := by unfold wrap64; omega
    simp only [value_escaped.l0, Option.bind_some]
    rw [if_pos (by omega), if_pos (by omega), if_pos (by omega), if_pos (by rw [bytesI_length]; omega), hb, hw, hd]
    have e1 : bytesI acc ++ [((b.toNat : Nat) : Int)] = bytesI (acc ++ [b]) := by rw [bytesI_append]; rfl
    rw [e1]
    simp only [esc]
    by_cases h0 : b = 0
    · rw [if_pos ((byte_zero b).2 h0), if_pos (by rw [bytesI_length, List.length_append]; show acc.length + 1 < _; omega), if_pos h0]
      have e2 : bytesI (acc ++ [b]) ++ [255] = bytesI (acc ++ [b] ++ [255]) := by rw [bytesI_append (acc ++ [b])]; rfl
      rw [e2, ih k (i + 1) _ (by omega) (by omega) (by simp; omega), h0]
      simp
    · rw [if_neg (fun h => h0 ((byte_zero b).1 h)), if_neg h0, ih k (i + 1) _ (by omega) (by omega) (by simp; omega)]
      simp
theorem value_escaped_is (c : UInt8) (s : ByteArray) (hs : s.size ≤ 1000000) (k : Nat) (hk : s.size < k) : value_escaped.f k (c.toNat : Int) s = some (bytesI (c :: (esc s.data.toList ++ [0, 1]))) := by
  unfold value_escaped.f
  have := esc_from s hs s.size k 0 [c] (by omega) hk (by show 1 ≤ _; omega)
  rw [List.drop_zero] at this
  exact this
theorem biased_is {n : Int} (h0 : -9223372036854775808 ≤ n) (h1 : n ≤ 9223372036854775807) : Go.bits .xor .u64 (IntKind.u64.wrap n) 9223372036854775808 = ((biased n : Nat) : Int) := by
  rw [wrap_u64]
  obtain ⟨x, hx, hl⟩ : ∃ x : Nat, n % 18446744073709551616 = (x : Int) ∧ x < 18446744073709551616 := ⟨(n % 18446744073709551616).toNat, by omega, by omega⟩
  rw [hx, xor_top hl]
  unfold biased
  split <;> omega
theorem i64_bounds {n : Int} (h : (Lit.int .i64 n).wf = true) : -9223372036854775808 ≤ n ∧ n ≤ 9223372036854775807 := by
  have h1 : IntKind.i64.min ≤ n ∧ n ≤ IntKind.i64.max := by simpa [Lit.wf] using h
  have h2 : IntKind.i64.min = -9223372036854775808 := by decide
  have h3 : IntKind.i64.max = 9223372036854775807 := by decide
  rw [h2, h3] at h1
  exact h1
/-- A list of bytes as a text. -/
def txt (l : List UInt8) : ByteArray := ⟨l.toArray⟩
theorem txt_data (l : List UInt8) : (txt l).data.toList = l := by unfold txt; simp
theorem txt_of (s : ByteArray) : txt s.data.toList = s := by unfold txt; apply ByteArray.ext; simp
theorem txt_size (l : List UInt8) : (txt l).size = l.length := by rw [size_data, txt_data]
theorem txt_append (a b : List UInt8) : txt a ++ txt b = txt (a ++ b) := by
  apply ByteArray.ext; rw [ByteArray.data_append, ← Array.toList_inj, Array.toList_append]; simp [txt]
/-- What the program's Put comes to. -/
theorem value_put_is {k n : Int} {f : Nat} (hn : (Lit.int .i64 n).wf = true) (hf : f < 18446744073709551616) (s : ByteArray) (K : Nat) (hK : 50 ≤ K) :
    value_Put.f K k n (f : Int) s = some (txt (putV k n f s.data.toList).1, (putV k n f s.data.toList).2) := by
  obtain ⟨n0, n1⟩ := i64_bounds hn
  unfold value_Put.f putV
  rw [value_may_is k n hf s, Option.bind_some]
  by_cases hm : mayB k n f s.data.toList = true
  · rw [if_pos hm, if_pos hm]
    unfold encV
    by_cases h0 : k = 0
    · rw [if_pos h0, if_pos h0]; rfl
    rw [if_neg h0, if_neg h0]
    by_cases h1 : k = 1
    · rw [if_pos h1, if_pos h1]
      have hb : n = 0 ∨ n = 1 := by
        unfold mayB at hm
        rw [if_neg h0, if_pos h1] at hm
        simp at hm
        exact hm.1
      rcases hb with rfl | rfl <;> rfl
    rw [if_neg h1, if_neg h1]
    by_cases h2 : k = 2
    · rw [if_pos h2, if_pos h2, biased_is n0 n1, value_eight_is _ K (by omega)]
      simp only [Option.bind_some]
      rw [if_pos (by rw [bytesI_length]; show 1 + 8 < _; omega)]
      have : ([4] : List Int) ++ bytesI (be8 (biased n)) = bytesI (4 :: be8 (biased n)) := rfl
      rw [this, str_bytesI]; rfl
    rw [if_neg h2, if_neg h2]
    by_cases h3 : k = 3
    · rw [if_pos h3, if_pos h3, flo_order_is hf]
      simp only [Option.bind_some]
      rw [value_eight_is _ K (by omega)]
      simp only [Option.bind_some]
      rw [if_pos (by rw [bytesI_length]; show 1 + 8 < _; omega)]
      have : ([5] : List Int) ++ bytesI (be8 (ordr f)) = bytesI (5 :: be8 (ordr f)) := rfl
      rw [this, str_bytesI]; rfl
    rw [if_neg h3, if_neg h3]
    have hl : s.size ≤ 40 := by
      rw [size_data]
      unfold mayB at hm
      rw [if_neg h0, if_neg h1, if_neg h2, if_neg h3] at hm
      by_cases h4 : k = 4
      · rw [if_pos h4] at hm; simp at hm; simpa using hm.2.2
      · rw [if_neg h4] at hm
        by_cases h5 : k = 5
        · rw [if_pos h5] at hm; simp at hm; simpa using hm.2.2
        · rw [if_neg h5] at hm; cases hm
    by_cases h4 : k = 4
    · rw [if_pos h4, if_pos h4]
      have := value_escaped_is 6 s (by omega) K (by omega)
      have h6 : ((6 : UInt8).toNat : Int) = 6 := rfl
      rw [h6] at this
      rw [this, Option.bind_some, str_bytesI]; rfl
    · rw [if_neg h4, if_neg h4]
      have := value_escaped_is 7 s (by omega) K (by omega)
      have h6 : ((7 : UInt8).toNat : Int) = 7 := rfl
      rw [h6] at this
      rw [this, Option.bind_some, str_bytesI]; rfl
  · rw [if_neg hm, if_neg hm]; rfl
end Go.Proofs.Ytifhnkbhjmapeaa.PA
/- The document's bytes of values; the document's examples. -/
namespace Go.Proofs.Ytifhnkbhjmapeaa.PA
open Go.RowKit Go.Proofs.YtifhnkbhjmapeaaW.PrintWords Go.Proofs.YtifhnkbhjmapeaaW.PrintLast Go.Proofs.Ytifhnkbhjmapeaa.Plain

end Go.Proofs.Ytifhnkbhjmapeaa.PA
/- Of two values which is below: what the program's and the document's functions come to. -/
namespace Go.Proofs.Ytifhnkbhjmapeaa.PA
open Go.RowKit Go.Proofs.YtifhnkbhjmapeaaW.PrintWords Go.Proofs.YtifhnkbhjmapeaaW.PrintLast Go.Proofs.Ytifhnkbhjmapeaa.Plain

/-- -1, 0, 1 of two values; 0, if one may not be. -/
def cmpV (k n : Int) (f : Nat) (s : List UInt8) (k' n' : Int) (f' : Nat) (s' : List UInt8) : Int :=
  if mayB k n f s = true then if mayB k' n' f' s' = true then cmpL (encV k n f s) (encV k' n' f' s') else 0 else 0
theorem cmpV_turn (k n : Int) (f : Nat) (s : List UInt8) (k' n' : Int) (f' : Nat) (s' : List UInt8) : cmpV k' n' f' s' k n f s = -cmpV k n f s k' n' f' s' := by
  unfold cmpV
  by_cases h : mayB k n f s = true <;> by_cases h' : mayB k' n' f' s' = true <;> simp [h, h', cmpL_turn (encV k n f s)]
theorem cmpL_bounds (a b : List UInt8) : -1 ≤ cmpL a b ∧ cmpL a b ≤ 1 := by unfold cmpL; split <;> (try split) <;> omega
theorem cmpV_bounds (k n : Int) (f : Nat) (s : List UInt8) (k' n' : Int) (f' : Nat) (s' : List UInt8) : -1 ≤ cmpV k n f s k' n' f' s' ∧ cmpV k n f s k' n' f' s' ≤ 1 := by
  unfold cmpV
  have := cmpL_bounds (encV k n f s) (encV k' n' f' s')
  split <;> (try split) <;> omega
end Go.Proofs.Ytifhnkbhjmapeaa.PA
/- Values read from bytes: what the program's and the document's functions come to. -/
namespace Go.Proofs.Ytifhnkbhjmapeaa.PA
open Go.RowKit Go.Proofs.YtifhnkbhjmapeaaW.PrintWords Go.Proofs.YtifhnkbhjmapeaaW.PrintLast Go.Proofs.Ytifhnkbhjmapeaa.Plain

theorem extract_tail (s : ByteArray) : (s.extract 1 s.size).data.toList = s.data.toList.drop 1 := by
  rw [ByteArray.data_extract, Array.toList_extract]
  simp only [List.extract]
  exact List.take_of_length_le (by rw [List.length_drop, ← size_data]; exact Nat.le_refl _)
theorem tail_size (s : ByteArray) : (s.extract 1 s.size).size = s.size - 1 := by
  rw [size_data, extract_tail, List.length_drop, ← size_data]
theorem byte_is (c d : UInt8) : ((c.toNat : Nat) : Int) = ((d.toNat : Nat) : Int) ↔ c = d := by
  constructor
  · intro h; exact UInt8.toNat_inj.1 (by omega)
  · rintro rfl; rfl
theorem byte_1 (c : UInt8) : ((c.toNat : Nat) : Int) = 1 ↔ c = 1 := byte_is c 1
theorem byte_2 (c : UInt8) : ((c.toNat : Nat) : Int) = 2 ↔ c = 2 := byte_is c 2
theorem byte_3 (c : UInt8) : ((c.toNat : Nat) : Int) = 3 ↔ c = 3 := byte_is c 3
theorem byte_4 (c : UInt8) : ((c.toNat : Nat) : Int) = 4 ↔ c = 4 := byte_is c 4
theorem byte_5 (c : UInt8) : ((c.toNat : Nat) : Int) = 5 ↔ c = 5 := byte_is c 5
theorem byte_6 (c : UInt8) : ((c.toNat : Nat) : Int) = 6 ↔ c = 6 := byte_is c 6
theorem byte_7 (c : UInt8) : ((c.toNat : Nat) : Int) = 7 ↔ c = 7 := byte_is c 7
theorem byte_255 (c : UInt8) : ((c.toNat : Nat) : Int) = 255 ↔ c = 255 := byte_is c 255
theorem bytesI_snoc (a : List UInt8) (b : UInt8) : bytesI a ++ [((b.toNat : Nat) : Int)] = bytesI (a ++ [b]) := by rw [bytesI_append]; rfl
theorem or_byte (x : Nat) (hx : x < 72057594037927936) (b : UInt8) : Go.bits .or .u64 (IntKind.u64.wrap ((x : Int) * 256)) (IntKind.u64.wrap ((b.toNat : Nat) : Int)) = ((x * 256 + b.toNat : Nat) : Int) := by
  have hb := b.toNat_lt
  rw [wrap_u64, wrap_u64, show ((x : Int) * 256) % 18446744073709551616 = ((x * 256 : Nat) : Int) by omega, show ((b.toNat : Nat) : Int) % 18446744073709551616 = ((b.toNat : Nat) : Int) by omega]
  rw [or_u64 (a := x * 256) (b := b.toNat) (by omega) (by omega)]
  have h : 256 * x + b.toNat = 256 * x ||| b.toNat := Nat.two_pow_add_eq_or_of_lt (i := 8) hb x
  rw [Nat.mul_comm x 256, ← h]
/-- What plain tells. -/
def plainA (acc : List UInt8) (i : Nat) : Option (List UInt8 × Nat) → ByteArray × Int
  | none => (⟨#[]⟩, -1)
  | some q => (txt (acc ++ q.1), ((i + q.2 : Nat) : Int))
/-- What text tells. -/
def textA (acc : List UInt8) (i : Nat) : Option (List UInt8 × Nat) → ByteArray × Int × Bool
  | none => (⟨#[]⟩, 0, false)
  | some q => (txt (acc ++ q.1), ((i + q.2 : Nat) : Int), true)
theorem plainA_step (acc : List UInt8) (i j : Nat) (a : UInt8) (o : Option (List UInt8 × Nat)) : plainA acc i (o.map fun q => (a :: q.1, q.2 + j)) = plainA (acc ++ [a]) (i + j) o := by
  cases o with
  | none => rfl
  | some q => simp [plainA]; omega
theorem textA_step (acc : List UInt8) (i j : Nat) (a : UInt8) (o : Option (List UInt8 × Nat)) : textA acc i (o.map fun q => (a :: q.1, q.2 + j)) = textA (acc ++ [a]) (i + j) o := by
  cases o with
  | none => rfl
  | some q => simp [textA]; omega
/-- What Get tells. -/
def getA : Option (V × Nat) → Int × Int × Int × ByteArray × Int × Int
  | none => (0, 0, 0, ⟨#[]⟩, 0, 3)
  | some q => (q.1.k, q.1.n, ((q.1.f : Nat) : Int), txt q.1.s, ((q.2 : Nat) : Int), 0)
theorem head_data (s : ByteArray) (c : UInt8) (r : List UInt8) (h : s.data.toList = c :: r) : bt s 0 = ((c.toNat : Nat) : Int) ∧ s.size = r.length + 1 ∧ (s.extract 1 s.size).data.toList = r := by
  have hz : s.size = r.length + 1 := by rw [size_data, h]; rfl
  obtain ⟨b, hb, hd⟩ := bt_data s 0 (by omega)
  rw [List.drop_zero, h] at hd
  obtain ⟨rfl, _⟩ := List.cons.inj hd
  refine ⟨hb, hz, ?_⟩
  rw [extract_tail, h]; rfl
theorem xor_word {u : Nat} (h : u < 18446744073709551616) : wrap64 (Go.bits .xor .u64 (u : Int) 9223372036854775808) = (u : Int) - 9223372036854775808 := by
  rw [xor_top h]; unfold wrap64; split <;> omega
end Go.Proofs.Ytifhnkbhjmapeaa.PA
/- What is behind a text: what the program's function comes to. -/
namespace Go.Proofs.Ytifhnkbhjmapeaa.PA
open Go.RowKit Go.Proofs.YtifhnkbhjmapeaaW.PrintWords Go.Proofs.YtifhnkbhjmapeaaW.PrintLast Go.Proofs.Ytifhnkbhjmapeaa.Plain

def afterA : Option (List UInt8) → ByteArray × Bool
  | none => (⟨#[]⟩, false)
  | some h => (txt h, true)
theorem take_snoc (s : ByteArray) (n : Nat) (h : n < s.size) : ∃ b : UInt8, bt s (n : Int) = ((b.toNat : Nat) : Int) ∧ s.data.toList.take (n + 1) = s.data.toList.take n ++ [b] := by
  obtain ⟨b, hb, hd⟩ := bt_data s n h
  refine ⟨b, hb, ?_⟩
  have h1 := List.take_append_drop n s.data.toList
  have hl : (s.data.toList.take n).length = n := by rw [List.length_take, ← size_data]; omega
  rw [hd] at h1
  have h2 : s.data.toList.take (n + 1) = (s.data.toList.take n ++ b :: s.data.toList.drop (n + 1)).take (n + 1) := by rw [h1]
  rw [h2, List.take_append, hl, show n + 1 - n = 1 by omega, List.take_of_length_le (by omega)]; rfl
theorem extract_head (s : ByteArray) (n : Nat) : s.extract 0 n = txt (s.data.toList.take n) := by
  apply ByteArray.ext
  rw [← Array.toList_inj, ByteArray.data_extract, Array.toList_extract]
  simp [List.extract, txt]
theorem byte_succ (b : UInt8) : strOfNums [(((b.toNat : Nat) : Int) + 1) % 256] = txt [b + 1] := by
  have hb := b.toNat_lt
  have h : (((b.toNat : Nat) : Int) + 1) % 256 = (((b + 1).toNat : Nat) : Int) := by
    rw [UInt8.toNat_add]
    show _ = (((b.toNat + 1) % 256 : Nat) : Int)
    omega
  rw [h]
  exact str_bytesI [b + 1]
end Go.Proofs.Ytifhnkbhjmapeaa.PA
/- The bytes of several values: what the program's and the document's functions come to. -/
namespace Go.Proofs.Ytifhnkbhjmapeaa.PA
open Go.RowKit Go.Proofs.YtifhnkbhjmapeaaW.PrintWords Go.Proofs.YtifhnkbhjmapeaaW.PrintLast Go.Proofs.Ytifhnkbhjmapeaa.Plain

abbrev Vc := S24
/-- What a value in memory is like. -/
def Vc.Good (x : Vc) : Prop := (Lit.int .i64 x.f0).wf = true ∧ (Lit.int .i64 x.f1).wf = true ∧ (Lit.int .u64 x.f2).wf = true ∧ x.f3.size ≤ maxLen
/-- The bytes of one, or an error's number. -/
def Vc.put (x : Vc) : List UInt8 × Int := putV x.f0 x.f1 x.f2.toNat x.f3.data.toList
theorem Vc.float {x : Vc} (g : x.Good) : x.f2 = ((x.f2.toNat : Nat) : Int) ∧ x.f2.toNat < 18446744073709551616 := by
  obtain ⟨y, hy, hl⟩ := u64_nat g.2.2.1
  rw [hy, Int.toNat_natCast]; exact ⟨rfl, hl⟩
theorem Vc.ok {x : Vc} (g : x.Good) (h : x.put.2 = 0) : ∃ v : V, v.Ok ∧ x.f0 = v.k ∧ x.f1 = v.n ∧ x.f2 = ((v.f : Nat) : Int) ∧ x.f3.data.toList = v.s ∧ x.put.1 = v.enc := by
  unfold Vc.put putV at h ⊢
  by_cases hm : mayB x.f0 x.f1 x.f2.toNat x.f3.data.toList = true
  · obtain ⟨v, hv, e1, e2, e3, e4⟩ := view hm (i64_bounds g.2.1) (Vc.float g).2
    rw [if_pos hm]
    refine ⟨v, hv, e1, e2, ?_, e4, ?_⟩
    · rw [← e3]; exact (Vc.float g).1
    · rw [e1, e2, e3, e4]; exact V.enc_is v
  · rw [if_neg hm] at h; cases h
theorem Vc.put_length {x : Vc} (g : x.Good) : x.put.1.length ≤ 83 := by
  by_cases h : x.put.2 = 0
  · obtain ⟨v, hv, _, _, _, _, e⟩ := Vc.ok g h
    rw [e]; exact V.enc_length v hv
  · unfold Vc.put putV at h ⊢
    by_cases hm : mayB x.f0 x.f1 x.f2.toNat x.f3.data.toList = true
    · rw [if_pos hm] at h; exact absurd rfl h
    · rw [if_neg hm]; decide
theorem vc_put_is {x : Vc} (g : x.Good) (K : Nat) (hK : 50 ≤ K) : value_Put.f K x.f0 x.f1 x.f2 x.f3 = some (txt x.put.1, x.put.2) := by
  have := value_put_is (k := x.f0) g.2.1 (Vc.float g).2 x.f3 K hK
  rw [← (Vc.float g).1] at this
  exact this
/-- The bytes of several. -/
def putT : List Vc → List UInt8 × Int
  | [] => ([], 0)
  | x :: r => if x.put.2 = 0 then (if (putT r).2 = 0 then (x.put.1 ++ (putT r).1, 0) else ([], (putT r).2)) else ([], x.put.2)
def ansT (acc : List UInt8) (q : List UInt8 × Int) : ByteArray × Int := if q.2 = 0 then (txt (acc ++ q.1), 0) else (⟨#[]⟩, q.2)
theorem putT_eq (x : Vc) (r : List Vc) : putT (x :: r) = if x.put.2 = 0 then (if (putT r).2 = 0 then (x.put.1 ++ (putT r).1, 0) else ([], (putT r).2)) else ([], x.put.2) := rfl
theorem ansT_cons (acc : List UInt8) (x : Vc) (r : List Vc) : ansT acc (putT (x :: r)) = if x.put.2 = 0 then ansT (acc ++ x.put.1) (putT r) else (⟨#[]⟩, x.put.2) := by
  by_cases h : x.put.2 = 0
  · by_cases h2 : (putT r).2 = 0
    · have e : putT (x :: r) = (x.put.1 ++ (putT r).1, 0) := by rw [putT_eq, if_pos h, if_pos h2]
      rw [e, if_pos h]
      unfold ansT
      rw [if_pos rfl, if_pos h2, List.append_assoc]
    · have e : putT (x :: r) = ([], (putT r).2) := by rw [putT_eq, if_pos h, if_neg h2]
      rw [e, if_pos h]
      unfold ansT
      rw [if_neg h2, if_neg h2]
  · have e : putT (x :: r) = ([], x.put.2) := by rw [putT_eq, if_neg h]
    rw [e, if_neg h]
    unfold ansT
    rw [if_neg h]
theorem rd_at (l : List Vc) (i : Nat) (h : i < l.length) : ∃ x : Vc, rd_T24 l (i : Int) = x ∧ x ∈ l ∧ l.drop i = x :: l.drop (i + 1) := by
  refine ⟨l[i], ?_, List.getElem_mem h, List.drop_eq_getElem_cons h⟩
  unfold rd_T24
  rw [Int.toNat_natCast]
  simp [h]
theorem tuple_put_from (l : List Vc) (g : ∀ x ∈ l, x.Good) (hl : l.length ≤ 16) (d : Nat) : ∀ (k i : Nat) (acc : List UInt8), i + d = l.length → d + 50 ≤ k → acc.length ≤ 83 * i →
    tuple_Put.l0 k (txt acc) l (l.length : Int) (i : Int) = some (ansT acc (putT (l.drop i))) := by
  induction d with
  | zero =>
    intro k i acc hi hk ha
    obtain ⟨k, rfl⟩ : ∃ m, k = m + 1 := ⟨k - 1, by omega⟩
    simp only [tuple_Put.l0]
    rw [if_neg (by omega), List.drop_eq_nil_of_le (by omega)]
    simp [ansT, putT]
  | succ d ih =>
    intro k i acc hi hk ha
    obtain ⟨k, rfl⟩ : ∃ m, k = m + 1 := ⟨k - 1, by omega⟩
    obtain ⟨x, hx, hm, hd⟩ := rd_at l i (by omega)
    have hxl := Vc.put_length (g x hm)
    simp only [tuple_Put.l0]
    rw [if_pos (by omega), if_pos (by omega), if_pos (by omega), hx, vc_put_is (g x hm) k (by omega), Option.bind_some, hd, ansT_cons]
    dsimp only
    by_cases h : x.put.2 = 0
    · rw [if_pos h, if_pos h, if_pos (by rw [txt_size, txt_size]; omega), txt_append, show wrap64 ((i : Int) + 1) = ((i + 1 : Nat) : Int) by unfold wrap64; omega]
      exact ih k (i + 1) _ (by omega) (by omega) (by rw [List.length_append]; omega)
    · rw [if_neg h, if_neg h]
/-- The bytes of several values, or an error's number. -/
def putsT (l : List Vc) : ByteArray × Int := if l.length ≤ 16 then ansT [] (putT l) else (⟨#[]⟩, 2)
theorem tuple_put_is (l : List Vc) (g : ∀ x ∈ l, x.Good) (k : Nat) (hk : 70 ≤ k) : tuple_Put.f k l = some (putsT l) := by
  unfold tuple_Put.f putsT
  by_cases h : l.length ≤ 16
  · rw [if_neg (by omega), if_pos h]
    have := tuple_put_from l g h l.length k 0 [] (by omega) (by omega) (by decide)
    rw [List.drop_zero] at this
    exact this
  · rw [if_pos (by omega), if_neg h]
end Go.Proofs.Ytifhnkbhjmapeaa.PA
/- Values in memory: the bytes of several, cut at a place; which of two is below. -/
namespace Go.Proofs.Ytifhnkbhjmapeaa.PA
open Go.RowKit Go.Proofs.YtifhnkbhjmapeaaW.PrintWords Go.Proofs.YtifhnkbhjmapeaaW.PrintLast Go.Proofs.Ytifhnkbhjmapeaa.Plain

theorem beq_of {p q : Bool} (h : p = true ↔ q = true) : (p == q) = true := by cases p <;> cases q <;> simp_all
theorem putT_cons {x : Vc} {r : List Vc} (h : (putT (x :: r)).2 = 0) : x.put.2 = 0 ∧ (putT r).2 = 0 ∧ (putT (x :: r)).1 = x.put.1 ++ (putT r).1 := by
  simp only [putT] at h ⊢
  by_cases h1 : x.put.2 = 0
  · rw [if_pos h1] at h
    by_cases h2 : (putT r).2 = 0
    · exact ⟨h1, h2, by rw [if_pos h1, if_pos h2]⟩
    · rw [if_neg h2] at h; exact absurd h h2
  · rw [if_neg h1] at h; exact absurd h h1
theorem putT_cut : ∀ (l : List Vc) (m : Nat), (putT l).2 = 0 → (putT (l.take m)).2 = 0 ∧ (putT (l.drop m)).2 = 0 ∧ (putT l).1 = (putT (l.take m)).1 ++ (putT (l.drop m)).1
  | [], m, _ => by simp [putT]
  | x :: r, 0, h => by rw [List.take_zero, List.drop_zero]; exact ⟨rfl, h, rfl⟩
  | x :: r, m + 1, h => by
    obtain ⟨h1, h2, h3⟩ := putT_cons h
    obtain ⟨i1, i2, i3⟩ := putT_cut r m h2
    rw [List.take_succ_cons, List.drop_succ_cons, h3, i3, putT_eq x (r.take m), if_pos h1, if_pos i1]
    exact ⟨rfl, i2, by rw [List.append_assoc]⟩
/-- -1, 0, 1 of two. -/
def vcmp (x y : Vc) : Int := cmpV x.f0 x.f1 x.f2.toNat x.f3.data.toList y.f0 y.f1 y.f2.toNat y.f3.data.toList
theorem vc_cmp {x y : Vc} (hx : x.put.2 = 0) (hy : y.put.2 = 0) : vcmp x y = cmpL x.put.1 y.put.1 := by
  unfold Vc.put putV at hx hy ⊢
  unfold vcmp cmpV
  by_cases h1 : mayB x.f0 x.f1 x.f2.toNat x.f3.data.toList = true
  · by_cases h2 : mayB y.f0 y.f1 y.f2.toNat y.f3.data.toList = true
    · rw [if_pos h1, if_pos h2, if_pos h1, if_pos h2]
    · rw [if_neg h2] at hy; cases hy
  · rw [if_neg h1] at hx; cases hx
theorem less_vc {x y : Vc} (gx : x.Good) (gy : y.Good) (hx : x.put.2 = 0) (hy : y.put.2 = 0) (p q : List UInt8) : less (x.put.1 ++ p) (y.put.1 ++ q) = if x.put.1 = y.put.1 then less p q else less x.put.1 y.put.1 := by
  obtain ⟨v, hv, _, _, _, _, ev⟩ := Vc.ok gx hx
  obtain ⟨u, hu, _, _, _, _, eu⟩ := Vc.ok gy hy
  rw [ev, eu, V.less_app]
/-- Values are the same where their bytes are. -/
theorem vc_put_eq {x y : Vc} (gx : x.Good) (gy : y.Good) (hx : x.put.2 = 0) (hy : y.put.2 = 0) : x.put.1 = y.put.1 ↔ (x.f0 = y.f0 ∧ x.f1 = y.f1 ∧ x.f2 = y.f2 ∧ x.f3.data.toList = y.f3.data.toList) := by
  obtain ⟨v, hv, a1, a2, a3, a4, ev⟩ := Vc.ok gx hx
  obtain ⟨u, hu, b1, b2, b3, b4, eu⟩ := Vc.ok gy hy
  rw [ev, eu, V.enc_eq hv hu, a1, a2, a3, a4, b1, b2, b3, b4]
  constructor
  · rintro rfl; exact ⟨rfl, rfl, rfl, rfl⟩
  · rintro ⟨h1, h2, h3, h4⟩; exact V.fields_inj h1 h2 (by omega) h4
end Go.Proofs.Ytifhnkbhjmapeaa.PA
/- Where things stand: what the program's and the document's functions come to, in plain lists of bytes. -/
namespace Go.Proofs.Ytifhnkbhjmapeaa.PA
open Go.RowKit Go.Proofs.YtifhnkbhjmapeaaW.PrintWords Go.Proofs.YtifhnkbhjmapeaaW.PrintLast Go.Proofs.Ytifhnkbhjmapeaa.Plain

def vnum (n : Int) : Vc := ⟨2, n, 0, ⟨#[]⟩⟩
/-- A number's bytes. -/
def vn (n : Int) : List UInt8 := 4 :: be8 (biased n)
theorem vn_length (n : Int) : (vn n).length = 9 := rfl
theorem vnum_good {n : Int} (h : (Lit.int .i64 n).wf = true) : (vnum n).Good := ⟨by show (Lit.int .i64 2).wf = true; decide, h, by show (Lit.int .u64 0).wf = true; decide, by show 0 ≤ maxLen; unfold maxLen; omega⟩
theorem vnum_put (n : Int) : (vnum n).put = (vn n, 0) := rfl
theorem putT_length (l : List Vc) (g : ∀ x ∈ l, x.Good) : (putT l).1.length ≤ 83 * l.length := by
  induction l with
  | nil => decide
  | cons x r ih =>
    have h1 := Vc.put_length (g x List.mem_cons_self)
    have h2 := ih (fun y hy => g y (List.mem_cons_of_mem _ hy))
    rw [putT_eq, List.length_cons]
    by_cases h : x.put.2 = 0
    · rw [if_pos h]
      by_cases h' : (putT r).2 = 0
      · rw [if_pos h', List.length_append]; omega
      · rw [if_neg h']; show 0 ≤ _; omega
    · rw [if_neg h]; show 0 ≤ _; omega
theorem putsT_ok {l : List Vc} (h : l.length ≤ 16 ∧ (putT l).2 = 0) : putsT l = (txt (putT l).1, 0) := by
  unfold putsT ansT
  rw [if_pos h.1, if_pos h.2, List.nil_append]
theorem putsT_no {l : List Vc} (h : ¬ (l.length ≤ 16 ∧ (putT l).2 = 0)) : ¬ (putsT l).2 = 0 := by
  unfold putsT ansT
  by_cases h1 : l.length ≤ 16
  · have h2 : ¬ (putT l).2 = 0 := fun e => h ⟨h1, e⟩
    rw [if_pos h1, if_neg h2]; exact h2
  · rw [if_neg h1]; decide
/-- Values behind a beginning. -/
def joinL (b : List UInt8) (l : List Vc) : List UInt8 × Int := if l.length ≤ 16 ∧ (putT l).2 = 0 then (b ++ (putT l).1, 0) else ([], 1)
theorem join1 (b : List UInt8) (n : Int) : joinL b [vnum n] = (b ++ vn n, 0) := by
  unfold joinL
  have h : putT [vnum n] = (vn n, 0) := by
    rw [putT_eq, vnum_put, if_pos rfl]
    show (if (0 : Int) = 0 then (vn n ++ [], (0 : Int)) else _) = _
    rw [if_pos rfl, List.append_nil]
  rw [h, if_pos ⟨by simp, rfl⟩]
theorem putT_one (x : Vc) : putT [x] = if x.put.2 = 0 then (x.put.1, 0) else ([], x.put.2) := by
  rw [putT_eq]
  show (if x.put.2 = 0 then (if (0 : Int) = 0 then (x.put.1 ++ [], (0 : Int)) else _) else _) = _
  rw [if_pos rfl, List.append_nil]
theorem joinx (b : List UInt8) (x : Vc) : joinL b [x] = if x.put.2 = 0 then (b ++ x.put.1, 0) else ([], 1) := by
  unfold joinL
  rw [putT_one]
  by_cases h : x.put.2 = 0
  · rw [if_pos h, if_pos ⟨by simp, rfl⟩, if_pos h]
  · rw [if_neg h, if_neg (fun e => h e.2), if_neg h]
theorem join2 (b : List UInt8) (n : Int) (x : Vc) : joinL b [vnum n, x] = if x.put.2 = 0 then (b ++ (vn n ++ x.put.1), 0) else ([], 1) := by
  unfold joinL
  rw [putT_eq, vnum_put, putT_one]
  by_cases h : x.put.2 = 0
  · rw [if_pos h, if_pos rfl, if_pos rfl, if_pos ⟨by simp, rfl⟩, if_pos h]
  · rw [if_neg h, if_pos rfl, if_neg h, if_neg (fun e => h e.2), if_neg h]
theorem join22 (b : List UInt8) (n m : Int) : joinL b [vnum n, vnum m] = (b ++ (vn n ++ vn m), 0) := by rw [join2, vnum_put, if_pos rfl]
theorem joined_is (b : List UInt8) (l : List Vc) (g : ∀ x ∈ l, x.Good) (hb : b.length ≤ 1000) (k : Nat) (hk : 70 ≤ k) : keys_joined.f k (txt b) l = some (txt (joinL b l).1, (joinL b l).2) := by
  unfold keys_joined.f joinL
  rw [tuple_put_is l g k hk, Option.bind_some]
  by_cases h : l.length ≤ 16 ∧ (putT l).2 = 0
  · have hl := putT_length l g
    rw [putsT_ok h, if_pos rfl, if_pos h, if_pos (by rw [txt_size, txt_size]; omega), txt_append]
  · rw [if_neg (putsT_no h), if_neg h]; rfl
/-- Where a row stands. -/
def rowL (n : Int) (x : Vc) : List UInt8 × Int := if x.f0 = 0 then ([], 1) else if x.put.2 = 0 then (114 :: (vn n ++ x.put.1), 0) else ([], 1)
theorem good2 {n : Int} {x : Vc} (hn : (Lit.int .i64 n).wf = true) (g : x.Good) : ∀ y ∈ [vnum n, x], y.Good := by
  intro y hy
  rcases List.mem_cons.1 hy with rfl | hy
  · exact vnum_good hn
  · rcases List.mem_cons.1 hy with rfl | hy
    · exact g
    · cases hy
theorem good1 {x : Vc} (g : x.Good) : ∀ y ∈ [x], y.Good := by
  intro y hy
  rcases List.mem_cons.1 hy with rfl | hy
  · exact g
  · cases hy
theorem keys_row_is {n : Int} {x : Vc} (hn : (Lit.int .i64 n).wf = true) (g : x.Good) (k : Nat) (hk : 70 ≤ k) : keys_Row.f k n x.f0 x.f1 x.f2 x.f3 = some (txt (rowL n x).1, (rowL n x).2) := by
  unfold keys_Row.f keys_number.f rowL
  by_cases h : x.f0 = 0
  · rw [if_pos h, if_pos h]; rfl
  · rw [if_neg h, if_neg h, Option.bind_some]
    have hj := joined_is [114] [vnum n, x] (good2 hn g) (by decide) k hk
    rw [join2] at hj
    show (keys_joined.f k (txt [114]) [vnum n, x]).bind _ = _
    rw [hj, Option.bind_some]
    by_cases h2 : x.put.2 = 0
    · rw [if_pos h2, if_pos h2]; rfl
    · rw [if_neg h2, if_neg h2]
/-- The examples hold. -/
theorem keys_awake_true (k : Nat) (hk : 70 ≤ k) : falseworklaw21_awake.f k = some true := by
  unfold falseworklaw21_awake.f
  have h := keys_row_is (n := 1) (x := ⟨2, 5, 0, ⟨#[]⟩⟩) (by decide) (vnum_good (n := 5) (by decide)) k hk
  show (keys_Row.f k 1 2 5 0 (⟨#[]⟩ : ByteArray)).bind _ = _
  rw [h]
  have e : rowL 1 (⟨2, 5, 0, ⟨#[]⟩⟩ : Vc) = ([114, 4, 128, 0, 0, 0, 0, 0, 0, 1, 4, 128, 0, 0, 0, 0, 0, 0, 5], 0) := by decide +kernel
  rw [e]
  simp only [Option.bind_some, falseworklaw21_num.f, toList_data, txt_data]
  rfl
/-- Whether no other row may have these values. -/
def soleB (u : Bool) (l : List Vc) : Bool := (l.all fun x => x.f0 != 0) && u
theorem sole_from (l : List Vc) (u : Bool) (a0 : Int) (a1 : ByteArray) (a2 : List Int) (a4 : Int) (d : Nat) : ∀ (k i : Nat), i + d = l.length → l.length ≤ 1000 → d < k → keys_Sole.l0 k l (l.length : Int) (i : Int) a0 a1 a2 u a4 = some (soleB u (l.drop i)) := by
  induction d with
  | zero =>
    intro k i hi hl hk
    obtain ⟨k, rfl⟩ : ∃ m, k = m + 1 := ⟨k - 1, by omega⟩
    simp only [keys_Sole.l0]
    rw [if_neg (by omega), List.drop_eq_nil_of_le (by omega)]
    simp [soleB]
  | succ d ih =>
    intro k i hi hl hk
    obtain ⟨k, rfl⟩ : ∃ m, k = m + 1 := ⟨k - 1, by omega⟩
    obtain ⟨x, hx, hm, hd⟩ := rd_at l i (by omega)
    simp only [keys_Sole.l0]
    rw [if_pos (by omega), if_pos (by omega), if_pos (by omega), hx, hd]
    by_cases h : x.f0 = 0
    · rw [if_pos h]; simp [soleB, h]
    · rw [if_neg h, show wrap64 ((i : Int) + 1) = ((i + 1 : Nat) : Int) by unfold wrap64; omega, ih k (i + 1) (by omega) hl (by omega)]
      have hb : (x.f0 != 0) = true := bne_iff_ne.2 h
      unfold soleB
      rw [List.all_cons, hb, Bool.true_and]
theorem sole_is (l : List Vc) (u : Bool) (a0 : Int) (a1 : ByteArray) (a2 : List Int) (a4 : Int) (hl : l.length ≤ 1000) (k : Nat) (hk : l.length < k) : keys_Sole.f k a0 a1 a2 u a4 l = some (soleB u l) := by
  have := sole_from l u a0 a1 a2 a4 l.length k 0 (by omega) hl hk
  rw [List.drop_zero] at this
  exact this
/-- Where the entries stand whose values begin with these. -/
def keyL (tb id : Int) (l : List Vc) : List UInt8 := (105 :: (vn tb ++ vn id)) ++ (putT l).1
def entryL (tb id : Int) (nc : Nat) (u : Bool) (l : List Vc) (x : Vc) : List UInt8 × List UInt8 × Int :=
  if (l.length = nc ∧ ¬ x.f0 = 0 ∧ x.put.2 = 0) ∧ (l.length ≤ 16 ∧ (putT l).2 = 0) then ((if soleB u l = true then keyL tb id l else keyL tb id l ++ x.put.1), x.put.1, 0) else ([], [], 1)
theorem keyL_length (tb id : Int) (l : List Vc) (g : ∀ x ∈ l, x.Good) : (keyL tb id l).length ≤ 19 + 83 * l.length := by
  have := putT_length l g
  show (((105 : UInt8) :: (vn tb ++ vn id)) ++ (putT l).1).length ≤ _
  rw [List.length_append]
  show 19 + _ ≤ _
  omega
theorem keys_entry_is {tb id : Int} (ht : (Lit.int .i64 tb).wf = true) (hi : (Lit.int .i64 id).wf = true) (nm : ByteArray) (cols : List Int) (u : Bool) (st : Int) (l : List Vc) (g : ∀ x ∈ l, x.Good) {x : Vc} (gx : x.Good) (k : Nat) (hk : 80 ≤ k) :
    keys_Entry.f k tb id nm cols u st l x.f0 x.f1 x.f2 x.f3 = some (txt (entryL tb id cols.length u l x).1, txt (entryL tb id cols.length u l x).2.1, (entryL tb id cols.length u l x).2.2) := by
  obtain ⟨k, rfl⟩ : ∃ m, k = m + 2 := ⟨k - 2, by omega⟩
  have hj := joined_is [] [x] (good1 gx) (by decide) (k + 2) (by omega)
  rw [joinx] at hj
  have hno : ∀ y : ByteArray, keys_Entry.j0 (k + 2) tb l y true id nm cols u st = some (txt [], txt [], 1) := fun y => by simp only [keys_Entry.j0, if_true]; rfl
  unfold keys_Entry.f entryL
  show (keys_joined.f (k + 2) (txt []) [x]).bind _ = _
  rw [hj, Option.bind_some]
  by_cases h1 : l.length = cols.length
  · rw [if_pos (by omega)]
    by_cases h2 : x.f0 = 0
    · rw [if_pos h2, hno, if_neg (fun e => e.1.2.1 h2)]
    · rw [if_neg h2]
      by_cases h3 : x.put.2 = 0
      · rw [if_pos h3]
        have hj1 := joined_is [105] [vnum tb, vnum id] (good2 ht (vnum_good hi)) (by decide) (k + 1) (by omega)
        have hj2 := joined_is [] l g (by decide) (k + 1) (by omega)
        rw [join22] at hj1
        simp only [keys_Entry.j0, bne_self_eq_false, Bool.false_eq_true, if_false, keys_number.f, Option.bind_some]
        have e1 : keys_joined.f (k + 1) (⟨#[105]⟩ : ByteArray) [(⟨2, tb, 0, ⟨#[]⟩⟩ : Vc), ⟨2, id, 0, ⟨#[]⟩⟩] = some (txt ([105] ++ (vn tb ++ vn id)), 0) := hj1
        have e2 : keys_joined.f (k + 1) (⟨#[]⟩ : ByteArray) l = some (txt (joinL [] l).1, (joinL [] l).2) := hj2
        rw [e1, e2]
        simp only [Option.bind_some, if_true]
        unfold joinL
        by_cases h4 : l.length ≤ 16 ∧ (putT l).2 = 0
        · have hlen := putT_length l g
          have hpx := Vc.put_length gx
          rw [if_pos h4, if_pos ⟨⟨h1, h2, h3⟩, h4⟩]
          simp only [keys_Entry.j1, bne_self_eq_false, Bool.false_eq_true, if_false, List.nil_append]
          rw [sole_is l u _ _ _ _ (by omega) k (by omega), Option.bind_some]
          have A : (txt ([105] ++ (vn tb ++ vn id))).size + (txt (putT l).1).size ≤ 9223372036854775807 := by
            rw [txt_size, txt_size]; show 19 + _ ≤ _; omega
          have e3 : txt ([105] ++ (vn tb ++ vn id)) ++ txt (putT l).1 = txt (keyL tb id l) := txt_append _ _
          have hkl := keyL_length tb id l g
          cases hs : soleB u l
          · simp only [Bool.false_eq_true, if_false]
            rw [if_pos A, e3, if_pos (by rw [txt_size, txt_size]; omega), txt_append]
          · simp only [if_true]
            rw [if_pos A, e3]
        · rw [if_neg h4, if_neg (fun e => h4 e.2)]
          simp only [keys_Entry.j1]
          rw [if_pos (by decide)]; rfl
      · rw [if_neg h3, if_neg (fun e => h3 e.1.2.2)]
        exact hno _
  · rw [if_neg (by omega), hno, if_neg (fun e => h1 e.1.1)]
/-- Whether a row of values is long: if not, it has at most 50. -/
theorem keys_long_from (l : List Vc) (d : Nat) : ∀ (k i : Nat), i + d = 50 → 2 * d + 2 ≤ k → ∃ b, falseworklaw21_long.l0 k l (i : Int) = some b ∧ (b = false → l.length ≤ 50) := by
  have out : ∀ k i, 2 ≤ k → ∃ b, falseworklaw21_long.j1 (k - 1) l i false = some b ∧ (b = false → l.length ≤ 50) := fun k i hk => by
    obtain ⟨k, rfl⟩ : ∃ m, k = m + 2 := ⟨k - 2, by omega⟩
    exact ⟨_, rfl, fun h => by have := of_decide_eq_false h; omega⟩
  induction d with
  | zero =>
    intro k i hi hk
    obtain ⟨k, rfl⟩ : ∃ m, k = m + 2 := ⟨k - 2, by omega⟩
    simp only [falseworklaw21_long.l0]
    rw [show decide ((i : Int) < 50) = false from decide_eq_false (by omega)]
    split <;> exact out (k + 2) _ (by omega)
  | succ d ih =>
    intro k i hi hk
    obtain ⟨k, rfl⟩ : ∃ m, k = m + 2 := ⟨k - 2, by omega⟩
    simp only [falseworklaw21_long.l0]
    by_cases h : (i : Int) < (l.length : Int)
    · rw [if_pos h, decide_eq_true (show (i : Int) < 50 by omega)]
      simp only [falseworklaw21_long.j1, if_true]
      rw [if_pos (by omega), if_pos h]
      split
      · exact ⟨true, rfl, fun h => by cases h⟩
      · rw [show wrap64 ((i : Int) + 1) = ((i + 1 : Nat) : Int) by unfold wrap64; omega]
        exact ih k (i + 1) (by omega) (by omega)
    · rw [if_neg h]; exact out (k + 2) _ (by omega)
theorem keys_long_is (l : List Vc) (k : Nat) (hk : 102 ≤ k) : ∃ b, falseworklaw21_long.f k l = some b ∧ (b = false → l.length ≤ 50) := keys_long_from l 50 k 0 rfl hk
theorem index_from (n : Nat) (u : Bool) (hn : n ≤ 50) (d : Nat) : ∀ (k i : Nat) (acc : List Int), i + d = n → acc.length = i → d < k → ∃ cs, falseworklaw21_index.l0 k (n : Int) (i : Int) 7 (⟨#[]⟩ : ByteArray) acc u 0 = some (7, ⟨#[]⟩, cs, u, 0) ∧ cs.length = n := by
  induction d with
  | zero =>
    intro k i acc hi ha hk
    obtain ⟨k, rfl⟩ : ∃ m, k = m + 1 := ⟨k - 1, by omega⟩
    simp only [falseworklaw21_index.l0]
    rw [if_neg (by omega)]
    exact ⟨acc, rfl, by omega⟩
  | succ d ih =>
    intro k i acc hi ha hk
    obtain ⟨k, rfl⟩ : ∃ m, k = m + 1 := ⟨k - 1, by omega⟩
    simp only [falseworklaw21_index.l0]
    rw [if_pos (by omega), if_pos (by omega), show wrap64 ((i : Int) + 1) = ((i + 1 : Nat) : Int) by unfold wrap64; omega]
    exact ih k (i + 1) _ (by omega) (by rw [List.length_append]; show _ + 1 = _; omega) (by omega)
theorem index_is (n : Nat) (u : Bool) (hn : n ≤ 50) (k : Nat) (hk : 51 ≤ k) : ∃ cs, falseworklaw21_index.f k (n : Int) u = some (7, ⟨#[]⟩, cs, u, 0) ∧ cs.length = n := index_from n u hn n k 0 [] (by omega) rfl (by omega)
end Go.Proofs.Ytifhnkbhjmapeaa.PA
