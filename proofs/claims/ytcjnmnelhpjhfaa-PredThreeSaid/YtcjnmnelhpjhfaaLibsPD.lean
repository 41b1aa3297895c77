/- What the functions of layer 1 come to on words of 64 bits: the one form, the place, the way back, the order. -/
import Derived.Test.YtcjnmnelhpjhfaaPDx0
import Derived.Test.YtcjnmnelhpjhfaaPDx2
import Derived.Test.YtcjnmnelhpjhfaaPDx3
import Derived.Test.YtcjnmnelhpjhfaaPDx4
import Derived.Test.YtcjnmnelhpjhfaaPDx5
import Derived.Test.YtcjnmnelhpjhfaaPDx6
import Derived.Test.YtcjnmnelhpjhfaaPDx7
import Derived.Test.YtcjnmnelhpjhfaaPDx8
import Derived.Test.YtcjnmnelhpjhfaaPlainP
namespace Go.Proofs.Ytcjnmnelhpjhfaa.PA
open Go.RowKit Go.Proofs.YtcjnmnelhpjhfaaW.PrintWords Go.Proofs.YtcjnmnelhpjhfaaW.PrintLast Go.Proofs.Ytcjnmnelhpjhfaa.Plain

theorem u64_nat {a : Int} (h : (Lit.int .u64 a).wf = true) : ∃ x : Nat, a = (x : Int) ∧ x < 18446744073709551616 := by
  have h1 : IntKind.u64.min ≤ a ∧ a ≤ IntKind.u64.max := by simpa [Lit.wf] using h
  have h2 : IntKind.u64.min = 0 := by decide
  have h3 : IntKind.u64.max = 18446744073709551615 := by decide
  rw [h2, h3] at h1
  exact ⟨a.toNat, by omega, by omega⟩
theorem flo_canon_is {x : Nat} (h : x < 18446744073709551616) : flo_Canon.f (x : Int) = some ((canon x : Nat) : Int) := by
  unfold flo_Canon.f fcmp canon
  rw [Int.toNat_natCast, show Int.toNat 0 = 0 from rfl, nan_test]
  by_cases h1 : 9218868437227405312 < x % 9223372036854775808
  · rw [if_pos (decide_eq_true h1), if_pos h1]; rfl
  · rw [if_neg (by simp [h1]), if_neg h1, zero_test x h1]
    by_cases h2 : x % 9223372036854775808 = 0
    · rw [if_pos (decide_eq_true h2)]
      by_cases h3 : x = 9223372036854775808
      · rw [if_pos h3]; rfl
      · rw [if_neg h3]
        have : x = 0 := by omega
        rw [this]; rfl
    · rw [if_neg (by simp [h2]), if_neg (by omega)]
theorem flo_order_is {x : Nat} (h : x < 18446744073709551616) : flo_Order.f (x : Int) = some ((ordr x : Nat) : Int) := by
  have hc := canon_lt h
  unfold flo_Order.f ordr
  rw [flo_canon_is h, Option.bind_some, and_top hc]
  by_cases h1 : canon x < 9223372036854775808
  · rw [if_pos h1, if_pos rfl, or_top hc, if_pos h1, if_pos h1]
    exact congrArg some (by omega)
  · rw [if_neg h1, if_neg (by decide), xor_all hc, if_neg h1]
    exact congrArg some (by omega)
/-- Which of two numbers is below. -/
def cmpN (a b : Nat) : Int := if a < b then -1 else if b < a then 1 else 0
end Go.Proofs.Ytcjnmnelhpjhfaa.PA
/- Which values may be: what the program's and the document's functions come to. -/
namespace Go.Proofs.Ytcjnmnelhpjhfaa.PA
open Go.RowKit Go.Proofs.YtcjnmnelhpjhfaaW.PrintWords Go.Proofs.YtcjnmnelhpjhfaaW.PrintLast Go.Proofs.Ytcjnmnelhpjhfaa.Plain

theorem toList_data (s : ByteArray) : s.toList = s.data.toList := ByteArray.toList_eq s
theorem size_data (s : ByteArray) : s.size = s.data.toList.length := by rw [Array.length_toList]; rfl
theorem dec_beq (a b : Int) : (a == b) = decide (a = b) := by
  by_cases h : a = b
  · rw [h, decide_eq_true rfl]; simp
  · rw [decide_eq_false h]; simpa using h
theorem dec_cast (f : Nat) : decide ((f : Int) = 0) = decide (f = 0) := by
  by_cases h : f = 0
  · rw [h]; rfl
  · rw [decide_eq_false h, decide_eq_false (by omega)]
theorem isE (l : List UInt8) : (l == ([] : List UInt8)) = l.isEmpty := by cases l <;> rfl
theorem value_may_is (k n : Int) {f : Nat} (hf : f < 18446744073709551616) (s : ByteArray) : value_May.f k n (f : Int) s = some (mayB k n f s.data.toList) := by
  unfold value_May.f mayB
  rw [toList_data, size_data]
  by_cases h0 : k = 0
  · rw [if_pos h0, if_pos h0, dec_beq, dec_beq, dec_cast]
  rw [if_neg h0, if_neg h0]
  by_cases h1 : k = 1
  · rw [if_pos h1, if_pos h1, dec_beq, dec_cast]
    by_cases n0 : n = 0
    · rw [if_pos n0, n0]; rfl
    · rw [if_neg n0]
      by_cases n1 : n = 1
      · rw [if_pos n1, n1]; rfl
      · rw [if_neg n1, decide_eq_false n0, decide_eq_false n1]; rfl
  rw [if_neg h1, if_neg h1]
  by_cases h2 : k = 2
  · rw [if_pos h2, if_pos h2, dec_beq, dec_cast]
  rw [if_neg h2, if_neg h2]
  by_cases h3 : k = 3
  · rw [if_pos h3, if_pos h3, flo_canon_is hf, Option.bind_some, dec_beq]
    by_cases hc : canon f = f
    · rw [if_pos (by omega), decide_eq_true hc, Bool.true_and]
    · rw [if_neg (by omega), decide_eq_false hc, Bool.false_and, Bool.and_false]
  rw [if_neg h3, if_neg h3]
  have key : (if ((s.data.toList.length : Nat) : Int) > 40 then some false else some (n == 0 && (f : Int) == 0)) = some (decide (n = 0) && (decide (f = 0) && decide (s.data.toList.length ≤ 40))) := by
    rw [dec_beq, dec_beq, dec_cast]
    by_cases hl : s.data.toList.length ≤ 40
    · rw [if_neg (by omega), decide_eq_true hl, Bool.and_true]
    · rw [if_pos (by omega), decide_eq_false hl, Bool.and_false, Bool.and_false]
  by_cases h4 : k = 4
  · rw [if_pos h4, if_pos h4, key]
  rw [if_neg h4, if_neg h4]
  by_cases h5 : k = 5
  · rw [if_pos h5, if_pos h5, key]
  rw [if_neg h5, if_neg h5]
end Go.Proofs.Ytcjnmnelhpjhfaa.PA
/- The bytes of values: what the program's and the document's functions come to. -/
namespace Go.Proofs.Ytcjnmnelhpjhfaa.PA
open Go.RowKit Go.Proofs.YtcjnmnelhpjhfaaW.PrintWords Go.Proofs.YtcjnmnelhpjhfaaW.PrintLast Go.Proofs.Ytcjnmnelhpjhfaa.Plain

/-- Bytes as whole numbers. -/
def bytesI (l : List UInt8) : List Int := l.map fun b => (b.toNat : Int)
theorem str_bytesI (l : List UInt8) : strOfNums (bytesI l) = ⟨l.toArray⟩ := by
  unfold strOfNums bytesI
  rw [List.map_map]
  congr 2
  conv => rhs; rw [← List.map_id l]
  apply List.map_congr_left
  intro b _
  show UInt8.ofNat ((b.toNat : Int)).toNat = b
  rw [Int.toNat_natCast, UInt8.ofNat_toNat]
theorem bytesI_append (a b : List UInt8) : bytesI (a ++ b) = bytesI a ++ bytesI b := by unfold bytesI; rw [List.map_append]
theorem bytesI_length (a : List UInt8) : (bytesI a).length = a.length := by unfold bytesI; rw [List.length_map]
theorem byteI (d u : Nat) : ((UInt8.ofNat (u / d % 256)).toNat : Int) = (u : Int) / (d : Int) % 256 := by
  rw [UInt8.toNat_ofNat', ← Int.natCast_ediv]
  generalize u / d = q
  omega
theorem bytesI_be8 (u : Nat) : bytesI (be8 u) = [(u : Int) / 72057594037927936 % 256, (u : Int) / 281474976710656 % 256, (u : Int) / 1099511627776 % 256, (u : Int) / 4294967296 % 256, (u : Int) / 16777216 % 256, (u : Int) / 65536 % 256, (u : Int) / 256 % 256, (u : Int) % 256] := by
  unfold bytesI be8
  simp only [List.map_cons, List.map_nil]
  have e := fun d => byteI d u
  have e8 : ((UInt8.ofNat (u % 256)).toNat : Int) = (u : Int) % 256 := by
    have := byteI 1 u
    rw [Nat.div_one] at this
    rw [this]; simp
  rw [e, e, e, e, e, e, e, e8]; rfl
theorem shr8 (u : Nat) (j : Nat) (hj : j ≤ 64) : shr .u64 (u : Int) (j : Int) = (u : Int) / ((2 ^ j : Nat) : Int) := by
  unfold shr
  rw [Int.toNat_natCast]
  simp only [IntKind.bits]
  rw [Nat.min_eq_left hj]
  simp
theorem value_eight_is (u : Nat) (k : Nat) (hk : 9 ≤ k) : value_eight.f k (u : Int) = some (bytesI (be8 u)) := by
  obtain ⟨k, rfl⟩ : ∃ m, k = m + 9 := ⟨k - 9, by omega⟩
  unfold value_eight.f
  rw [if_pos (by decide), Option.bind_some, bytesI_be8]
  have hs : ∀ i : Nat, i ≤ 7 → wrap64 (8 * wrap64 (7 - (i : Int))) = ((8 * (7 - i) : Nat) : Int) := fun i hi => by unfold wrap64; omega
  have step : ∀ (i m : Nat) (l : List Int), i ≤ 7 → l.length = 8 → value_eight.l0 (m + 1) (u : Int) l 8 (i : Int) = value_eight.l0 m (u : Int) (l.set i ((u : Int) / ((2 ^ (8 * (7 - i)) : Nat) : Int) % 256)) 8 ((i + 1 : Nat) : Int) := by
    intro i m l hi hl
    simp only [value_eight.l0]
    rw [if_pos (by omega), hs i hi, if_pos (by omega), if_pos (by omega), if_pos (by omega), shr8 u _ (by omega), Int.toNat_natCast]
    congr 1
    unfold wrap64; omega
  have hr : (List.replicate 8 (0 : Int)) = [0, 0, 0, 0, 0, 0, 0, 0] := rfl
  rw [hr]
  show value_eight.l0 (k + 9) (u : Int) [0, 0, 0, 0, 0, 0, 0, 0] 8 ((0 : Nat) : Int) = _
  rw [step 0 (k + 8) _ (by decide) rfl, step 1 (k + 7) _ (by decide) rfl, step 2 (k + 6) _ (by decide) rfl, step 3 (k + 5) _ (by decide) rfl, step 4 (k + 4) _ (by decide) rfl, step 5 (k + 3) _ (by decide) rfl, step 6 (k + 2) _ (by decide) rfl, step 7 (k + 1) _ (by decide) rfl]
  simp only [value_eight.l0]
  rw [if_neg (by omega)]
  simp [List.set]
theorem bt_data (s : ByteArray) (i : Nat) (h : i < s.size) : ∃ b : UInt8, bt s (i : Int) = ((b.toNat : Nat) : Int) ∧ s.data.toList.drop i = b :: s.data.toList.drop (i + 1) := by
  refine ⟨s[i], ?_, ?_⟩
  · unfold bt; simp [h]
  · rw [List.drop_eq_getElem_cons (by simpa using h)]; rfl
theorem byte_zero (b : UInt8) : ((b.toNat : Nat) : Int) = 0 ↔ b = 0 := by
  constructor
  · intro h; exact UInt8.toNat_inj.1 (by simpa using h)
  · rintro rfl; rfl
theorem esc_from (s : ByteArray) (hs : s.size ≤ 1000000) (d : Nat) : ∀ (k i : Nat) (acc : List UInt8), i + d = s.size → d < k → acc.length ≤ 10 + 2 * i →
    value_escaped.l0 k s (bytesI acc) (s.size : Int) (i : Int) = some (bytesI (acc ++ (esc (s.data.toList.drop i) ++ [0, 1]))) := by
  induction d with
  | zero =>
    intro k i acc hi hk hl
    obtain ⟨k, rfl⟩ : ∃ m, k = m + 1 := ⟨k - 1, by omega⟩
    simp only [value_escaped.l0, Option.bind_some]
    rw [if_neg (by omega), if_pos (by rw [bytesI_length]; show acc.length + 2 < _; omega), List.drop_eq_nil_of_le (by rw [← size_data]; omega)]
    rw [bytesI_append]; rfl
  | succ d ih =>
    intro k i acc hi hk hl
    obtain ⟨k, rfl⟩ : ∃ m, k = m + 1 := ⟨k - 1, by omega⟩
    obtain ⟨b, hb, hd⟩ := bt_data s i (by omega)
    have hw : wrap64 ((i : Int) + 1) = ((i + 1 : Nat) : Int) := by unfold wrap64; omega
    simp only [value_escaped.l0, Option.bind_some]
    rw [if_pos (by omega), if_pos (by omega), if_pos (by omega), if_pos (by rw [bytesI_length]; omega), hb, hw, hd]
    have e1 : bytesI acc ++ [((b.toNat : Nat) : Int)] = bytesI (acc ++ [b]) := by rw [bytesI_append]; rfl
    rw [e1]
    simp only [esc]
    by_cases h0 : b = 0
    · rw [if_pos ((byte_zero b).2 h0), if_pos (by rw [bytesI_length, List.length_append]; show acc.length + 1 < _; omega), if_pos h0]
      have e2 : bytesI (acc ++ [b]) ++ [255] = bytesI (acc ++ [b] ++ [255]) := by rw [bytesI_append (acc ++ [b])]; rfl
      rw [e2, ih k (i + 1) _ (by omega) (by omega) (by simp; omega), h0]
      simp
    · rw [if_neg (fun h => h0 ((byte_zero b).1 h)), if_neg h0, ih k (i + 1) _ (by omega) (by omega) (by simp; omega)]
      simp
theorem value_escaped_is (c : UInt8) (s : ByteArray) (hs : s.size ≤ 1000000) (k : Nat) (hk : s.size < k) : value_escaped.f k (c.toNat : Int) s = some (bytesI (c :: (esc s.data.toList ++ [0, 1]))) := by
  unfold value_escaped.f
  have := esc_from s hs s.size k 0 [c] (by omega) hk (by show 1 ≤ _; omega)
  rw [List.drop_zero] at this
  exact this
theorem biased_is {n : Int} (h0 : -9223372036854775808 ≤ n) (h1 : n ≤ 9223372036854775807) : Go.bits .xor .u64 (IntKind.u64.wrap n) 9223372036854775808 = ((biased n : Nat) : Int) := by
  rw [wrap_u64]
  obtain ⟨x, hx, hl⟩ : ∃ x : Nat, n % 18446744073709551616 = (x : Int) ∧ x < 18446744073709551616 := ⟨(n % 18446744073709551616).toNat, by omega, by omega⟩
  rw [hx, xor_top hl]
  unfold biased
  split <;> omega
theorem i64_bounds {n : Int} (h : (Lit.int .i64 n).wf = true) : -9223372036854775808 ≤ n ∧ n ≤ 9223372036854775807 := by
  have h1 : IntKind.i64.min ≤ n ∧ n ≤ IntKind.i64.max := by simpa [Lit.wf] using h
  have h2 : IntKind.i64.min = -9223372036854775808 := by decide
  have h3 : IntKind.i64.max = 9223372036854775807 := by decide
  rw [h2, h3] at h1
  exact h1
/-- A list of bytes as a text. -/
def txt (l : List UInt8) : ByteArray := ⟨l.toArray⟩
theorem txt_data (l : List UInt8) : (txt l).data.toList = l := by unfold txt; simp
theorem txt_of (s : ByteArray) : txt s.data.toList = s := by unfold txt; apply ByteArray.ext; simp
theorem txt_size (l : List UInt8) : (txt l).size = l.length := by rw [size_data, txt_data]
theorem txt_append (a b : List UInt8) : txt a ++ txt b = txt (a ++ b) := by
  apply ByteArray.ext; rw [ByteArray.data_append, ← Array.toList_inj, Array.toList_append]; simp [txt]
/-- What the program's Put comes to. -/
theorem value_put_is {k n : Int} {f : Nat} (hn : (Lit.int .i64 n).wf = true) (hf : f < 18446744073709551616) (s : ByteArray) (K : Nat) (hK : 50 ≤ K) :
    value_Put.f K k n (f : Int) s = some (txt (putV k n f s.data.toList).1, (putV k n f s.data.toList).2) := by
  obtain ⟨n0, n1⟩ := i64_bounds hn
  unfold value_Put.f putV
  rw [value_may_is k n hf s, Option.bind_some]
  by_cases hm : mayB k n f s.data.toList = true
  · rw [if_pos hm, if_pos hm]
    unfold encV
    by_cases h0 : k = 0
    · rw [if_pos h0, if_pos h0]; rfl
    rw [if_neg h0, if_neg h0]
    by_cases h1 : k = 1
    · rw [if_pos h1, if_pos h1]
      have hb : n = 0 ∨ n = 1 := by
        unfold mayB at hm
        rw [if_neg h0, if_pos h1] at hm
        simp at hm
        exact hm.1
      rcases hb with rfl | rfl <;> rfl
    rw [if_neg h1, if_neg h1]
    by_cases h2 : k = 2
    · rw [if_pos h2, if_pos h2, biased_is n0 n1, value_eight_is _ K (by omega)]
      simp only [Option.bind_some]
      rw [if_pos (by rw [bytesI_length]; show 1 + 8 < _; omega)]
      have : ([4] : List Int) ++ bytesI (be8 (biased n)) = bytesI (4 :: be8 (biased n)) := rfl
      rw [this, str_bytesI]; rfl
    rw [if_neg h2, if_neg h2]
    by_cases h3 : k = 3
    · rw [if_pos h3, if_pos h3, flo_order_is hf]
      simp only [Option.bind_some]
      rw [value_eight_is _ K (by omega)]
      simp only [Option.bind_some]
      rw [if_pos (by rw [bytesI_length]; show 1 + 8 < _; omega)]
      have : ([5] : List Int) ++ bytesI (be8 (ordr f)) = bytesI (5 :: be8 (ordr f)) := rfl
      rw [this, str_bytesI]; rfl
    rw [if_neg h3, if_neg h3]
    have hl : s.size ≤ 40 := by
      rw [size_data]
      unfold mayB at hm
      rw [if_neg h0, if_neg h1, if_neg h2, if_neg h3] at hm
      by_cases h4 : k = 4
      · rw [if_pos h4] at hm; simp at hm; simpa using hm.2.2
      · rw [if_neg h4] at hm
        by_cases h5 : k = 5
        · rw [if_pos h5] at hm; simp at hm; simpa using hm.2.2
        · rw [if_neg h5] at hm; cases hm
    by_cases h4 : k = 4
    · rw [if_pos h4, if_pos h4]
      have := value_escaped_is 6 s (by omega) K (by omega)
      have h6 : ((6 : UInt8).toNat : Int) = 6 := rfl
      rw [h6] at this
      rw [this, Option.bind_some, str_bytesI]; rfl
    · rw [if_neg h4, if_neg h4]
      have := value_escaped_is 7 s (by omega) K (by omega)
      have h6 : ((7 : UInt8).toNat : Int) = 7 := rfl
      rw [h6] at this
      rw [this, Option.bind_some, str_bytesI]; rfl
  · rw [if_neg hm, if_neg hm]; rfl
end Go.Proofs.Ytcjnmnelhpjhfaa.PA
/- The document's bytes of values; the document's examples. -/
namespace Go.Proofs.Ytcjnmnelhpjhfaa.PA
open Go.RowKit Go.Proofs.YtcjnmnelhpjhfaaW.PrintWords Go.Proofs.YtcjnmnelhpjhfaaW.PrintLast Go.Proofs.Ytcjnmnelhpjhfaa.Plain

end Go.Proofs.Ytcjnmnelhpjhfaa.PA
/- Of two values which is below: what the program's and the document's functions come to. -/
namespace Go.Proofs.Ytcjnmnelhpjhfaa.PA
open Go.RowKit Go.Proofs.YtcjnmnelhpjhfaaW.PrintWords Go.Proofs.YtcjnmnelhpjhfaaW.PrintLast Go.Proofs.Ytcjnmnelhpjhfaa.Plain

/-- -1, 0, 1 of two values; 0, if one may not be. -/
def cmpV (k n : Int) (f : Nat) (s : List UInt8) (k' n' : Int) (f' : Nat) (s' : List UInt8) : Int :=
  if mayB k n f s = true then if mayB k' n' f' s' = true then cmpL (encV k n f s) (encV k' n' f' s') else 0 else 0
theorem cmpV_turn (k n : Int) (f : Nat) (s : List UInt8) (k' n' : Int) (f' : Nat) (s' : List UInt8) : cmpV k' n' f' s' k n f s = -cmpV k n f s k' n' f' s' := by
  unfold cmpV
  by_cases h : mayB k n f s = true <;> by_cases h' : mayB k' n' f' s' = true <;> simp [h, h', cmpL_turn (encV k n f s)]
theorem cmpL_bounds (a b : List UInt8) : -1 ≤ cmpL a b ∧ cmpL a b ≤ 1 := by unfold cmpL; split <;> (try split) <;> omega
theorem cmpV_bounds (k n : Int) (f : Nat) (s : List UInt8) (k' n' : Int) (f' : Nat) (s' : List UInt8) : -1 ≤ cmpV k n f s k' n' f' s' ∧ cmpV k n f s k' n' f' s' ≤ 1 := by
  unfold cmpV
  have := cmpL_bounds (encV k n f s) (encV k' n' f' s')
  split <;> (try split) <;> omega
theorem compare_is (a b : List UInt8) : cmp_Compare_string.f (txt a) (txt b) = some (cmpL a b) := by
  unfold cmp_Compare_string.f cmp_isNaN_string.f cmpL
  rw [toList_data, toList_data, txt_data, txt_data]
  simp only [Option.bind_some, bne_self_eq_false, Bool.false_eq_true, if_false]
  show (if less a b = true then some (-1) else if less b a = true then some 1 else some 0) = _
  cases h1 : less a b <;> cases h2 : less b a <;> rfl
theorem value_cmp_is {k n : Int} {f : Nat} (hn : (Lit.int .i64 n).wf = true) (hf : f < 18446744073709551616) (s : ByteArray) {k' n' : Int} {f' : Nat} (hn' : (Lit.int .i64 n').wf = true) (hf' : f' < 18446744073709551616) (s' : ByteArray) (K : Nat) (hK : 50 ≤ K) :
    value_Cmp.f K k n (f : Int) s k' n' (f' : Int) s' = some (cmpV k n f s.data.toList k' n' f' s'.data.toList) := by
  unfold value_Cmp.f cmpV
  rw [value_put_is hn hf s K hK, value_put_is hn' hf' s' K hK]
  unfold putV
  by_cases h : mayB k n f s.data.toList = true <;> by_cases h' : mayB k' n' f' s'.data.toList = true <;> simp [h, h', compare_is]
end Go.Proofs.Ytcjnmnelhpjhfaa.PA
/- The bytes of several values: what the program's and the document's functions come to. -/
namespace Go.Proofs.Ytcjnmnelhpjhfaa.PA
open Go.RowKit Go.Proofs.YtcjnmnelhpjhfaaW.PrintWords Go.Proofs.YtcjnmnelhpjhfaaW.PrintLast Go.Proofs.Ytcjnmnelhpjhfaa.Plain

abbrev Vc := S40
/-- What a value in memory is like. -/
def Vc.Good (x : Vc) : Prop := (Lit.int .i64 x.f0).wf = true ∧ (Lit.int .i64 x.f1).wf = true ∧ (Lit.int .u64 x.f2).wf = true ∧ x.f3.size ≤ maxLen
/-- The bytes of one, or an error's number. -/
def Vc.put (x : Vc) : List UInt8 × Int := putV x.f0 x.f1 x.f2.toNat x.f3.data.toList
theorem Vc.float {x : Vc} (g : x.Good) : x.f2 = ((x.f2.toNat : Nat) : Int) ∧ x.f2.toNat < 18446744073709551616 := by
  obtain ⟨y, hy, hl⟩ := u64_nat g.2.2.1
  rw [hy, Int.toNat_natCast]; exact ⟨rfl, hl⟩
theorem Vc.ok {x : Vc} (g : x.Good) (h : x.put.2 = 0) : ∃ v : V, v.Ok ∧ x.f0 = v.k ∧ x.f1 = v.n ∧ x.f2 = ((v.f : Nat) : Int) ∧ x.f3.data.toList = v.s ∧ x.put.1 = v.enc := by
  unfold Vc.put putV at h ⊢
  by_cases hm : mayB x.f0 x.f1 x.f2.toNat x.f3.data.toList = true
  · obtain ⟨v, hv, e1, e2, e3, e4⟩ := view hm (i64_bounds g.2.1) (Vc.float g).2
    rw [if_pos hm]
    refine ⟨v, hv, e1, e2, ?_, e4, ?_⟩
    · rw [← e3]; exact (Vc.float g).1
    · rw [e1, e2, e3, e4]; exact V.enc_is v
  · rw [if_neg hm] at h; cases h
theorem Vc.put_length {x : Vc} (g : x.Good) : x.put.1.length ≤ 83 := by
  by_cases h : x.put.2 = 0
  · obtain ⟨v, hv, _, _, _, _, e⟩ := Vc.ok g h
    rw [e]; exact V.enc_length v hv
  · unfold Vc.put putV at h ⊢
    by_cases hm : mayB x.f0 x.f1 x.f2.toNat x.f3.data.toList = true
    · rw [if_pos hm] at h; exact absurd rfl h
    · rw [if_neg hm]; decide
theorem vc_put_is {x : Vc} (g : x.Good) (K : Nat) (hK : 50 ≤ K) : value_Put.f K x.f0 x.f1 x.f2 x.f3 = some (txt x.put.1, x.put.2) := by
  have := value_put_is (k := x.f0) g.2.1 (Vc.float g).2 x.f3 K hK
  rw [← (Vc.float g).1] at this
  exact this
/-- The bytes of several. -/
def putT : List Vc → List UInt8 × Int
  | [] => ([], 0)
  | x :: r => if x.put.2 = 0 then (if (putT r).2 = 0 then (x.put.1 ++ (putT r).1, 0) else ([], (putT r).2)) else ([], x.put.2)
def ansT (acc : List UInt8) (q : List UInt8 × Int) : ByteArray × Int := if q.2 = 0 then (txt (acc ++ q.1), 0) else (⟨#[]⟩, q.2)
theorem putT_eq (x : Vc) (r : List Vc) : putT (x :: r) = if x.put.2 = 0 then (if (putT r).2 = 0 then (x.put.1 ++ (putT r).1, 0) else ([], (putT r).2)) else ([], x.put.2) := rfl
theorem ansT_cons (acc : List UInt8) (x : Vc) (r : List Vc) : ansT acc (putT (x :: r)) = if x.put.2 = 0 then ansT (acc ++ x.put.1) (putT r) else (⟨#[]⟩, x.put.2) := by
  by_cases h : x.put.2 = 0
  · by_cases h2 : (putT r).2 = 0
    · have e : putT (x :: r) = (x.put.1 ++ (putT r).1, 0) := by rw [putT_eq, if_pos h, if_pos h2]
      rw [e, if_pos h]
      unfold ansT
      rw [if_pos rfl, if_pos h2, List.append_assoc]
    · have e : putT (x :: r) = ([], (putT r).2) := by rw [putT_eq, if_pos h, if_neg h2]
      rw [e, if_pos h]
      unfold ansT
      rw [if_neg h2, if_neg h2]
  · have e : putT (x :: r) = ([], x.put.2) := by rw [putT_eq, if_neg h]
    rw [e, if_neg h]
    unfold ansT
    rw [if_neg h]
theorem rd_at (l : List Vc) (i : Nat) (h : i < l.length) : ∃ x : Vc, rd_T40 l (i : Int) = x ∧ x ∈ l ∧ l.drop i = x :: l.drop (i + 1) := by
  refine ⟨l[i], ?_, List.getElem_mem h, List.drop_eq_getElem_cons h⟩
  unfold rd_T40
  rw [Int.toNat_natCast]
  simp [h]
end Go.Proofs.Ytcjnmnelhpjhfaa.PA
/- Values in memory: the bytes of several, cut at a place; which of two is below. -/
namespace Go.Proofs.Ytcjnmnelhpjhfaa.PA
open Go.RowKit Go.Proofs.YtcjnmnelhpjhfaaW.PrintWords Go.Proofs.YtcjnmnelhpjhfaaW.PrintLast Go.Proofs.Ytcjnmnelhpjhfaa.Plain

theorem beq_of {p q : Bool} (h : p = true ↔ q = true) : (p == q) = true := by cases p <;> cases q <;> simp_all
theorem putT_cons {x : Vc} {r : List Vc} (h : (putT (x :: r)).2 = 0) : x.put.2 = 0 ∧ (putT r).2 = 0 ∧ (putT (x :: r)).1 = x.put.1 ++ (putT r).1 := by
  simp only [putT] at h ⊢
  by_cases h1 : x.put.2 = 0
  · rw [if_pos h1] at h
    by_cases h2 : (putT r).2 = 0
    · exact ⟨h1, h2, by rw [if_pos h1, if_pos h2]⟩
    · rw [if_neg h2] at h; exact absurd h h2
  · rw [if_neg h1] at h; exact absurd h h1
theorem putT_cut : ∀ (l : List Vc) (m : Nat), (putT l).2 = 0 → (putT (l.take m)).2 = 0 ∧ (putT (l.drop m)).2 = 0 ∧ (putT l).1 = (putT (l.take m)).1 ++ (putT (l.drop m)).1
  | [], m, _ => by simp [putT]
  | x :: r, 0, h => by rw [List.take_zero, List.drop_zero]; exact ⟨rfl, h, rfl⟩
  | x :: r, m + 1, h => by
    obtain ⟨h1, h2, h3⟩ := putT_cons h
    obtain ⟨i1, i2, i3⟩ := putT_cut r m h2
    rw [List.take_succ_cons, List.drop_succ_cons, h3, i3, putT_eq x (r.take m), if_pos h1, if_pos i1]
    exact ⟨rfl, i2, by rw [List.append_assoc]⟩
/-- -1, 0, 1 of two. -/
def vcmp (x y : Vc) : Int := cmpV x.f0 x.f1 x.f2.toNat x.f3.data.toList y.f0 y.f1 y.f2.toNat y.f3.data.toList
theorem vc_cmp {x y : Vc} (hx : x.put.2 = 0) (hy : y.put.2 = 0) : vcmp x y = cmpL x.put.1 y.put.1 := by
  unfold Vc.put putV at hx hy ⊢
  unfold vcmp cmpV
  by_cases h1 : mayB x.f0 x.f1 x.f2.toNat x.f3.data.toList = true
  · by_cases h2 : mayB y.f0 y.f1 y.f2.toNat y.f3.data.toList = true
    · rw [if_pos h1, if_pos h2, if_pos h1, if_pos h2]
    · rw [if_neg h2] at hy; cases hy
  · rw [if_neg h1] at hx; cases hx
theorem less_vc {x y : Vc} (gx : x.Good) (gy : y.Good) (hx : x.put.2 = 0) (hy : y.put.2 = 0) (p q : List UInt8) : less (x.put.1 ++ p) (y.put.1 ++ q) = if x.put.1 = y.put.1 then less p q else less x.put.1 y.put.1 := by
  obtain ⟨v, hv, _, _, _, _, ev⟩ := Vc.ok gx hx
  obtain ⟨u, hu, _, _, _, _, eu⟩ := Vc.ok gy hy
  rw [ev, eu, V.less_app]
/-- Values are the same where their bytes are. -/
theorem vc_put_eq {x y : Vc} (gx : x.Good) (gy : y.Good) (hx : x.put.2 = 0) (hy : y.put.2 = 0) : x.put.1 = y.put.1 ↔ (x.f0 = y.f0 ∧ x.f1 = y.f1 ∧ x.f2 = y.f2 ∧ x.f3.data.toList = y.f3.data.toList) := by
  obtain ⟨v, hv, a1, a2, a3, a4, ev⟩ := Vc.ok gx hx
  obtain ⟨u, hu, b1, b2, b3, b4, eu⟩ := Vc.ok gy hy
  rw [ev, eu, V.enc_eq hv hu, a1, a2, a3, a4, b1, b2, b3, b4]
  constructor
  · rintro rfl; exact ⟨rfl, rfl, rfl, rfl⟩
  · rintro ⟨h1, h2, h3, h4⟩; exact V.fields_inj h1 h2 (by omega) h4
end Go.Proofs.Ytcjnmnelhpjhfaa.PA
/- Conditions: what the program's and the document's functions come to, in plain lists. -/
namespace Go.Proofs.Ytcjnmnelhpjhfaa.PA
open Go.RowKit Go.Proofs.YtcjnmnelhpjhfaaW.PrintWords Go.Proofs.YtcjnmnelhpjhfaaW.PrintLast Go.Proofs.Ytcjnmnelhpjhfaa.Plain

abbrev Col := S51
abbrev Cnd := S43
def Cnd.Good (c : Cnd) : Prop := c.f0.size ≤ maxLen ∧ (Lit.int .i64 c.f1).wf = true ∧ Vc.Good c.f2
theorem wrap_next {i n : Nat} (h : i < n) (hn : n ≤ maxLen) : wrap64 ((i : Int) + 1) = ((i + 1 : Nat) : Int) := by unfold maxLen at hn; unfold wrap64; omega
theorem find_range (nm : ByteArray) (l : List Col) : -1 ≤ pred_of.find nm l ∧ pred_of.find nm l < (l.length : Int) := by
  unfold pred_of.find
  cases h : l.findIdx? (pred_of.is nm) with
  | none => exact ⟨by show (-1 : Int) ≤ -1; omega, by show (-1 : Int) < _; omega⟩
  | some i =>
    have := (List.findIdx?_eq_some_iff_getElem.1 h).1
    exact ⟨by show (-1 : Int) ≤ (i : Int); omega, by show (i : Int) < _; omega⟩
theorem rdc_at (l : List Col) (i : Nat) (h : i < l.length) : rd_T51 l (i : Int) = l[i] := by unfold rd_T51; rw [Int.toNat_natCast]; simp [h]
theorem rdn_at (l : List Cnd) (i : Nat) (h : i < l.length) : ∃ x : Cnd, rd_T43 l (i : Int) = x ∧ x ∈ l ∧ l.drop i = x :: l.drop (i + 1) := by
  refine ⟨l[i], ?_, List.getElem_mem h, List.drop_eq_getElem_cons h⟩
  unfold rd_T43
  rw [Int.toNat_natCast]
  simp [h]
def mayV (x : Vc) : Bool := mayB x.f0 x.f1 x.f2.toNat x.f3.data.toList
theorem may_is {x : Vc} (g : x.Good) : value_May.f x.f0 x.f1 x.f2 x.f3 = some (mayV x) := by
  have := value_may_is x.f0 x.f1 (Vc.float g).2 x.f3
  rw [← (Vc.float g).1] at this
  exact this
/-- What is wrong with one condition, and with several. -/
def checkC (cols : List Col) (c : Cnd) : Int :=
  if pred_of.find c.f0 cols < 0 then 5 else if c.f1 < 1 then 1 else if c.f1 > 5 then 1 else if mayV c.f2 = false then 1
  else if c.f2.f0 = 0 then 0 else if c.f2.f0 = (rd_T51 cols (pred_of.find c.f0 cols)).f2 then 0 else 7
def checkL (cols : List Col) : List Cnd → Int
  | [] => 0
  | c :: r => if checkC cols c = 0 then checkL cols r else checkC cols c
theorem checkL_cons (cols : List Col) (c : Cnd) (r : List Cnd) : checkL cols (c :: r) = if checkC cols c = 0 then checkL cols r else checkC cols c := rfl
theorem check_from (cols : List Col) (l : List Cnd) (g : ∀ c ∈ l, Cnd.Good c) (hl : l.length ≤ maxLen) (d : Nat) : ∀ (k i : Nat), i + d = l.length → 2 * d < k → pred_Check.l0 k cols l (l.length : Int) (i : Int) = some (checkL cols (l.drop i)) := by
  induction d with
  | zero =>
    intro k i hi hk
    obtain ⟨k, rfl⟩ : ∃ m, k = m + 1 := ⟨k - 1, by omega⟩
    simp only [pred_Check.l0]
    rw [if_neg (by omega), List.drop_eq_nil_of_le (by omega)]; rfl
  | succ d ih =>
    intro k i hi hk
    obtain ⟨k, rfl⟩ : ∃ m, k = m + 2 := ⟨k - 2, by omega⟩
    obtain ⟨c, hc, hm, hd⟩ := rdn_at l i (by omega)
    have gc := g c hm
    have nx := ih k (i + 1) (by omega) (by omega)
    rw [← wrap_next (show i < l.length by omega) hl] at nx
    obtain ⟨r1, r2⟩ := find_range c.f0 cols
    simp only [pred_Check.l0, pred_of.f]
    rw [if_pos (by omega), if_pos (by omega), if_pos (by omega), hc, Option.bind_some, hd, checkL_cons]
    unfold checkC
    by_cases h1 : pred_of.find c.f0 cols < 0
    · rw [if_pos h1, if_pos h1, if_neg (by decide)]
    rw [if_neg h1, if_neg h1]
    simp only [pred_Check.j1]
    by_cases h2 : c.f1 < 1
    · rw [if_pos h2, if_pos h2, if_pos (decide_eq_true h2), if_neg (by decide)]
    rw [if_neg h2, if_neg h2]
    by_cases h3 : c.f1 > 5
    · rw [if_pos h3, if_pos h3, if_pos (decide_eq_true h3), if_neg (by decide)]
    rw [if_neg h3, if_neg h3, may_is gc.2.2, Option.bind_some]
    cases h4 : mayV c.f2
    · rw [if_pos (by rfl), if_pos rfl, if_neg (by decide)]
    rw [if_neg (show ¬ ((!true) = true) by decide), if_neg (show ¬ (true = false) by decide)]
    by_cases h5 : c.f2.f0 = 0
    · rw [if_pos h5, if_pos h5, if_pos rfl]; exact nx
    rw [if_neg h5, if_neg h5, if_pos (by omega), if_pos r2]
    by_cases h6 : c.f2.f0 = (rd_T51 cols (pred_of.find c.f0 cols)).f2
    · rw [if_pos h6, if_pos h6, if_pos rfl]; exact nx
    · rw [if_neg h6, if_neg h6, if_neg (by decide)]
theorem check_is (cols : List Col) (l : List Cnd) (g : ∀ c ∈ l, Cnd.Good c) (hl : l.length ≤ maxLen) (k : Nat) (hk : 2 * l.length < k) : pred_Check.f k cols l = some (checkL cols l) := by
  have := check_from cols l g hl l.length k 0 (by omega) hk
  rw [List.drop_zero] at this
  exact this
theorem vc_value_cmp_is {x y : Vc} (gx : x.Good) (gy : y.Good) (K : Nat) (hK : 50 ≤ K) : value_Cmp.f K x.f0 x.f1 x.f2 x.f3 y.f0 y.f1 y.f2 y.f3 = some (vcmp x y) := by
  have := value_cmp_is (k := x.f0) gx.2.1 (Vc.float gx).2 x.f3 (k' := y.f0) gy.2.1 (Vc.float gy).2 y.f3 K hK
  rw [← (Vc.float gx).1, ← (Vc.float gy).1] at this
  exact this
/-- Whether a value has a condition. -/
def oneV (v : Vc) (c : Cnd) : Int :=
  if c.f1 = 4 then (if v.f0 = 0 then 1 else 0) else if c.f1 = 5 then (if v.f0 = 0 then 0 else 1) else if v.f0 = 0 then -1 else if c.f2.f0 = 0 then -1
  else if c.f1 = 1 then (if vcmp v c.f2 = 0 then 1 else 0) else if c.f1 = 2 then (if vcmp v c.f2 < 0 then 1 else 0) else (if vcmp v c.f2 > 0 then 1 else 0)
theorem ite_range {p : Prop} [Decidable p] {a b : Int} (ha : a = -1 ∨ a = 0 ∨ a = 1) (hb : b = -1 ∨ b = 0 ∨ b = 1) : (if p then a else b) = -1 ∨ (if p then a else b) = 0 ∨ (if p then a else b) = 1 := by
  split
  · exact ha
  · exact hb
theorem oneV_range (v : Vc) (c : Cnd) : oneV v c = -1 ∨ oneV v c = 0 ∨ oneV v c = 1 := by 
  unfold oneV
  exact ite_range (ite_range (.inr (.inr rfl)) (.inr (.inl rfl))) (ite_range (ite_range (.inr (.inl rfl)) (.inr (.inr rfl))) (ite_range (.inl rfl) (ite_range (.inl rfl) (ite_range (ite_range (.inr (.inr rfl)) (.inr (.inl rfl))) (ite_range (ite_range (.inr (.inr rfl)) (.inr (.inl rfl))) (ite_range (.inr (.inr rfl)) (.inr (.inl rfl))))))))
theorem truth_is (b : Bool) : pred_truth.f b = some (if b = true then 1 else 0) := by unfold pred_truth.f; cases b <;> rfl
theorem one_is {v : Vc} {c : Cnd} (gv : v.Good) (gc : Cnd.Good c) (K : Nat) (hK : 51 ≤ K) : pred_one.f K v.f0 v.f1 v.f2 v.f3 c.f0 c.f1 c.f2.f0 c.f2.f1 c.f2.f2 c.f2.f3 = some (oneV v c) := by
  unfold pred_one.f oneV
  by_cases h4 : c.f1 = 4
  · rw [if_pos h4, if_pos h4, truth_is]; by_cases h : v.f0 = 0 <;> simp [h]
  rw [if_neg h4, if_neg h4]
  by_cases h5 : c.f1 = 5
  · rw [if_pos h5, if_pos h5, truth_is]; by_cases h : v.f0 = 0 <;> simp [h]
  rw [if_neg h5, if_neg h5]
  by_cases h : v.f0 = 0
  · rw [if_pos h, if_pos h]
  rw [if_neg h, if_neg h]
  by_cases h0 : c.f2.f0 = 0
  · rw [if_pos h0, if_pos h0]
  rw [if_neg h0, if_neg h0]
  rw [vc_value_cmp_is gv gc.2.2 K (by omega), Option.bind_some, truth_is, truth_is, truth_is]
  by_cases h1 : c.f1 = 1
  · rw [if_pos h1, if_pos h1]; simp
  rw [if_neg h1, if_neg h1]
  by_cases h2 : c.f1 = 2
  · rw [if_pos h2, if_pos h2]; simp
  · rw [if_neg h2, if_neg h2]; simp
/-- What all conditions up to one, and that one, come to. -/
def stepC (acc r : Int) : Int := if r = 0 then 0 else if r = 1 then acc else if acc = 1 then -1 else acc
def foldC (cols : List Col) (vals : List Vc) : Int → List Cnd → Int
  | acc, [] => acc
  | acc, c :: r => foldC cols vals (stepC acc (oneV (rd_T40 vals (pred_of.find c.f0 cols)) c)) r
def testV (cols : List Col) (vals : List Vc) (l : List Cnd) : Int × Int :=
  if checkL cols l = 0 then (if vals.length = cols.length then (foldC cols vals 1 l, 0) else (0, 1)) else (0, checkL cols l)
theorem checkC_zero {cols : List Col} {c : Cnd} (h : checkC cols c = 0) : 0 ≤ pred_of.find c.f0 cols ∧ 1 ≤ c.f1 ∧ c.f1 ≤ 5 ∧ mayV c.f2 = true := by
  unfold checkC at h
  by_cases h1 : pred_of.find c.f0 cols < 0
  · rw [if_pos h1] at h; cases h
  rw [if_neg h1] at h
  by_cases h2 : c.f1 < 1
  · rw [if_pos h2] at h; cases h
  rw [if_neg h2] at h
  by_cases h3 : c.f1 > 5
  · rw [if_pos h3] at h; cases h
  rw [if_neg h3] at h
  by_cases h4 : mayV c.f2 = false
  · rw [if_pos h4] at h; cases h
  · exact ⟨by omega, by omega, by omega, by simpa using h4⟩
theorem checkL_zero {cols : List Col} {c : Cnd} {r : List Cnd} (h : checkL cols (c :: r) = 0) : checkC cols c = 0 ∧ checkL cols r = 0 := by
  rw [checkL_cons] at h
  by_cases h1 : checkC cols c = 0
  · rw [if_pos h1] at h; exact ⟨h1, h⟩
  · rw [if_neg h1] at h; exact absurd h h1
theorem rdv_good {vals : List Vc} (g : ∀ v ∈ vals, v.Good) (i : Int) (h0 : 0 ≤ i) (h1 : i < (vals.length : Int)) : Vc.Good (rd_T40 vals i) := by
  unfold rd_T40
  have : i.toNat < vals.length := by omega
  rw [List.getD_eq_getElem?_getD, List.getElem?_eq_getElem this]
  exact g _ (List.getElem_mem this)
theorem test_from (cols : List Col) (vals : List Vc) (gv : ∀ v ∈ vals, v.Good) (l : List Cnd) (g : ∀ c ∈ l, Cnd.Good c) (hl : l.length ≤ maxLen) (hvc : vals.length = cols.length) (d : Nat) :
    ∀ (k i : Nat) (acc : Int), i + d = l.length → d + 60 ≤ k → checkL cols (l.drop i) = 0 → pred_Test.l0 k cols vals acc l (l.length : Int) (i : Int) = some (foldC cols vals acc (l.drop i), 0) := by
  induction d with
  | zero =>
    intro k i acc hi hk _
    obtain ⟨k, rfl⟩ : ∃ m, k = m + 1 := ⟨k - 1, by omega⟩
    simp only [pred_Test.l0]
    rw [if_neg (by omega), List.drop_eq_nil_of_le (by omega)]; rfl
  | succ d ih =>
    intro k i acc hi hk hz
    obtain ⟨k, rfl⟩ : ∃ m, k = m + 1 := ⟨k - 1, by omega⟩
    obtain ⟨c, hc, hm, hd⟩ := rdn_at l i (by omega)
    have gc := g c hm
    rw [hd] at hz ⊢
    obtain ⟨z1, z2⟩ := checkL_zero hz
    obtain ⟨r1, r2⟩ := find_range c.f0 cols
    obtain ⟨q1, q2, q3, q4⟩ := checkC_zero z1
    have gw := rdv_good gv (pred_of.find c.f0 cols) q1 (by omega)
    simp only [pred_Test.l0, pred_of.f]
    rw [if_pos (by omega), if_pos (by omega), if_pos (by omega), hc, Option.bind_some, if_pos q1, if_pos (by omega), one_is gw gc k (by omega), Option.bind_some, wrap_next (show i < l.length by omega) hl]
    have nx := fun a => ih k (i + 1) a (by omega) (by omega) z2
    show _ = some (foldC cols vals (stepC acc (oneV (rd_T40 vals (pred_of.find c.f0 cols)) c)) (l.drop (i + 1)), 0)
    unfold stepC
    generalize oneV (rd_T40 vals (pred_of.find c.f0 cols)) c = r
    by_cases e0 : r = 0
    · rw [if_pos e0, if_pos e0]; exact nx _
    rw [if_neg e0, if_neg e0]
    by_cases e1 : r = 1
    · rw [if_pos e1, if_pos e1]; exact nx _
    rw [if_neg e1, if_neg e1]
    by_cases e2 : acc = 1
    · rw [if_pos e2, if_pos e2]; exact nx _
    · rw [if_neg e2, if_neg e2]; exact nx _
theorem test_is (cols : List Col) (vals : List Vc) (gv : ∀ v ∈ vals, v.Good) (l : List Cnd) (g : ∀ c ∈ l, Cnd.Good c) (hl : l.length ≤ maxLen) (k : Nat) (hk : 2 * l.length + 60 ≤ k) : pred_Test.f k cols vals l = some (testV cols vals l) := by
  unfold pred_Test.f testV
  rw [check_is cols l g hl k (by omega), Option.bind_some]
  by_cases h : checkL cols l = 0
  · rw [if_pos h, if_pos h]
    by_cases h2 : vals.length = cols.length
    · rw [if_pos (by omega), if_pos h2]
      have := test_from cols vals gv l g hl h2 l.length k 0 1 (by omega) (by omega) (by rw [List.drop_zero]; exact h)
      rw [List.drop_zero] at this
      exact this
    · rw [if_neg (by omega), if_neg h2]
  · rw [if_neg h, if_neg h]
theorem foldC_range (cols : List Col) (vals : List Vc) : ∀ (l : List Cnd) (acc : Int), (acc = -1 ∨ acc = 0 ∨ acc = 1) → (foldC cols vals acc l = -1 ∨ foldC cols vals acc l = 0 ∨ foldC cols vals acc l = 1)
  | [], _, h => h
  | c :: r, acc, h => by
    refine foldC_range cols vals r _ ?_
    have := oneV_range (rd_T40 vals (pred_of.find c.f0 cols)) c
    unfold stepC
    generalize oneV _ _ = q at *
    rcases this with e | e | e <;> rcases h with h | h | h <;> rw [e, h] <;> simp
theorem vals_good (f : Int) (hf : (Lit.int .u64 f).wf = true) : Vc.Good (⟨3, 0, f, ⟨#[]⟩⟩ : Vc) := ⟨by show (Lit.int .i64 3).wf = true; decide, by show (Lit.int .i64 0).wf = true; decide, hf, by show 0 ≤ maxLen; unfold maxLen; omega⟩
theorem num_good (k n : Int) (hk : (Lit.int .i64 k).wf = true) (hn : (Lit.int .i64 n).wf = true) : Vc.Good (⟨k, n, 0, ⟨#[]⟩⟩ : Vc) := ⟨hk, hn, by show (Lit.int .u64 0).wf = true; decide, by show 0 ≤ maxLen; unfold maxLen; omega⟩
theorem cnd_good (b : UInt8) (s : Int) (v : Vc) (hs : (Lit.int .i64 s).wf = true) (g : v.Good) : Cnd.Good (⟨⟨#[b]⟩, s, v⟩ : Cnd) := ⟨by show 1 ≤ maxLen; unfold maxLen; omega, hs, g⟩
theorem all1 {α : Type} {p : α → Prop} {a : α} (h : p a) : ∀ x ∈ [a], p x := by
  intro x hx
  rcases List.mem_cons.1 hx with rfl | hx
  · exact h
  · cases hx
theorem all2 {α : Type} {p : α → Prop} {a b : α} (h : p a) (h2 : p b) : ∀ x ∈ [a, b], p x := by
  intro x hx
  rcases List.mem_cons.1 hx with rfl | hx
  · exact h
  · exact all1 h2 x hx
/-- The examples hold. -/
theorem pred_awake_true (k : Nat) (hk : 70 ≤ k) : falseworklaw18_awake.f k = some true := by
  unfold falseworklaw18_awake.f falseworklaw18_cols.f falseworklaw18_num.f
  have gv : ∀ v ∈ [(⟨0, 0, 0, ⟨#[]⟩⟩ : Vc), ⟨2, 2, 0, ⟨#[]⟩⟩], Vc.Good v := all2 (num_good 0 0 (by decide) (by decide)) (num_good 2 2 (by decide) (by decide))
  have g1 : ∀ c ∈ [(⟨⟨#[97]⟩, 1, ⟨0, 0, 0, ⟨#[]⟩⟩⟩ : Cnd)], Cnd.Good c := all1 (cnd_good 97 1 _ (by decide) (num_good 0 0 (by decide) (by decide)))
  have g2 : ∀ c ∈ [(⟨⟨#[97]⟩, 4, ⟨0, 0, 0, ⟨#[]⟩⟩⟩ : Cnd), ⟨⟨#[98]⟩, 1, ⟨2, 1, 0, ⟨#[]⟩⟩⟩], Cnd.Good c := all2 (cnd_good 97 4 _ (by decide) (num_good 0 0 (by decide) (by decide))) (cnd_good 98 1 _ (by decide) (num_good 2 1 (by decide) (by decide)))
  simp only [Option.bind_some]
  rw [test_is _ _ gv _ g1 (by show 1 ≤ maxLen; unfold maxLen; omega) k (by show 2 * 1 + 60 ≤ k; omega), test_is _ _ gv _ g2 (by show 2 ≤ maxLen; unfold maxLen; omega) k (by show 2 * 2 + 60 ≤ k; omega)]
  have e1 : testV [(⟨1, ⟨#[97]⟩, 2, 4, 0, ⟨0, 0, 0, ⟨#[]⟩⟩⟩ : Col), ⟨2, ⟨#[98]⟩, 2, 4, 0, ⟨0, 0, 0, ⟨#[]⟩⟩⟩] [(⟨0, 0, 0, ⟨#[]⟩⟩ : Vc), ⟨2, 2, 0, ⟨#[]⟩⟩] [(⟨⟨#[97]⟩, 1, ⟨0, 0, 0, ⟨#[]⟩⟩⟩ : Cnd)] = (-1, 0) := by decide +kernel
  have e2 : testV [(⟨1, ⟨#[97]⟩, 2, 4, 0, ⟨0, 0, 0, ⟨#[]⟩⟩⟩ : Col), ⟨2, ⟨#[98]⟩, 2, 4, 0, ⟨0, 0, 0, ⟨#[]⟩⟩⟩] [(⟨0, 0, 0, ⟨#[]⟩⟩ : Vc), ⟨2, 2, 0, ⟨#[]⟩⟩] [(⟨⟨#[97]⟩, 4, ⟨0, 0, 0, ⟨#[]⟩⟩⟩ : Cnd), ⟨⟨#[98]⟩, 1, ⟨2, 1, 0, ⟨#[]⟩⟩⟩] = (0, 0) := by decide +kernel
  rw [e1, e2]
  rfl
end Go.Proofs.Ytcjnmnelhpjhfaa.PA
