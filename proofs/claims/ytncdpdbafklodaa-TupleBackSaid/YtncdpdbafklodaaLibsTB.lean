/- What the functions of layer 1 come to on words of 64 bits: the one form, the place, the way back, the order. -/
import Derived.Test.YtncdpdbafklodaaTBx0
import Derived.Test.YtncdpdbafklodaaTBx2
import Derived.Test.YtncdpdbafklodaaTBx3
import Derived.Test.YtncdpdbafklodaaTBx4
import Derived.Test.YtncdpdbafklodaaTBx5
import Derived.Test.YtncdpdbafklodaaTBx6
import Derived.Test.YtncdpdbafklodaaTBx7
import Derived.Test.YtncdpdbafklodaaTBx8
import Derived.Test.YtncdpdbafklodaaTBx9
import Derived.Test.YtncdpdbafklodaaTBx10
import Derived.Test.YtncdpdbafklodaaPlains
namespace Go.Proofs.Ytncdpdbafklodaa.PA
open Go.RowKit Go.Proofs.YtncdpdbafklodaaW.PrintWords Go.Proofs.YtncdpdbafklodaaW.PrintLast Go.Proofs.Ytncdpdbafklodaa.Plain

theorem u64_nat {a : Int} (h : (Lit.int .u64 a).wf = true) : ∃ x : Nat, a = (x : Int) ∧ x < 18446744073709551616 := by
  have h1 : IntKind.u64.min ≤ a ∧ a ≤ IntKind.u64.max := by simpa [Lit.wf] using h
  have h2 : IntKind.u64.min = 0 := by decide
  have h3 : IntKind.u64.max = 18446744073709551615 := by decide
  rw [h2, h3] at h1
  exact ⟨a.toNat, by omega, by omega⟩
theorem flo_canon_is {x : Nat} (h : x < 18446744073709551616) : flo_Canon.f (x : Int) = some ((canon x : Nat) : Int) := by
  unfold flo_Canon.f fcmp canon
  rw [Int.toNat_natCast, show Int.toNat 0 = 0 from rfl, nan_test]
  by_cases h1 : 9218868437227405312 < x % 9223372036854775808
  · rw [if_pos (decide_eq_true h1), if_pos h1]; rfl
  · rw [if_neg (by simp [h1]), if_neg h1, zero_test x h1]
    by_cases h2 : x % 9223372036854775808 = 0
    · rw [if_pos (decide_eq_true h2)]
      by_cases h3 : x = 9223372036854775808
      · rw [if_pos h3]; rfl
      · rw [if_neg h3]
        have : x = 0 := by omega
        rw [this]; rfl
    · rw [if_neg (by simp [h2]), if_neg (by omega)]
theorem flo_order_is {x : Nat} (h : x < 18446744073709551616) : flo_Order.f (x : Int) = some ((ordr x : Nat) : Int) := by
  have hc := canon_lt h
  unfold flo_Order.f ordr
  rw [flo_canon_is h, Option.bind_some, and_top hc]
  by_cases h1 : canon x < 9223372036854775808
  · rw [if_pos h1, if_pos rfl, or_top hc, if_pos h1, if_pos h1]
    exact congrArg some (by omega)
  · rw [if_neg h1, if_neg (by decide), xor_all hc, if_neg h1]
    exact congrArg some (by omega)
theorem flo_back_is {x : Nat} (h : x < 18446744073709551616) : flo_Back.f (x : Int) = some (((back x).1 : Int), (back x).2) := by
  have hc : unplace x < 18446744073709551616 := unplace_lt h
  have key : (if x < 9223372036854775808 then (18446744073709551615 - (x : Int)) else ((x : Int) - 9223372036854775808)) = ((unplace x : Nat) : Int) := by unfold unplace; split <;> omega
  unfold flo_Back.f back
  rw [and_top h]
  by_cases h1 : x < 9223372036854775808
  · rw [if_pos h1] at key
    rw [if_pos h1, if_pos rfl, xor_all h, key, flo_canon_is hc, Option.bind_some]
    by_cases h2 : canon (unplace x) = unplace x
    · rw [if_pos (by rw [h2]), if_pos h2]
    · rw [if_neg (by omega), if_neg h2]; rfl
  · rw [if_neg h1] at key
    rw [if_neg h1, if_neg (by decide), xor_top h, if_neg h1, key, flo_canon_is hc, Option.bind_some]
    by_cases h2 : canon (unplace x) = unplace x
    · rw [if_pos (by rw [h2]), if_pos h2]
    · rw [if_neg (by omega), if_neg h2]; rfl
/-- Which of two numbers is below. -/
def cmpN (a b : Nat) : Int := if a < b then -1 else if b < a then 1 else 0
end Go.Proofs.Ytncdpdbafklodaa.PA
/- Which values may be: what the program's and the document's functions come to. -/
namespace Go.Proofs.Ytncdpdbafklodaa.PA
open Go.RowKit Go.Proofs.YtncdpdbafklodaaW.PrintWords Go.Proofs.YtncdpdbafklodaaW.PrintLast Go.Proofs.Ytncdpdbafklodaa.Plain

theorem toList_data (s : ByteArray) : s.toList = s.data.toList := ByteArray.toList_eq s
theorem size_data (s : ByteArray) : s.size = s.data.toList.length := by rw [Array.length_toList]; rfl
theorem dec_beq (a b : Int) : (a == b) = decide (a = b) := by
  by_cases h : a = b
  · rw [h, decide_eq_true rfl]; simp
  · rw [decide_eq_false h]; simpa using h
theorem dec_cast (f : Nat) : decide ((f : Int) = 0) = decide (f = 0) := by
  by_cases h : f = 0
  · rw [h]; rfl
  · rw [decide_eq_false h, decide_eq_false (by omega)]
theorem isE (l : List UInt8) : (l == ([] : List UInt8)) = l.isEmpty := by cases l <;> rfl
theorem value_may_is (k n : Int) {f : Nat} (hf : f < 18446744073709551616) (s : ByteArray) : value_May.f k n (f : Int) s = some (mayB k n f s.data.toList) := by
  unfold value_May.f mayB
  rw [toList_data, size_data]
  by_cases h0 : k = 0
  · rw [if_pos h0, if_pos h0, dec_beq, dec_beq, dec_cast]
  rw [if_neg h0, if_neg h0]
  by_cases h1 : k = 1
  · rw [if_pos h1, if_pos h1, dec_beq, dec_cast]
    by_cases n0 : n = 0
    · rw [if_pos n0, n0]; rfl
    · rw [if_neg n0]
      by_cases n1 : n = 1
      · rw [if_pos n1, n1]; rfl
      · rw [if_neg n1, decide_eq_false n0, decide_eq_false n1]; rfl
  rw [if_neg h1, if_neg h1]
  by_cases h2 : k = 2
  · rw [if_pos h2, if_pos h2, dec_beq, dec_cast]
  rw [if_neg h2, if_neg h2]
  by_cases h3 : k = 3
  · rw [if_pos h3, if_pos h3, flo_canon_is hf, Option.bind_some, dec_beq]
    by_cases hc : canon f = f
    · rw [if_pos (by omega), decide_eq_true hc, Bool.true_and]
    · rw [if_neg (by omega), decide_eq_false hc, Bool.false_and, Bool.and_false]
  rw [if_neg h3, if_neg h3]
  have key : (if ((s.data.toList.length : Nat) : Int) > 40 then some false else some (n == 0 && (f : Int) == 0)) = some (decide (n = 0) && (decide (f = 0) && decide (s.data.toList.length ≤ 40))) := by
    rw [dec_beq, dec_beq, dec_cast]
    by_cases hl : s.data.toList.length ≤ 40
    · rw [if_neg (by omega), decide_eq_true hl, Bool.and_true]
    · rw [if_pos (by omega), decide_eq_false hl, Bool.and_false, Bool.and_false]
  by_cases h4 : k = 4
  · rw [if_pos h4, if_pos h4, key]
  rw [if_neg h4, if_neg h4]
  by_cases h5 : k = 5
  · rw [if_pos h5, if_pos h5, key]
  rw [if_neg h5, if_neg h5]
end Go.Proofs.Ytncdpdbafklodaa.PA
/- The bytes of values: what the program's and the document's functions come to. -/
namespace Go.Proofs.Ytncdpdbafklodaa.PA
open Go.RowKit Go.Proofs.YtncdpdbafklodaaW.PrintWords Go.Proofs.YtncdpdbafklodaaW.PrintLast Go.Proofs.Ytncdpdbafklodaa.Plain

/-- Bytes as whole numbers. -/
def bytesI (l : List UInt8) : List Int := l.map fun b => (b.toNat : Int)
theorem str_bytesI (l : List UInt8) : strOfNums (bytesI l) = ⟨l.toArray⟩ := by
  unfold strOfNums bytesI
  rw [List.map_map]
  congr 2
  conv => rhs; rw [← List.map_id l]
  apply List.map_congr_left
  intro b _
  show UInt8.ofNat ((b.toNat : Int)).toNat = b
  rw [Int.toNat_natCast, UInt8.ofNat_toNat]
theorem bytesI_append (a b : List UInt8) : bytesI (a ++ b) = bytesI a ++ bytesI b := by unfold bytesI; rw [List.map_append]
theorem bytesI_length (a : List UInt8) : (bytesI a).length = a.length := by unfold bytesI; rw [List.length_map]
theorem byteI (d u : Nat) : ((UInt8.ofNat (u / d % 256)).toNat : Int) = (u : Int) / (d : Int) % 256 := by
  rw [UInt8.toNat_ofNat', ← Int.natCast_ediv]
  generalize u / d = q
  omega
theorem bytesI_be8 (u : Nat) : bytesI (be8 u) = [(u : Int) / 72057594037927936 % 256, (u : Int) / 281474976710656 % 256, (u : Int) / 1099511627776 % 256, (u : Int) / 4294967296 % 256, (u : Int) / 16777216 % 256, (u : Int) / 65536 % 256, (u : Int) / 256 % 256, (u : Int) % 256] := by
  unfold bytesI be8
  simp only [List.map_cons, List.map_nil]
  have e := fun d => byteI d u
  have e8 : ((UInt8.ofNat (u % 256)).toNat : Int) = (u : Int) % 256 := by
    have := byteI 1 u
    rw [Nat.div_one] at this
    rw [this]; simp
  rw [e, e, e, e, e, e, e, e8]; rfl
theorem shr8 (u : Nat) (j : Nat) (hj : j ≤ 64) : shr .u64 (u : Int) (j : Int) = (u : Int) / ((2 ^ j : Nat) : Int) := by
  unfold shr
  rw [Int.toNat_natCast]
  simp only [IntKind.bits]
  rw [Nat.min_eq_left hj]
  simp
theorem value_eight_is (u : Nat) (k : Nat) (hk : 9 ≤ k) : value_eight.f k (u : Int) = some (bytesI (be8 u)) := by
  obtain ⟨k, rfl⟩ : ∃ m, k = m + 9 := ⟨k - 9, by omega⟩
  unfold value_eight.f
  rw [if_pos (by decide), Option.bind_some, bytesI_be8]
  have hs : ∀ i : Nat, i ≤ 7 → wrap64 (8 * wrap64 (7 - (i : Int))) = ((8 * (7 - i) : Nat) : Int) := fun i hi => by unfold wrap64; omega
  have step : ∀ (i m : Nat) (l : List Int), i ≤ 7 → l.length = 8 → value_eight.l0 (m + 1) (u : Int) l 8 (i : Int) = value_eight.l0 m (u : Int) (l.set i ((u : Int) / ((2 ^ (8 * (7 - i)) : Nat) : Int) % 256)) 8 ((i + 1 : Nat) : Int) := by
    intro i m l hi hl
    simp only [value_eight.l0]
    rw [if_pos (by omega), hs i hi, if_pos (by omega), if_pos (by omega), if_pos (by omega), shr8 u _ (by omega), Int.toNat_natCast]
    congr 1
    unfold wrap64; omega
  have hr : (List.replicate 8 (0 : Int)) = [0, 0, 0, 0, 0, 0, 0, 0] := rfl
  rw [hr]
  show value_eight.l0 (k + 9) (u : Int) [0, 0, 0, 0, 0, 0, 0, 0] 8 ((0 : Nat) : Int) = _
  rw [step 0 (k + 8) _ (by decide) rfl, step 1 (k + 7) _ (by decide) rfl, step 2 (k + 6) _ (by decide) rfl, step 3 (k + 5) _ (by decide) rfl, step 4 (k + 4) _ (by decide) rfl, step 5 (k + 3) _ (by decide) rfl, step 6 (k + 2) _ (by decide) rfl, step 7 (k + 1) _ (by decide) rfl]
  simp only [value_eight.l0]
  rw [if_neg (by omega)]
  simp [List.set]
theorem bt_data (s : ByteArray) (i : Nat) (h : i < s.size) : ∃ b : UInt8, bt s (i : Int) = ((b.toNat : Nat) : Int) ∧ s.data.toList.drop i = b :: s.data.toList.drop (i + 1) := by
  refine ⟨s[i], ?_, ?_⟩
  · unfold bt; simp [h]
  · rw [List.drop_eq_getElem_cons (by simpa using h)]; rfl
theorem byte_zero (b : UInt8) : ((b.toNat : Nat) : Int) = 0 ↔ b = 0 := by
  constructor
  · intro h; exact UInt8.toNat_inj.1 (by simpa using h)
  · rintro rfl; rfl
theorem esc_from (s : ByteArray) (hs : s.size ≤ 1000000) (d : Nat) : ∀ (k i : Nat) (acc : List UInt8), i + d = s.size → d < k → acc.length ≤ 10 + 2 * i →
    value_escaped.l0 k s (bytesI acc) (s.size : Int) (i : Int) = some (bytesI (acc ++ (esc (s.data.toList.drop i) ++ [0, 1]))) := by
  induction d with
  | zero =>
    intro k i acc hi hk hl
    obtain ⟨k, rfl⟩ : ∃ m, k = m + 1 := ⟨k - 1, by omega⟩
    simp only [value_escaped.l0, Option.bind_some]
    rw [if_neg (by omega), if_pos (by rw [bytesI_length]; show acc.length + 2 < _; omega), List.drop_eq_nil_of_le (by rw [← size_data]; omega)]
    rw [bytesI_append]; rfl
  | succ d ih =>
    intro k i acc hi hk hl
    obtain ⟨k, rfl⟩ : ∃ m, k = m + 1 := ⟨k - 1, by omega⟩
    obtain ⟨b, hb, hd⟩ := bt_data s i (by omega)
    have hw : wrap64 ((i : Int) + 1) = ((i + 1 : Nat) : Int) := by unfold wrap64; omega
    simp only [value_escaped.l0, Option.bind_some]
    rw [if_pos (by omega), if_pos (by omega), if_pos (by omega), if_pos (by rw [bytesI_length]; omega), hb, hw, hd]
    have e1 : bytesI acc ++ [((b.toNat : Nat) : Int)] = bytesI (acc ++ [b]) := by rw [bytesI_append]; rfl
    rw [e1]
    simp only [esc]
    by_cases h0 : b = 0
    · rw [if_pos ((byte_zero b).2 h0), if_pos (by rw [bytesI_length, List.length_append]; show acc.length + 1 < _; omega), if_pos h0]
      have e2 : bytesI (acc ++ [b]) ++ [255] = bytesI (acc ++ [b] ++ [255]) := by rw [bytesI_append (acc ++ [b])]; rfl
      rw [e2, ih k (i + 1) _ (by omega) (by omega) (by simp; omega), h0]
      simp
    · rw [if_neg (fun h => h0 ((byte_zero b).1 h)), if_neg h0, ih k (i + 1) _ (by omega) (by omega) (by simp; omega)]
      simp
theorem value_escaped_is (c : UInt8) (s : ByteArray) (hs : s.size ≤ 1000000) (k : Nat) (hk : s.size < k) : value_escaped.f k (c.toNat : Int) s = some (bytesI (c :: (esc s.data.toList ++ [0, 1]))) := by
  unfold value_escaped.f
  have := esc_from s hs s.size k 0 [c] (by omega) hk (by show 1 ≤ _; omega)
  rw [List.drop_zero] at this
  exact this
theorem biased_is {n : Int} (h0 : -9223372036854775808 ≤ n) (h1 : n ≤ 9223372036854775807) : Go.bits .xor .u64 (IntKind.u64.wrap n) 9223372036854775808 = ((biased n : Nat) : Int) := by
  rw [wrap_u64]
  obtain ⟨x, hx, hl⟩ : ∃ x : Nat, n % 18446744073709551616 = (x : Int) ∧ x < 18446744073709551616 := ⟨(n % 18446744073709551616).toNat, by omega, by omega⟩
  rw [hx, xor_top hl]
  unfold biased
  split <;> omega
theorem i64_bounds {n : Int} (h : (Lit.int .i64 n).wf = true) : -9223372036854775808 ≤ n ∧ n ≤ 9223372036854775807 := by
  have h1 : IntKind.i64.min ≤ n ∧ n ≤ IntKind.i64.max := by simpa [Lit.wf] using h
  have h2 : IntKind.i64.min = -9223372036854775808 := by decide
  have h3 : IntKind.i64.max = 9223372036854775807 := by decide
  rw [h2, h3] at h1
  exact h1
/-- A list of bytes as a text. -/
def txt (l : List UInt8) : ByteArray := ⟨l.toArray⟩
theorem txt_data (l : List UInt8) : (txt l).data.toList = l := by unfold txt; simp
theorem txt_of (s : ByteArray) : txt s.data.toList = s := by unfold txt; apply ByteArray.ext; simp
theorem txt_size (l : List UInt8) : (txt l).size = l.length := by rw [size_data, txt_data]
theorem txt_append (a b : List UInt8) : txt a ++ txt b = txt (a ++ b) := by
  apply ByteArray.ext; rw [ByteArray.data_append, ← Array.toList_inj, Array.toList_append]; simp [txt]
/-- What the program's Put comes to. -/
theorem value_put_is {k n : Int} {f : Nat} (hn : (Lit.int .i64 n).wf = true) (hf : f < 18446744073709551616) (s : ByteArray) (K : Nat) (hK : 50 ≤ K) :
    value_Put.f K k n (f : Int) s = some (txt (putV k n f s.data.toList).1, (putV k n f s.data.toList).2) := by
  obtain ⟨n0, n1⟩ := i64_bounds hn
  unfold value_Put.f putV
  rw [value_may_is k n hf s, Option.bind_some]
  by_cases hm : mayB k n f s.data.toList = true
  · rw [if_pos hm, if_pos hm]
    unfold encV
    by_cases h0 : k = 0
    · rw [if_pos h0, if_pos h0]; rfl
    rw [if_neg h0, if_neg h0]
    by_cases h1 : k = 1
    · rw [if_pos h1, if_pos h1]
      have hb : n = 0 ∨ n = 1 := by
        unfold mayB at hm
        rw [if_neg h0, if_pos h1] at hm
        simp at hm
        exact hm.1
      rcases hb with rfl | rfl <;> rfl
    rw [if_neg h1, if_neg h1]
    by_cases h2 : k = 2
    · rw [if_pos h2, if_pos h2, biased_is n0 n1, value_eight_is _ K (by omega)]
      simp only [Option.bind_some]
      rw [if_pos (by rw [bytesI_length]; show 1 + 8 < _; omega)]
      have : ([4] : List Int) ++ bytesI (be8 (biased n)) = bytesI (4 :: be8 (biased n)) := rfl
      rw [this, str_bytesI]; rfl
    rw [if_neg h2, if_neg h2]
    by_cases h3 : k = 3
    · rw [if_pos h3, if_pos h3, flo_order_is hf]
      simp only [Option.bind_some]
      rw [value_eight_is _ K (by omega)]
      simp only [Option.bind_some]
      rw [if_pos (by rw [bytesI_length]; show 1 + 8 < _; omega)]
      have : ([5] : List Int) ++ bytesI (be8 (ordr f)) = bytesI (5 :: be8 (ordr f)) := rfl
      rw [this, str_bytesI]; rfl
    rw [if_neg h3, if_neg h3]
    have hl : s.size ≤ 40 := by
      rw [size_data]
      unfold mayB at hm
      rw [if_neg h0, if_neg h1, if_neg h2, if_neg h3] at hm
      by_cases h4 : k = 4
      · rw [if_pos h4] at hm; simp at hm; simpa using hm.2.2
      · rw [if_neg h4] at hm
        by_cases h5 : k = 5
        · rw [if_pos h5] at hm; simp at hm; simpa using hm.2.2
        · rw [if_neg h5] at hm; cases hm
    by_cases h4 : k = 4
    · rw [if_pos h4, if_pos h4]
      have := value_escaped_is 6 s (by omega) K (by omega)
      have h6 : ((6 : UInt8).toNat : Int) = 6 := rfl
      rw [h6] at this
      rw [this, Option.bind_some, str_bytesI]; rfl
    · rw [if_neg h4, if_neg h4]
      have := value_escaped_is 7 s (by omega) K (by omega)
      have h6 : ((7 : UInt8).toNat : Int) = 7 := rfl
      rw [h6] at this
      rw [this, Option.bind_some, str_bytesI]; rfl
  · rw [if_neg hm, if_neg hm]; rfl
end Go.Proofs.Ytncdpdbafklodaa.PA
/- The document's bytes of values; the document's examples. -/
namespace Go.Proofs.Ytncdpdbafklodaa.PA
open Go.RowKit Go.Proofs.YtncdpdbafklodaaW.PrintWords Go.Proofs.YtncdpdbafklodaaW.PrintLast Go.Proofs.Ytncdpdbafklodaa.Plain

end Go.Proofs.Ytncdpdbafklodaa.PA
/- Of two values which is below: what the program's and the document's functions come to. -/
namespace Go.Proofs.Ytncdpdbafklodaa.PA
open Go.RowKit Go.Proofs.YtncdpdbafklodaaW.PrintWords Go.Proofs.YtncdpdbafklodaaW.PrintLast Go.Proofs.Ytncdpdbafklodaa.Plain

/-- -1, 0, 1 of two values; 0, if one may not be. -/
def cmpV (k n : Int) (f : Nat) (s : List UInt8) (k' n' : Int) (f' : Nat) (s' : List UInt8) : Int :=
  if mayB k n f s = true then if mayB k' n' f' s' = true then cmpL (encV k n f s) (encV k' n' f' s') else 0 else 0
theorem cmpV_turn (k n : Int) (f : Nat) (s : List UInt8) (k' n' : Int) (f' : Nat) (s' : List UInt8) : cmpV k' n' f' s' k n f s = -cmpV k n f s k' n' f' s' := by
  unfold cmpV
  by_cases h : mayB k n f s = true <;> by_cases h' : mayB k' n' f' s' = true <;> simp [h, h', cmpL_turn (encV k n f s)]
theorem cmpL_bounds (a b : List UInt8) : -1 ≤ cmpL a b ∧ cmpL a b ≤ 1 := by unfold cmpL; split <;> (try split) <;> omega
theorem cmpV_bounds (k n : Int) (f : Nat) (s : List UInt8) (k' n' : Int) (f' : Nat) (s' : List UInt8) : -1 ≤ cmpV k n f s k' n' f' s' ∧ cmpV k n f s k' n' f' s' ≤ 1 := by
  unfold cmpV
  have := cmpL_bounds (encV k n f s) (encV k' n' f' s')
  split <;> (try split) <;> omega
end Go.Proofs.Ytncdpdbafklodaa.PA
/- Values read from bytes: what the program's and the document's functions come to. -/
namespace Go.Proofs.Ytncdpdbafklodaa.PA
open Go.RowKit Go.Proofs.YtncdpdbafklodaaW.PrintWords Go.Proofs.YtncdpdbafklodaaW.PrintLast Go.Proofs.Ytncdpdbafklodaa.Plain

theorem extract_tail (s : ByteArray) : (s.extract 1 s.size).data.toList = s.data.toList.drop 1 := by
  rw [ByteArray.data_extract, Array.toList_extract]
  simp only [List.extract]
  exact List.take_of_length_le (by rw [List.length_drop, ← size_data]; exact Nat.le_refl _)
theorem tail_size (s : ByteArray) : (s.extract 1 s.size).size = s.size - 1 := by
  rw [size_data, extract_tail, List.length_drop, ← size_data]
theorem byte_is (c d : UInt8) : ((c.toNat : Nat) : Int) = ((d.toNat : Nat) : Int) ↔ c = d := by
  constructor
  · intro h; exact UInt8.toNat_inj.1 (by omega)
  · rintro rfl; rfl
theorem byte_1 (c : UInt8) : ((c.toNat : Nat) : Int) = 1 ↔ c = 1 := byte_is c 1
theorem byte_2 (c : UInt8) : ((c.toNat : Nat) : Int) = 2 ↔ c = 2 := byte_is c 2
theorem byte_3 (c : UInt8) : ((c.toNat : Nat) : Int) = 3 ↔ c = 3 := byte_is c 3
theorem byte_4 (c : UInt8) : ((c.toNat : Nat) : Int) = 4 ↔ c = 4 := byte_is c 4
theorem byte_5 (c : UInt8) : ((c.toNat : Nat) : Int) = 5 ↔ c = 5 := byte_is c 5
theorem byte_6 (c : UInt8) : ((c.toNat : Nat) : Int) = 6 ↔ c = 6 := byte_is c 6
theorem byte_7 (c : UInt8) : ((c.toNat : Nat) : Int) = 7 ↔ c = 7 := byte_is c 7
theorem byte_255 (c : UInt8) : ((c.toNat : Nat) : Int) = 255 ↔ c = 255 := byte_is c 255
theorem bytesI_snoc (a : List UInt8) (b : UInt8) : bytesI a ++ [((b.toNat : Nat) : Int)] = bytesI (a ++ [b]) := by rw [bytesI_append]; rfl
theorem or_byte (x : Nat) (hx : x < 72057594037927936) (b : UInt8) : Go.bits .or .u64 (IntKind.u64.wrap ((x : Int) * 256)) (IntKind.u64.wrap ((b.toNat : Nat) : Int)) = ((x * 256 + b.toNat : Nat) : Int) := by
  have hb := b.toNat_lt
  rw [wrap_u64, wrap_u64, show ((x : Int) * 256) % 18446744073709551616 = ((x * 256 : Nat) : Int) by omega, show ((b.toNat : Nat) : Int) % 18446744073709551616 = ((b.toNat : Nat) : Int) by omega]
  rw [or_u64 (a := x * 256) (b := b.toNat) (by omega) (by omega)]
  have h : 256 * x + b.toNat = 256 * x ||| b.toNat := Nat.two_pow_add_eq_or_of_lt (i := 8) hb x
  rw [Nat.mul_comm x 256, ← h]
theorem word_from (s : ByteArray) (hs : s.size ≤ 1000000) (d : Nat) : ∀ (k i x : Nat), i + d = 8 → d < k → 8 ≤ s.size → x < 256 ^ i →
    value_word.l0 k s (x : Int) (i : Int) = some ((wordN d (s.data.toList.drop i) x : Nat) : Int) := by
  induction d with
  | zero =>
    intro k i x hi hk hl hx
    obtain ⟨k, rfl⟩ : ∃ m, k = m + 1 := ⟨k - 1, by omega⟩
    simp only [value_word.l0]
    rw [if_neg (by omega)]; rfl
  | succ d ih =>
    intro k i x hi hk hl hx
    obtain ⟨k, rfl⟩ : ∃ m, k = m + 1 := ⟨k - 1, by omega⟩
    obtain ⟨b, hb, hd⟩ := bt_data s i (by omega)
    have h7 : 256 ^ i ≤ 256 ^ 7 := Nat.pow_le_pow_right (by decide) (by omega)
    have e7 : 256 ^ 7 = 72057594037927936 := by decide
    have hb' := b.toNat_lt
    simp only [value_word.l0]
    rw [if_pos (by omega), if_pos (by omega), if_pos (by omega), hb, or_byte x (by omega), show wrap64 ((i : Int) + 1) = ((i + 1 : Nat) : Int) by unfold wrap64; omega, hd]
    exact ih k (i + 1) _ (by omega) (by omega) hl (by rw [Nat.pow_succ]; omega)
theorem value_word_is (s : ByteArray) (hs : s.size ≤ 1000000) (h8 : 8 ≤ s.size) (k : Nat) (hk : 9 ≤ k) : value_word.f k s = some ((wordN 8 s.data.toList 0 : Nat) : Int) := by
  have := word_from s hs 8 k 0 0 rfl hk h8 (by decide)
  rw [List.drop_zero] at this
  exact this
/-- What plain tells. -/
def plainA (acc : List UInt8) (i : Nat) : Option (List UInt8 × Nat) → ByteArray × Int
  | none => (⟨#[]⟩, -1)
  | some q => (txt (acc ++ q.1), ((i + q.2 : Nat) : Int))
/-- What text tells. -/
def textA (acc : List UInt8) (i : Nat) : Option (List UInt8 × Nat) → ByteArray × Int × Bool
  | none => (⟨#[]⟩, 0, false)
  | some q => (txt (acc ++ q.1), ((i + q.2 : Nat) : Int), true)
theorem plainA_step (acc : List UInt8) (i j : Nat) (a : UInt8) (o : Option (List UInt8 × Nat)) : plainA acc i (o.map fun q => (a :: q.1, q.2 + j)) = plainA (acc ++ [a]) (i + j) o := by
  cases o with
  | none => rfl
  | some q => simp [plainA]; omega
theorem textA_step (acc : List UInt8) (i j : Nat) (a : UInt8) (o : Option (List UInt8 × Nat)) : textA acc i (o.map fun q => (a :: q.1, q.2 + j)) = textA (acc ++ [a]) (i + j) o := by
  cases o with
  | none => rfl
  | some q => simp [textA]; omega
theorem plain_from (s : ByteArray) (hs : s.size ≤ 1000000) (d : Nat) : ∀ (k i : Nat) (acc : List UInt8), s.size ≤ i + d → i ≤ s.size → d < k → acc.length ≤ i →
    value_plain.l0 k s (bytesI acc) (i : Int) = some (plainA acc i (unesc (s.data.toList.drop i))) := by
  induction d using Nat.strongRecOn with
  | _ d ih =>
    intro k i acc hi hi2 hk hl
    obtain ⟨k, rfl⟩ : ∃ m, k = m + 1 := ⟨k - 1, by omega⟩
    have hw : wrap64 ((i : Int) + 1) = ((i + 1 : Nat) : Int) := by unfold wrap64; omega
    have hw2 : wrap64 (((i + 1 : Nat) : Int) + 1) = ((i + 2 : Nat) : Int) := by unfold wrap64; omega
    simp only [value_plain.l0]
    rw [hw, hw2]
    by_cases h : i + 1 < s.size
    · obtain ⟨a, ha, hd⟩ := bt_data s i (by omega)
      obtain ⟨b, hb, hd2⟩ := bt_data s (i + 1) (by omega)
      rw [if_pos (by omega), if_pos (by omega), if_pos (by omega), ha, hb, bytesI_snoc, hd]
      by_cases h0 : a = 0
      · rw [if_pos ((byte_zero a).2 h0), if_pos (by omega), h0, hd2]
        by_cases h1 : b = 1
        · rw [if_pos ((byte_1 b).2 h1), h1, unesc_end, str_bytesI]; simp [plainA, txt]
        · rw [if_neg (fun e => h1 ((byte_1 b).1 e))]
          by_cases h2 : b = 255
          · rw [if_pos ((byte_255 b).2 h2), if_pos (by rw [bytesI_length]; omega), h2, unesc_zero, plainA_step, show bytesI acc ++ [0] = bytesI (acc ++ [0]) from bytesI_snoc acc 0]
            exact ih (d - 2) (by omega) k (i + 2) _ (by omega) (by omega) (by omega) (by simp; omega)
          · rw [if_neg (fun e => h2 ((byte_255 b).1 e)), unesc_bad h1 h2]; rfl
      · rw [if_neg (fun e => h0 ((byte_zero a).1 e)), if_pos (by rw [bytesI_length]; omega), unesc_other h0, plainA_step]
        exact ih (d - 1) (by omega) k (i + 1) _ (by omega) (by omega) (by omega) (by simp; omega)
    · rw [if_neg (by omega)]
      have hn : (s.data.toList.drop i).length ≤ 1 := by rw [List.length_drop, ← size_data]; omega
      have : unesc (s.data.toList.drop i) = none := by
        revert hn
        generalize s.data.toList.drop i = l
        intro hn
        match l, hn with
        | [], _ => rfl
        | [_], _ => rfl
      rw [this]; rfl
theorem value_plain_is (s : ByteArray) (hs : s.size ≤ 1000000) (k : Nat) (hk : s.size < k) : value_plain.f k s = some (plainA [] 0 (unesc s.data.toList)) := by
  have := plain_from s hs s.size k 0 [] (by omega) (by omega) hk (by decide)
  rw [List.drop_zero] at this
  exact this
/-- What Get tells. -/
def getA : Option (V × Nat) → Int × Int × Int × ByteArray × Int × Int
  | none => (0, 0, 0, ⟨#[]⟩, 0, 3)
  | some q => (q.1.k, q.1.n, ((q.1.f : Nat) : Int), txt q.1.s, ((q.2 : Nat) : Int), 0)
theorem head_data (s : ByteArray) (c : UInt8) (r : List UInt8) (h : s.data.toList = c :: r) : bt s 0 = ((c.toNat : Nat) : Int) ∧ s.size = r.length + 1 ∧ (s.extract 1 s.size).data.toList = r := by
  have hz : s.size = r.length + 1 := by rw [size_data, h]; rfl
  obtain ⟨b, hb, hd⟩ := bt_data s 0 (by omega)
  rw [List.drop_zero, h] at hd
  obtain ⟨rfl, _⟩ := List.cons.inj hd
  refine ⟨hb, hz, ?_⟩
  rw [extract_tail, h]; rfl
theorem xor_word {u : Nat} (h : u < 18446744073709551616) : wrap64 (Go.bits .xor .u64 (u : Int) 9223372036854775808) = (u : Int) - 9223372036854775808 := by
  rw [xor_top h]; unfold wrap64; split <;> omega
theorem value_get_is (s : ByteArray) (hs : s.size ≤ 1000000) (K : Nat) (hK : s.size + 60 ≤ K) : value_Get.f K s = some (getA (decV s.data.toList)) := by
  obtain ⟨K, rfl⟩ : ∃ m, K = m + 3 := ⟨K - 3, by omega⟩
  have may : ∀ k n, value_May.f k n 0 (⟨#[]⟩ : ByteArray) = some (mayB k n 0 []) := fun k n => value_may_is k n (f := 0) (by decide) ⟨#[]⟩
  unfold value_Get.f
  rw [toList_data]
  cases hl : s.data.toList with
  | nil => rw [if_pos rfl]; rfl
  | cons c r =>
    obtain ⟨hb, hz, ht⟩ := head_data s c r hl
    have htz : (s.extract 1 s.size).size = r.length := by rw [size_data, ht]
    rw [if_neg (by simp), if_pos (by omega), hb]
    simp only [decV]
    by_cases h1 : c = 1
    · rw [if_pos ((byte_1 c).2 h1), if_pos h1, may]; rfl
    rw [if_neg (fun e => h1 ((byte_1 c).1 e)), if_neg h1]
    by_cases h2 : c = 2
    · rw [if_pos ((byte_2 c).2 h2), if_pos h2]
      simp only [value_Get.j0]
      rw [h2, if_pos (by decide), may]; rfl
    rw [if_neg (fun e => h2 ((byte_2 c).1 e)), if_neg h2]
    by_cases h3 : c = 3
    · rw [if_pos h3]
      simp only [value_Get.j0]
      rw [h3, if_pos (by decide), may]; rfl
    have n3 : (((c.toNat : Nat) : Int) == 3) = false := beq_eq_false_iff_ne.2 (fun e => h3 ((byte_3 c).1 e))
    rw [if_neg h3, n3]
    simp only [value_Get.j0, Bool.false_eq_true, if_false]
    by_cases h4 : c = 4
    · rw [if_pos ((byte_4 c).2 h4), if_pos h4]
      simp only [value_Get.j1]
      by_cases h8 : 8 ≤ r.length
      · rw [if_pos h8, if_pos (by rw [decide_eq_true_eq]; omega), if_pos (by omega), value_word_is _ (by omega) (by omega) _ (by omega), ht, Option.bind_some, xor_word (wordN_lt8 r)]
        rw [may]; rfl
      · rw [if_neg h8, if_neg (by rw [decide_eq_true_eq]; omega), if_neg (fun e => by rw [h4] at e; exact absurd e (by decide))]
        simp only [value_Get.j2, Bool.false_eq_true, if_false]
        rw [h4]; rfl
    rw [if_neg (fun e => h4 ((byte_4 c).1 e)), if_neg h4]
    simp only [value_Get.j1, Bool.false_eq_true, if_false]
    by_cases h5 : c = 5
    · rw [if_pos ((byte_5 c).2 h5), if_pos h5]
      simp only [value_Get.j2]
      by_cases h8 : 8 ≤ r.length
      · rw [if_pos h8, if_pos (by rw [decide_eq_true_eq]; omega), if_pos (by omega), value_word_is _ (by omega) (by omega) _ (by omega), ht, Option.bind_some, flo_back_is (wordN_lt8 r), Option.bind_some]
        have hw := wordN_lt8 r
        by_cases hbk : (back (wordN 8 r 0)).2 = true
        · obtain ⟨b1, b2, b3⟩ := back_is hw hbk
          rw [if_pos hbk, if_pos hbk]
          have hm := V.may (.flo (back (wordN 8 r 0)).1) ⟨b1, b2⟩
          have := value_may_is 3 0 b1 ⟨#[]⟩
          rw [this]
          have hm' : mayB 3 0 (back (wordN 8 r 0)).1 (⟨#[]⟩ : ByteArray).data.toList = true := hm
          rw [hm']; rfl
        · rw [if_neg hbk, if_neg hbk]; rfl
      · rw [if_neg h8, if_neg (by rw [decide_eq_true_eq]; omega), if_neg (fun e => by rw [h5] at e; exact absurd e (by decide)), if_neg (fun e => by rw [h5] at e; exact absurd e (by decide))]
        rfl
    rw [if_neg (fun e => h5 ((byte_5 c).1 e)), if_neg h5]
    simp only [value_Get.j2, Bool.false_eq_true, if_false]
    have hp := value_plain_is (s.extract 1 s.size) (by omega) K (by omega)
    rw [ht] at hp
    by_cases h6 : c = 6
    · rw [if_pos ((byte_6 c).2 h6), if_pos h6, if_pos (by omega), hp, Option.bind_some]
      cases e : unesc r with
      | none => rfl
      | some q =>
        obtain ⟨q1, q2⟩ := unesc_is r.length r (Nat.le_refl _) q.1 q.2 e
        have hq : q.2 ≤ 1000000 := by have := congrArg List.length q2; simp at this; omega
        simp only [plainA, List.nil_append, Nat.zero_add, Option.bind_some]
        have hm := value_may_is 4 0 (f := 0) (by decide) (txt q.1)
        rw [show ((0 : Nat) : Int) = 0 from rfl, txt_data] at hm
        rw [if_neg (by omega), hm, Option.bind_some]
        by_cases h40 : q.1.length ≤ 40
        · rw [if_pos (show mayB 4 0 0 q.1 = true from V.may (.raw q.1) h40), if_pos h40]
          simp only [getA, V.k, V.n, V.f, V.s]
          rw [show wrap64 ((q.2 : Int) + 1) = ((q.2 + 1 : Nat) : Int) by unfold wrap64; omega]; rfl
        · rw [if_neg (by unfold mayB; simp; omega), if_neg h40]; rfl
    rw [if_neg (fun e => h6 ((byte_6 c).1 e)), if_neg h6]
    by_cases h7 : c = 7
    · rw [if_pos ((byte_7 c).2 h7), if_pos h7, if_pos (by omega), hp, Option.bind_some]
      cases e : unesc r with
      | none => rfl
      | some q =>
        obtain ⟨q1, q2⟩ := unesc_is r.length r (Nat.le_refl _) q.1 q.2 e
        have hq : q.2 ≤ 1000000 := by have := congrArg List.length q2; simp at this; omega
        simp only [plainA, List.nil_append, Nat.zero_add, Option.bind_some]
        have hm := value_may_is 5 0 (f := 0) (by decide) (txt q.1)
        rw [show ((0 : Nat) : Int) = 0 from rfl, txt_data] at hm
        rw [if_neg (by omega), hm, Option.bind_some]
        by_cases h40 : q.1.length ≤ 40
        · rw [if_pos (show mayB 5 0 0 q.1 = true from V.may (.text q.1) h40), if_pos h40]
          simp only [getA, V.k, V.n, V.f, V.s]
          rw [show wrap64 ((q.2 : Int) + 1) = ((q.2 + 1 : Nat) : Int) by unfold wrap64; omega]; rfl
        · rw [if_neg (by unfold mayB; simp; omega), if_neg h40]; rfl
    rw [if_neg (fun e => h7 ((byte_7 c).1 e)), if_neg h7, if_pos (by decide)]; rfl
end Go.Proofs.Ytncdpdbafklodaa.PA
/- What is behind a text: what the program's function comes to. -/
namespace Go.Proofs.Ytncdpdbafklodaa.PA
open Go.RowKit Go.Proofs.YtncdpdbafklodaaW.PrintWords Go.Proofs.YtncdpdbafklodaaW.PrintLast Go.Proofs.Ytncdpdbafklodaa.Plain

def afterA : Option (List UInt8) → ByteArray × Bool
  | none => (⟨#[]⟩, false)
  | some h => (txt h, true)
theorem take_snoc (s : ByteArray) (n : Nat) (h : n < s.size) : ∃ b : UInt8, bt s (n : Int) = ((b.toNat : Nat) : Int) ∧ s.data.toList.take (n + 1) = s.data.toList.take n ++ [b] := by
  obtain ⟨b, hb, hd⟩ := bt_data s n h
  refine ⟨b, hb, ?_⟩
  have h1 := List.take_append_drop n s.data.toList
  have hl : (s.data.toList.take n).length = n := by rw [List.length_take, ← size_data]; omega
  rw [hd] at h1
  have h2 : s.data.toList.take (n + 1) = (s.data.toList.take n ++ b :: s.data.toList.drop (n + 1)).take (n + 1) := by rw [h1]
  rw [h2, List.take_append, hl, show n + 1 - n = 1 by omega, List.take_of_length_le (by omega)]; rfl
theorem extract_head (s : ByteArray) (n : Nat) : s.extract 0 n = txt (s.data.toList.take n) := by
  apply ByteArray.ext
  rw [← Array.toList_inj, ByteArray.data_extract, Array.toList_extract]
  simp [List.extract, txt]
theorem byte_succ (b : UInt8) : strOfNums [(((b.toNat : Nat) : Int) + 1) % 256] = txt [b + 1] := by
  have hb := b.toNat_lt
  have h : (((b.toNat : Nat) : Int) + 1) % 256 = (((b + 1).toNat : Nat) : Int) := by
    rw [UInt8.toNat_add]
    show _ = (((b.toNat + 1) % 256 : Nat) : Int)
    omega
  rw [h]
  exact str_bytesI [b + 1]
theorem tuple_after_from (s : ByteArray) (hs : s.size ≤ 1000000) : ∀ (n k : Nat), n ≤ s.size → n < k → tuple_After.l0 k s (n : Int) = some (afterA (after (s.data.toList.take n))) := by
  intro n
  induction n with
  | zero =>
    intro k hn hk
    obtain ⟨k, rfl⟩ : ∃ m, k = m + 1 := ⟨k - 1, by omega⟩
    simp only [tuple_After.l0]
    rw [if_neg (by omega), if_pos (by omega)]; rfl
  | succ n ih =>
    intro k hn hk
    obtain ⟨k, rfl⟩ : ∃ m, k = m + 1 := ⟨k - 1, by omega⟩
    obtain ⟨b, hb, ht⟩ := take_snoc s n (by omega)
    simp only [tuple_After.l0, Option.bind_some]
    rw [show wrap64 (((n + 1 : Nat) : Int) - 1) = ((n : Nat) : Int) by unfold wrap64; omega, if_pos (by omega), if_pos (by omega), if_pos (by omega), hb, ht, after_snoc]
    by_cases h : b = 255
    · rw [if_pos ((byte_255 b).2 h), if_pos h]
      exact ih k (by omega) (by omega)
    · rw [if_neg (fun e => h ((byte_255 b).1 e)), if_neg h, if_neg (by omega), if_pos (by omega), Int.toNat_natCast, extract_head, byte_succ, if_pos (by
        rw [txt_size, txt_size, List.length_take]; show min n _ + 1 ≤ _; omega), txt_append]
      rfl
theorem tuple_after_is (s : ByteArray) (hs : s.size ≤ 1000000) (k : Nat) (hk : s.size < k) : tuple_After.f k s = some (afterA (after s.data.toList)) := by
  have := tuple_after_from s hs s.size k (Nat.le_refl _) hk
  rw [List.take_of_length_le (by rw [← size_data]; exact Nat.le_refl _)] at this
  exact this
end Go.Proofs.Ytncdpdbafklodaa.PA
/- The bytes of several values: what the program's and the document's functions come to. -/
namespace Go.Proofs.Ytncdpdbafklodaa.PA
open Go.RowKit Go.Proofs.YtncdpdbafklodaaW.PrintWords Go.Proofs.YtncdpdbafklodaaW.PrintLast Go.Proofs.Ytncdpdbafklodaa.Plain

abbrev Vc := S37
/-- What a value in memory is like. -/
def Vc.Good (x : Vc) : Prop := (Lit.int .i64 x.f0).wf = true ∧ (Lit.int .i64 x.f1).wf = true ∧ (Lit.int .u64 x.f2).wf = true ∧ x.f3.size ≤ maxLen
/-- The bytes of one, or an error's number. -/
def Vc.put (x : Vc) : List UInt8 × Int := putV x.f0 x.f1 x.f2.toNat x.f3.data.toList
theorem Vc.float {x : Vc} (g : x.Good) : x.f2 = ((x.f2.toNat : Nat) : Int) ∧ x.f2.toNat < 18446744073709551616 := by
  obtain ⟨y, hy, hl⟩ := u64_nat g.2.2.1
  rw [hy, Int.toNat_natCast]; exact ⟨rfl, hl⟩
theorem Vc.ok {x : Vc} (g : x.Good) (h : x.put.2 = 0) : ∃ v : V, v.Ok ∧ x.f0 = v.k ∧ x.f1 = v.n ∧ x.f2 = ((v.f : Nat) : Int) ∧ x.f3.data.toList = v.s ∧ x.put.1 = v.enc := by
  unfold Vc.put putV at h ⊢
  by_cases hm : mayB x.f0 x.f1 x.f2.toNat x.f3.data.toList = true
  · obtain ⟨v, hv, e1, e2, e3, e4⟩ := view hm (i64_bounds g.2.1) (Vc.float g).2
    rw [if_pos hm]
    refine ⟨v, hv, e1, e2, ?_, e4, ?_⟩
    · rw [← e3]; exact (Vc.float g).1
    · rw [e1, e2, e3, e4]; exact V.enc_is v
  · rw [if_neg hm] at h; cases h
theorem Vc.put_length {x : Vc} (g : x.Good) : x.put.1.length ≤ 83 := by
  by_cases h : x.put.2 = 0
  · obtain ⟨v, hv, _, _, _, _, e⟩ := Vc.ok g h
    rw [e]; exact V.enc_length v hv
  · unfold Vc.put putV at h ⊢
    by_cases hm : mayB x.f0 x.f1 x.f2.toNat x.f3.data.toList = true
    · rw [if_pos hm] at h; exact absurd rfl h
    · rw [if_neg hm]; decide
theorem vc_put_is {x : Vc} (g : x.Good) (K : Nat) (hK : 50 ≤ K) : value_Put.f K x.f0 x.f1 x.f2 x.f3 = some (txt x.put.1, x.put.2) := by
  have := value_put_is (k := x.f0) g.2.1 (Vc.float g).2 x.f3 K hK
  rw [← (Vc.float g).1] at this
  exact this
/-- The bytes of several. -/
def putT : List Vc → List UInt8 × Int
  | [] => ([], 0)
  | x :: r => if x.put.2 = 0 then (if (putT r).2 = 0 then (x.put.1 ++ (putT r).1, 0) else ([], (putT r).2)) else ([], x.put.2)
def ansT (acc : List UInt8) (q : List UInt8 × Int) : ByteArray × Int := if q.2 = 0 then (txt (acc ++ q.1), 0) else (⟨#[]⟩, q.2)
theorem putT_eq (x : Vc) (r : List Vc) : putT (x :: r) = if x.put.2 = 0 then (if (putT r).2 = 0 then (x.put.1 ++ (putT r).1, 0) else ([], (putT r).2)) else ([], x.put.2) := rfl
theorem ansT_cons (acc : List UInt8) (x : Vc) (r : List Vc) : ansT acc (putT (x :: r)) = if x.put.2 = 0 then ansT (acc ++ x.put.1) (putT r) else (⟨#[]⟩, x.put.2) := by
  by_cases h : x.put.2 = 0
  · by_cases h2 : (putT r).2 = 0
    · have e : putT (x :: r) = (x.put.1 ++ (putT r).1, 0) := by rw [putT_eq, if_pos h, if_pos h2]
      rw [e, if_pos h]
      unfold ansT
      rw [if_pos rfl, if_pos h2, List.append_assoc]
    · have e : putT (x :: r) = ([], (putT r).2) := by rw [putT_eq, if_pos h, if_neg h2]
      rw [e, if_pos h]
      unfold ansT
      rw [if_neg h2, if_neg h2]
  · have e : putT (x :: r) = ([], x.put.2) := by rw [putT_eq, if_neg h]
    rw [e, if_neg h]
    unfold ansT
    rw [if_neg h]
theorem rd_at (l : List Vc) (i : Nat) (h : i < l.length) : ∃ x : Vc, rd_T37 l (i : Int) = x ∧ x ∈ l ∧ l.drop i = x :: l.drop (i + 1) := by
  refine ⟨l[i], ?_, List.getElem_mem h, List.drop_eq_getElem_cons h⟩
  unfold rd_T37
  rw [Int.toNat_natCast]
  simp [h]
theorem tuple_put_from (l : List Vc) (g : ∀ x ∈ l, x.Good) (hl : l.length ≤ 16) (d : Nat) : ∀ (k i : Nat) (acc : List UInt8), i + d = l.length → d + 50 ≤ k → acc.length ≤ 83 * i →
    tuple_Put.l0 k (txt acc) l (l.length : Int) (i : Int) = some (ansT acc (putT (l.drop i))) := by
  induction d with
  | zero =>
    intro k i acc hi hk ha
    obtain ⟨k, rfl⟩ : ∃ m, k = m + 1 := ⟨k - 1, by omega⟩
    simp only [tuple_Put.l0]
    rw [if_neg (by omega), List.drop_eq_nil_of_le (by omega)]
    simp [ansT, putT]
  | succ d ih =>
    intro k i acc hi hk ha
    obtain ⟨k, rfl⟩ : ∃ m, k = m + 1 := ⟨k - 1, by omega⟩
    obtain ⟨x, hx, hm, hd⟩ := rd_at l i (by omega)
    have hxl := Vc.put_length (g x hm)
    simp only [tuple_Put.l0]
    rw [if_pos (by omega), if_pos (by omega), if_pos (by omega), hx, vc_put_is (g x hm) k (by omega), Option.bind_some, hd, ansT_cons]
    dsimp only
    by_cases h : x.put.2 = 0
    · rw [if_pos h, if_pos h, if_pos (by rw [txt_size, txt_size]; omega), txt_append, show wrap64 ((i : Int) + 1) = ((i + 1 : Nat) : Int) by unfold wrap64; omega]
      exact ih k (i + 1) _ (by omega) (by omega) (by rw [List.length_append]; omega)
    · rw [if_neg h, if_neg h]
/-- The bytes of several values, or an error's number. -/
def putsT (l : List Vc) : ByteArray × Int := if l.length ≤ 16 then ansT [] (putT l) else (⟨#[]⟩, 2)
theorem tuple_put_is (l : List Vc) (g : ∀ x ∈ l, x.Good) (k : Nat) (hk : 70 ≤ k) : tuple_Put.f k l = some (putsT l) := by
  unfold tuple_Put.f putsT
  by_cases h : l.length ≤ 16
  · rw [if_neg (by omega), if_pos h]
    have := tuple_put_from l g h l.length k 0 [] (by omega) (by omega) (by decide)
    rw [List.drop_zero] at this
    exact this
  · rw [if_pos (by omega), if_neg h]
theorem tup_long_from (l : List Vc) (d : Nat) : ∀ (k i : Nat), i + d = 20 → 2 * d + 2 ≤ k → ∃ b, falseworklaw3_long.l0 k l (i : Int) = some b := by
  have out : ∀ k i, 2 ≤ k → ∃ b, falseworklaw3_long.j1 (k - 1) l i false = some b := fun k i hk => by
    obtain ⟨k, rfl⟩ : ∃ m, k = m + 2 := ⟨k - 2, by omega⟩
    exact ⟨_, rfl⟩
  induction d with
  | zero =>
    intro k i hi hk
    obtain ⟨k, rfl⟩ : ∃ m, k = m + 2 := ⟨k - 2, by omega⟩
    simp only [falseworklaw3_long.l0]
    rw [show decide ((i : Int) < 20) = false from decide_eq_false (by omega)]
    split <;> exact out (k + 2) _ (by omega)
  | succ d ih =>
    intro k i hi hk
    obtain ⟨k, rfl⟩ : ∃ m, k = m + 2 := ⟨k - 2, by omega⟩
    simp only [falseworklaw3_long.l0]
    by_cases h : (i : Int) < (l.length : Int)
    · rw [if_pos h, decide_eq_true (show (i : Int) < 20 by omega)]
      simp only [falseworklaw3_long.j1, if_true]
      rw [if_pos (by omega), if_pos h]
      split
      · exact ⟨true, rfl⟩
      · rw [show wrap64 ((i : Int) + 1) = ((i + 1 : Nat) : Int) by unfold wrap64; omega]
        exact ih k (i + 1) (by omega) (by omega)
    · rw [if_neg h]; exact out (k + 2) _ (by omega)
theorem tup_long_is (l : List Vc) (k : Nat) (hk : 42 ≤ k) : ∃ b, falseworklaw3_long.f k l = some b := tup_long_from l 20 k 0 rfl hk
theorem tup_awake_true (K : Nat) (hK : 70 ≤ K) : falseworklaw3_awake.f K = some true := by
  unfold falseworklaw3_awake.f
  have h1 := tuple_after_is (⟨#[97, 255]⟩ : ByteArray) (by decide) K (by show 2 < K; omega)
  have h2 := tuple_after_is (⟨#[255]⟩ : ByteArray) (by decide) K (by show 1 < K; omega)
  have h3 := tuple_put_is ([⟨0, 0, 0, ⟨#[]⟩⟩, ⟨1, 1, 0, ⟨#[]⟩⟩] : List Vc) (fun x hx => by
    simp only [List.mem_cons, List.not_mem_nil, or_false] at hx
    rcases hx with rfl | rfl
    · exact ⟨by decide, by decide, by decide, by show 0 ≤ maxLen; unfold maxLen; omega⟩
    · exact ⟨by decide, by decide, by decide, by show 0 ≤ maxLen; unfold maxLen; omega⟩) K hK
  have e1 : after (⟨#[97, 255]⟩ : ByteArray).data.toList = some [98] := by decide +kernel
  have e2 : after (⟨#[255]⟩ : ByteArray).data.toList = none := by decide +kernel
  have e3 : putT ([⟨0, 0, 0, ⟨#[]⟩⟩, ⟨1, 1, 0, ⟨#[]⟩⟩] : List Vc) = ([1, 3], 0) := by decide +kernel
  rw [e1] at h1
  rw [e2] at h2
  rw [h1, h2, h3]
  unfold putsT
  rw [e3]
  simp only [Option.bind_some, falseworklaw3_num.f, afterA, ansT, toList_data, txt_data]
  rfl
end Go.Proofs.Ytncdpdbafklodaa.PA
/- Values in memory: the bytes of several, cut at a place; which of two is below. -/
namespace Go.Proofs.Ytncdpdbafklodaa.PA
open Go.RowKit Go.Proofs.YtncdpdbafklodaaW.PrintWords Go.Proofs.YtncdpdbafklodaaW.PrintLast Go.Proofs.Ytncdpdbafklodaa.Plain

theorem beq_of {p q : Bool} (h : p = true ↔ q = true) : (p == q) = true := by cases p <;> cases q <;> simp_all
theorem putT_cons {x : Vc} {r : List Vc} (h : (putT (x :: r)).2 = 0) : x.put.2 = 0 ∧ (putT r).2 = 0 ∧ (putT (x :: r)).1 = x.put.1 ++ (putT r).1 := by
  simp only [putT] at h ⊢
  by_cases h1 : x.put.2 = 0
  · rw [if_pos h1] at h
    by_cases h2 : (putT r).2 = 0
    · exact ⟨h1, h2, by rw [if_pos h1, if_pos h2]⟩
    · rw [if_neg h2] at h; exact absurd h h2
  · rw [if_neg h1] at h; exact absurd h h1
theorem putT_cut : ∀ (l : List Vc) (m : Nat), (putT l).2 = 0 → (putT (l.take m)).2 = 0 ∧ (putT (l.drop m)).2 = 0 ∧ (putT l).1 = (putT (l.take m)).1 ++ (putT (l.drop m)).1
  | [], m, _ => by simp [putT]
  | x :: r, 0, h => by rw [List.take_zero, List.drop_zero]; exact ⟨rfl, h, rfl⟩
  | x :: r, m + 1, h => by
    obtain ⟨h1, h2, h3⟩ := putT_cons h
    obtain ⟨i1, i2, i3⟩ := putT_cut r m h2
    rw [List.take_succ_cons, List.drop_succ_cons, h3, i3, putT_eq x (r.take m), if_pos h1, if_pos i1]
    exact ⟨rfl, i2, by rw [List.append_assoc]⟩
/-- -1, 0, 1 of two. -/
def vcmp (x y : Vc) : Int := cmpV x.f0 x.f1 x.f2.toNat x.f3.data.toList y.f0 y.f1 y.f2.toNat y.f3.data.toList
theorem vc_cmp {x y : Vc} (hx : x.put.2 = 0) (hy : y.put.2 = 0) : vcmp x y = cmpL x.put.1 y.put.1 := by
  unfold Vc.put putV at hx hy ⊢
  unfold vcmp cmpV
  by_cases h1 : mayB x.f0 x.f1 x.f2.toNat x.f3.data.toList = true
  · by_cases h2 : mayB y.f0 y.f1 y.f2.toNat y.f3.data.toList = true
    · rw [if_pos h1, if_pos h2, if_pos h1, if_pos h2]
    · rw [if_neg h2] at hy; cases hy
  · rw [if_neg h1] at hx; cases hx
theorem less_vc {x y : Vc} (gx : x.Good) (gy : y.Good) (hx : x.put.2 = 0) (hy : y.put.2 = 0) (p q : List UInt8) : less (x.put.1 ++ p) (y.put.1 ++ q) = if x.put.1 = y.put.1 then less p q else less x.put.1 y.put.1 := by
  obtain ⟨v, hv, _, _, _, _, ev⟩ := Vc.ok gx hx
  obtain ⟨u, hu, _, _, _, _, eu⟩ := Vc.ok gy hy
  rw [ev, eu, V.less_app]
/-- Values are the same where their bytes are. -/
theorem vc_put_eq {x y : Vc} (gx : x.Good) (gy : y.Good) (hx : x.put.2 = 0) (hy : y.put.2 = 0) : x.put.1 = y.put.1 ↔ (x.f0 = y.f0 ∧ x.f1 = y.f1 ∧ x.f2 = y.f2 ∧ x.f3.data.toList = y.f3.data.toList) := by
  obtain ⟨v, hv, a1, a2, a3, a4, ev⟩ := Vc.ok gx hx
  obtain ⟨u, hu, b1, b2, b3, b4, eu⟩ := Vc.ok gy hy
  rw [ev, eu, V.enc_eq hv hu, a1, a2, a3, a4, b1, b2, b3, b4]
  constructor
  · rintro rfl; exact ⟨rfl, rfl, rfl, rfl⟩
  · rintro ⟨h1, h2, h3, h4⟩; exact V.fields_inj h1 h2 (by omega) h4
end Go.Proofs.Ytncdpdbafklodaa.PA
/- Several values read from bytes: what the program's and the document's functions come to; whether two rows of values are one. -/
namespace Go.Proofs.Ytncdpdbafklodaa.PA
open Go.RowKit Go.Proofs.YtncdpdbafklodaaW.PrintWords Go.Proofs.YtncdpdbafklodaaW.PrintLast Go.Proofs.Ytncdpdbafklodaa.Plain

def vcOf (v : V) : Vc := ⟨v.k, v.n, ((v.f : Nat) : Int), txt v.s⟩
/-- The values that bytes are, where c have come; or none, and 3. -/
def decT : Nat → Nat → List UInt8 → List Vc × Int
  | 0, _, _ => ([], 3)
  | _ + 1, _, [] => ([], 0)
  | n + 1, c, a :: r => match decV (a :: r) with
    | none => ([], 3)
    | some q => if c = 16 then ([], 3) else
      (if (decT n (c + 1) ((a :: r).drop q.2)).2 = 0 then (vcOf q.1 :: (decT n (c + 1) ((a :: r).drop q.2)).1, 0) else ([], 3))
def ansG (acc : List Vc) (q : List Vc × Int) : List Vc × Int := if q.2 = 0 then (acc ++ q.1, 0) else ([], 3)
theorem ansG_step (acc : List Vc) (c : Vc) (q : List Vc × Int) : ansG acc (if q.2 = 0 then (c :: q.1, 0) else ([], 3)) = ansG (acc ++ [c]) q := by
  unfold ansG
  by_cases h : q.2 = 0
  · rw [if_pos h, if_pos rfl, if_pos h]; simp
  · rw [if_neg h, if_neg (by decide), if_neg h]
theorem extract_from (s : ByteArray) (i : Nat) : (s.extract i s.size).data.toList = s.data.toList.drop i := by
  rw [ByteArray.data_extract, Array.toList_extract]
  simp only [List.extract]
  exact List.take_of_length_le (by rw [List.length_drop, ← size_data]; omega)
theorem dec_len {l : List UInt8} {q : V × Nat} (h : decV l = some q) : 1 ≤ q.2 ∧ q.2 ≤ l.length := by
  obtain ⟨v, m⟩ := q
  obtain ⟨_, hm, he⟩ := decV_is h
  have h1 := congrArg List.length he
  rw [List.length_append, List.length_drop] at h1
  have h2 : v.enc.length ≠ 0 := fun e => V.enc_ne v (List.eq_nil_of_length_eq_zero e)
  show 1 ≤ m ∧ m ≤ l.length
  omega
theorem decT_some (n c : Nat) {a : UInt8} {r : List UInt8} {q : V × Nat} (hd : decV (a :: r) = some q) : decT (n + 1) c (a :: r) = if c = 16 then ([], 3) else
    (if (decT n (c + 1) ((a :: r).drop q.2)).2 = 0 then (vcOf q.1 :: (decT n (c + 1) ((a :: r).drop q.2)).1, 0) else ([], 3)) := by simp only [decT, hd]
theorem decT_none (n c : Nat) {a : UInt8} {r : List UInt8} (hd : decV (a :: r) = none) : decT (n + 1) c (a :: r) = ([], 3) := by simp only [decT, hd]
theorem wrap_sum (i m : Nat) (h : i + m ≤ 1000000) : wrap64 (((i : Nat) : Int) + ((m : Nat) : Int)) = ((i + m : Nat) : Int) := by unfold wrap64; omega
theorem tup_get_from (n : Nat) : ∀ (k : Nat) (s : ByteArray) (acc : List Vc), s.size < n → s.size + 70 ≤ k → s.size ≤ 900000 → acc.length ≤ 16 →
    tuple_Get.l0 k s acc = some (ansG acc (decT n acc.length s.data.toList)) := by
  induction n with
  | zero => intro k s acc h; omega
  | succ n ih =>
    intro k s acc hn hk hs ha
    obtain ⟨k, rfl⟩ : ∃ m, k = m + 1 := ⟨k - 1, by omega⟩
    simp only [tuple_Get.l0]
    rcases hl : s.data.toList with _ | ⟨a, r⟩
    · rw [if_pos (by rw [toList_data]; exact hl)]
      unfold ansG decT
      rw [if_pos rfl, List.append_nil]
    · have hz : s.size = r.length + 1 := by rw [size_data, hl]; rfl
      have hv := value_get_is s (by omega) k (by omega)
      rw [hl] at hv
      rw [if_neg (by rw [toList_data, hl]; simp)]
      cases hd : decV (a :: r) with
      | none =>
        rw [decT_none n _ hd, hv, hd, Option.bind_some]; rfl
      | some q =>
        rw [decT_some n _ hd]
        obtain ⟨hq1, hq2⟩ := dec_len hd
        have hq2 : q.2 ≤ r.length + 1 := hq2
        have hv2 : value_Get.f k s = some (q.1.k, q.1.n, ((q.1.f : Nat) : Int), txt q.1.s, ((q.2 : Nat) : Int), 0) := by rw [hv, hd]; rfl
        rw [hv2, Option.bind_some]
        dsimp only
        rw [if_pos rfl]
        by_cases hc : acc.length = 16
        · rw [if_pos hc, if_pos hc]; rfl
        have hcond : 1 ≤ ((q.2 : Nat) : Int) ∧ ((q.2 : Nat) : Int) ≤ (s.size : Int) ∧ acc.length < 16 := ⟨by omega, by omega, by omega⟩
        rw [if_neg hc, if_neg hc, if_pos hcond, ansG_step]
        have hy : (s.extract (((q.2 : Nat) : Int)).toNat s.size).data.toList = (a :: r).drop q.2 := by rw [Int.toNat_natCast, extract_from, hl]
        have hyz : (s.extract (((q.2 : Nat) : Int)).toNat s.size).size = r.length + 1 - q.2 := by rw [size_data, hy, List.length_drop]; rfl
        have hal : (acc ++ [vcOf q.1]).length = acc.length + 1 := by rw [List.length_append]; rfl
        have := ih k (s.extract (((q.2 : Nat) : Int)).toNat s.size) (acc ++ [vcOf q.1]) (by omega) (by omega) (by omega) (by omega)
        rw [hy, hal] at this
        exact this
theorem tup_get_is (s : ByteArray) (hs : s.size ≤ 900000) (k : Nat) (hk : s.size + 70 ≤ k) : tuple_Get.f k s = some (ansG [] (decT (s.size + 1) 0 s.data.toList)) :=
  tup_get_from (s.size + 1) k s [] (by omega) hk hs (by decide)
theorem samev_from (l : List Vc) (hl : l.length ≤ 1000000) (d : Nat) : ∀ (k i : Nat), i + d = l.length → d < k → falseworkref2_Same.l0 k l l (i : Int) = some true := by
  induction d with
  | zero =>
    intro k i hi hk
    obtain ⟨k, rfl⟩ : ∃ m, k = m + 1 := ⟨k - 1, by omega⟩
    simp only [falseworkref2_Same.l0]
    rw [if_neg (by omega)]
  | succ d ih =>
    intro k i hi hk
    obtain ⟨k, rfl⟩ : ∃ m, k = m + 1 := ⟨k - 1, by omega⟩
    simp only [falseworkref2_Same.l0]
    rw [if_pos (by omega), if_pos (by omega), if_pos (by omega), show wrap64 ((i : Int) + 1) = ((i + 1 : Nat) : Int) by unfold wrap64; omega]
    rw [if_neg (by simp)]
    exact ih k (i + 1) (by omega) (by omega)
theorem samev_is (l : List Vc) (hl : l.length ≤ 1000000) (k : Nat) (hk : l.length < k) : falseworkref2_Same.f k l l = some true := by
  unfold falseworkref2_Same.f
  rw [if_pos rfl]
  exact samev_from l hl l.length k 0 (by omega) hk
theorem decT_len (n : Nat) : ∀ (c : Nat) (l : List UInt8), (decT n c l).1.length ≤ l.length := by
  induction n with
  | zero => intro c l; exact Nat.zero_le _
  | succ n ih =>
    intro c l
    rcases l with _ | ⟨a, r⟩
    · exact Nat.zero_le _
    · cases hd : decV (a :: r) with
      | none => rw [decT_none n c hd]; exact Nat.zero_le _
      | some q =>
        rw [decT_some n c hd]
        split
        · exact Nat.zero_le _
        · split
          · have h1 := ih (c + 1) ((a :: r).drop q.2)
            have h2 := dec_len hd
            rw [List.length_drop] at h1
            show _ + 1 ≤ (a :: r).length
            have h3 := h2.1
            have h4 := h2.2
            omega
          · exact Nat.zero_le _
theorem ansG_len (q : List Vc × Int) : (ansG [] q).1.length ≤ q.1.length := by
  unfold ansG
  split
  · simp
  · exact Nat.zero_le _
end Go.Proofs.Ytncdpdbafklodaa.PA
