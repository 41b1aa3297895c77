/- What the functions of layer 1 come to on words of 64 bits: the one form, the place, the way back, the order. -/
import Derived.Test.YtebfilljdnhccaaRTx0
import Derived.Test.YtebfilljdnhccaaRTx3
import Derived.Test.YtebfilljdnhccaaRTx4
import Derived.Test.YtebfilljdnhccaaRTx5
import Derived.Test.YtebfilljdnhccaaRTx6
import Derived.Test.YtebfilljdnhccaaRTx7
import Derived.Test.YtebfilljdnhccaaRTx9
import Derived.Test.YtebfilljdnhccaaPlainP
namespace Go.Proofs.Ytebfilljdnhccaa.PA
open Go.RowKit Go.Proofs.YtebfilljdnhccaaW.PrintWords Go.Proofs.YtebfilljdnhccaaW.PrintLast Go.Proofs.Ytebfilljdnhccaa.Plain

theorem u64_nat {a : Int} (h : (Lit.int .u64 a).wf = true) : ∃ x : Nat, a = (x : Int) ∧ x < 18446744073709551616 := by
  have h1 : IntKind.u64.min ≤ a ∧ a ≤ IntKind.u64.max := by simpa [Lit.wf] using h
  have h2 : IntKind.u64.min = 0 := by decide
  have h3 : IntKind.u64.max = 18446744073709551615 := by decide
  rw [h2, h3] at h1
  exact ⟨a.toNat, by omega, by omega⟩
theorem flo_canon_is {x : Nat} (h : x < 18446744073709551616) : flo_Canon.f (x : Int) = some ((canon x : Nat) : Int) := by
  unfold flo_Canon.f fcmp canon
  rw [Int.toNat_natCast, show Int.toNat 0 = 0 from rfl, nan_test]
  by_cases h1 : 9218868437227405312 < x % 9223372036854775808
  · rw [if_pos (decide_eq_true h1), if_pos h1]; rfl
  · rw [if_neg (by simp [h1]), if_neg h1, zero_test x h1]
    by_cases h2 : x % 9223372036854775808 = 0
    · rw [if_pos (decide_eq_true h2)]
      by_cases h3 : x = 9223372036854775808
      · rw [if_pos h3]; rfl
      · rw [if_neg h3]
        have : x = 0 := by omega
        rw [this]; rfl
    · rw [if_neg (by simp [h2]), if_neg (by omega)]
theorem flo_order_is {x : Nat} (h : x < 18446744073709551616) : flo_Order.f (x : Int) = some ((ordr x : Nat) : Int) := by
  have hc := canon_lt h
  unfold flo_Order.f ordr
  rw [flo_canon_is h, Option.bind_some, and_top hc]
  by_cases h1 : canon x < 9223372036854775808
  · rw [if_pos h1, if_pos rfl, or_top hc, if_pos h1, if_pos h1]
    exact congrArg some (by omega)
  · rw [if_neg h1, if_neg (by decide), xor_all hc, if_neg h1]
    exact congrArg some (by omega)
/-- Which of two numbers is below. -/
def cmpN (a b : Nat) : Int := if a < b then -1 else if b < a then 1 else 0
end Go.Proofs.Ytebfilljdnhccaa.PA
/- Which values may be: what the program's and the document's functions come to. -/
namespace Go.Proofs.Ytebfilljdnhccaa.PA
open Go.RowKit Go.Proofs.YtebfilljdnhccaaW.PrintWords Go.Proofs.YtebfilljdnhccaaW.PrintLast Go.Proofs.Ytebfilljdnhccaa.Plain

theorem toList_data (s : ByteArray) : s.toList = s.data.toList := ByteArray.toList_eq s
theorem size_data (s : ByteArray) : s.size = s.data.toList.length := by rw [Array.length_toList]; rfl
theorem dec_beq (a b : Int) : (a == b) = decide (a = b) := by
  by_cases h : a = b
  · rw [h, decide_eq_true rfl]; simp
  · rw [decide_eq_false h]; simpa using h
theorem dec_cast (f : Nat) : decide ((f : Int) = 0) = decide (f = 0) := by
  by_cases h : f = 0
  · rw [h]; rfl
  · rw [decide_eq_false h, decide_eq_false (by omega)]
theorem isE (l : List UInt8) : (l == ([] : List UInt8)) = l.isEmpty := by cases l <;> rfl
theorem value_may_is (k n : Int) {f : Nat} (hf : f < 18446744073709551616) (s : ByteArray) : value_May.f k n (f : Int) s = some (mayB k n f s.data.toList) := by
  unfold value_May.f mayB
  rw [toList_data, size_data]
  by_cases h0 : k = 0
  · rw [if_pos h0, if_pos h0, dec_beq, dec_beq, dec_cast]
  rw [if_neg h0, if_neg h0]
  by_cases h1 : k = 1
  · rw [if_pos h1, if_pos h1, dec_beq, dec_cast]
    by_cases n0 : n = 0
    · rw [if_pos n0, n0]; rfl
    · rw [if_neg n0]
      by_cases n1 : n = 1
      · rw [if_pos n1, n1]; rfl
      · rw [if_neg n1, decide_eq_false n0, decide_eq_false n1]; rfl
  rw [if_neg h1, if_neg h1]
  by_cases h2 : k = 2
  · rw [if_pos h2, if_pos h2, dec_beq, dec_cast]
  rw [if_neg h2, if_neg h2]
  by_cases h3 : k = 3
  · rw [if_pos h3, if_pos h3, flo_canon_is hf, Option.bind_some, dec_beq]
    by_cases hc : canon f = f
    · rw [if_pos (by omega), decide_eq_true hc, Bool.true_and]
    · rw [if_neg (by omega), decide_eq_false hc, Bool.false_and, Bool.and_false]
  rw [if_neg h3, if_neg h3]
  have key : (if ((s.data.toList.length : Nat) : Int) > 40 then some false else some (n == 0 && (f : Int) == 0)) = some (decide (n = 0) && (decide (f = 0) && decide (s.data.toList.length ≤ 40))) := by
    rw [dec_beq, dec_beq, dec_cast]
    by_cases hl : s.data.toList.length ≤ 40
    · rw [if_neg (by omega), decide_eq_true hl, Bool.and_true]
    · rw [if_pos (by omega), decide_eq_false hl, Bool.and_false, Bool.and_false]
  by_cases h4 : k = 4
  · rw [if_pos h4, if_pos h4, key]
  rw [if_neg h4, if_neg h4]
  by_cases h5 : k = 5
  · rw [if_pos h5, if_pos h5, key]
  rw [if_neg h5, if_neg h5]
end Go.Proofs.Ytebfilljdnhccaa.PA
/- The bytes of values: what the program's and the document's functions come to. -/
namespace Go.Proofs.Ytebfilljdnhccaa.PA
open Go.RowKit Go.Proofs.YtebfilljdnhccaaW.PrintWords Go.Proofs.YtebfilljdnhccaaW.PrintLast Go.Proofs.Ytebfilljdnhccaa.Plain

/-- Bytes as whole numbers. -/
def bytesI (l : List UInt8) : List Int := l.map fun b => (b.toNat : Int)
theorem str_bytesI (l : List UInt8) : strOfNums (bytesI l) = ⟨l.toArray⟩ := by
  unfold strOfNums bytesI
  rw [List.map_map]
  congr 2
  conv => rhs; rw [← List.map_id l]
  apply List.map_congr_left
  intro b _
  show UInt8.ofNat ((b.toNat : Int)).toNat = b
  rw [Int.toNat_natCast, UInt8.ofNat_toNat]
theorem bytesI_append (a b : List UInt8) : bytesI (a ++ b) = bytesI a ++ bytesI b := by unfold bytesI; rw [List.map_append]
theorem bytesI_length (a : List UInt8) : (bytesI a).length = a.length := by unfold bytesI; rw [List.length_map]
theorem byteI (d u : Nat) : ((UInt8.ofNat (u / d % 256)).toNat : Int) = (u : Int) / (d : Int) % 256 := by
  rw [UInt8.toNat_ofNat', ← Int.natCast_ediv]
  generalize u / d = q
  omega
theorem bytesI_be8 (u : Nat) : bytesI (be8 u) = [(u : Int) / 72057594037927936 % 256, (u : Int) / 281474976710656 % 256, (u : Int) / 1099511627776 % 256, (u : Int) / 4294967296 % 256, (u : Int) / 16777216 % 256, (u : Int) / 65536 % 256, (u : Int) / 256 % 256, (u : Int) % 256] := by
  unfold bytesI be8
  simp only [List.map_cons, List.map_nil]
  have e := fun d => byteI d u
  have e8 : ((UInt8.ofNat (u % 256)).toNat : Int) = (u : Int) % 256 := by
    have := byteI 1 u
    rw [Nat.div_one] at this
    rw [this]; simp
  rw [e, e, e, e, e, e, e, e8]; rfl
theorem shr8 (u : Nat) (j : Nat) (hj : j ≤ 64) : shr .u64 (u : Int) (j : Int) = (u : Int) / ((2 ^ j : Nat) : Int) := by
  unfold shr
  rw [Int.toNat_natCast]
  simp only [IntKind.bits]
  rw [Nat.min_eq_left hj]
  simp
theorem value_eight_is (u : Nat) (k : Nat) (hk : 9 ≤ k) : value_eight.f k (u : Int) = some (bytesI (be8 u)) := by
  obtain ⟨k, rfl⟩ : ∃ m, k = m + 9 := ⟨k - 9, by omega⟩
  unfold value_eight.f
  rw [if_pos (by decide), Option.bind_some, bytesI_be8]
  have hs : ∀ i : Nat, i ≤ 7 → wrap64 (8 * wrap64 (7 - (i : Int))) = ((8 * (7 - i) : Nat) : Int) := fun i hi => by unfold wrap64; omega
  have step : ∀ (i m : Nat) (l : List Int), i ≤ 7 → l.length = 8 → value_eight.l0 (m + 1) (u : Int) l 8 (i : Int) = value_eight.l0 m (u : Int) (l.set i ((u : Int) / ((2 ^ (8 * (7 - i)) : Nat) : Int) % 256)) 8 ((i + 1 : Nat) : Int) := by
    intro i m l hi hl
    simp only [value_eight.l0]
    rw [if_pos (by omega), hs i hi, if_pos (by omega), if_pos (by omega), if_pos (by omega), shr8 u _ (by omega), Int.toNat_natCast]
    congr 1
    unfold wrap64; omega
  have hr : (List.replicate 8 (0 : Int)) = [0, 0, 0, 0, 0, 0, 0, 0] := rfl
  rw [hr]
  show value_eight.l0 (k + 9) (u : Int) [0, 0, 0, 0, 0, 0, 0, 0] 8 ((0 : Nat) : Int) = _
  rw [step 0 (k + 8) _ (by decide) rfl, step 1 (k + 7) _ (by decide) rfl, step 2 (k + 6) _ (by decide) rfl, step 3 (k + 5) _ (by decide) rfl, step 4 (k + 4) _ (by decide) rfl, step 5 (k + 3) _ (by decide) rfl, step 6 (k + 2) _ (by decide) rfl, step 7 (k + 1) _ (by decide) rfl]
  simp only [value_eight.l0]
  rw [if_neg (by omega)]
  simp [List.set]
theorem bt_data (s : ByteArray) (i : Nat) (h : i < s.size) : ∃ b : UInt8, bt s (i : Int) = ((b.toNat : Nat) : Int) ∧ s.data.toList.drop i = b :: s.data.toList.drop (i + 1) := by
  refine ⟨s[i], ?_, ?_⟩
  · unfold bt; simp [h]
  · rw [List.drop_eq_getElem_cons (by simpa using h)]; rfl
theorem byte_zero (b : UInt8) : ((b.toNat : Nat) : Int) = 0 ↔ b = 0 := by
  constructor
  · intro h; exact UInt8.toNat_inj.1 (by simpa using h)
  · rintro rfl; rfl
theorem esc_from (s : ByteArray) (hs : s.size ≤ 1000000) (d : Nat) : ∀ (k i : Nat) (acc : List UInt8), i + d = s.size → d < k → acc.length ≤ 10 + 2 * i →
    value_escaped.l0 k s (bytesI acc) (s.size : Int) (i : Int) = some (bytesI (acc ++ (esc (s.data.toList.drop i) ++ [0, 1]))) := by
  induction d with
  | zero =>
    intro k i acc hi hk hl
    obtain ⟨k, rfl⟩ : ∃ m, k = m + 1 := ⟨k - 1, by omega⟩
    simp only [value_escaped.l0, Option.bind_some]
    rw [if_neg (by omega), if_pos (by rw [bytesI_length]; show acc.length + 2 < _; omega), List.drop_eq_nil_of_le (by rw [← size_data]; omega)]
    rw [bytesI_append]; rfl
  | succ d ih =>
    intro k i acc hi hk hl
    obtain ⟨k, rfl⟩ : ∃ m, k = m + 1 := ⟨k - 1, by omega⟩
    obtain ⟨b, hb, hd⟩ := bt_data s i (by omega)
    have hw : wrap64 ((i : Int) + 1) = ((i + 1 : Nat) : Int) := by unfold wrap64; omega
    simp only [value_escaped.l0, Option.bind_some]
    rw [if_pos (by omega), if_pos (by omega), if_pos (by omega), if_pos (by rw [bytesI_length]; omega), hb, hw, hd]
    have e1 : bytesI acc ++ [((b.toNat : Nat) : Int)] = bytesI (acc ++ [b]) := by rw [bytesI_append]; rfl
    rw [e1]
    simp only [esc]
    by_cases h0 : b = 0
    · rw [if_pos ((byte_zero b).2 h0), if_pos (by rw [bytesI_length, List.length_append]; show acc.length + 1 < _; omega), if_pos h0]
      have e2 : bytesI (acc ++ [b]) ++ [255] = bytesI (acc ++ [b] ++ [255]) := by rw [bytesI_append (acc ++ [b])]; rfl
      rw [e2, ih k (i + 1) _ (by omega) (by omega) (by simp; omega), h0]
      simp
    · rw [if_neg (fun h => h0 ((byte_zero b).1 h)), if_neg h0, ih k (i + 1) _ (by omega) (by omega) (by simp; omega)]
      simp
theorem value_escaped_is (c : UInt8) (s : ByteArray) (hs : s.size ≤ 1000000) (k : Nat) (hk : s.size < k) : value_escaped.f k (c.toNat : Int) s = some (bytesI (c :: (esc s.data.toList ++ [0, 1]))) := by
  unfold value_escaped.f
  have := esc_from s hs s.size k 0 [c] (by omega) hk (by show 1 ≤ _; omega)
  rw [List.drop_zero] at this
  exact this
theorem biased_is {n : Int} (h0 : -9223372036854775808 ≤ n) (h1 : n ≤ 9223372036854775807) : Go.bits .xor .u64 (IntKind.u64.wrap n) 9223372036854775808 = ((biased n : Nat) : Int) := by
  rw [wrap_u64]
  obtain ⟨x, hx, hl⟩ : ∃ x : Nat, n % 18446744073709551616 = (x : Int) ∧ x < 18446744073709551616 := ⟨(n % 18446744073709551616).toNat, by omega, by omega⟩
  rw [hx, xor_top hl]
  unfold biased
  split <;> omega
theorem i64_bounds {n : Int} (h : (Lit.int .i64 n).wf = true) : -9223372036854775808 ≤ n ∧ n ≤ 9223372036854775807 := by
  have h1 : IntKind.i64.min ≤ n ∧ n ≤ IntKind.i64.max := by simpa [Lit.wf] using h
  have h2 : IntKind.i64.min = -9223372036854775808 := by decide
  have h3 : IntKind.i64.max = 9223372036854775807 := by decide
  rw [h2, h3] at h1
  exact h1
/-- A list of bytes as a text. -/
def txt (l : List UInt8) : ByteArray := ⟨l.toArray⟩
theorem txt_data (l : List UInt8) : (txt l).data.toList = l := by unfold txt; simp
theorem txt_of (s : ByteArray) : txt s.data.toList = s := by unfold txt; apply ByteArray.ext; simp
theorem txt_size (l : List UInt8) : (txt l).size = l.length := by rw [size_data, txt_data]
theorem txt_append (a b : List UInt8) : txt a ++ txt b = txt (a ++ b) := by
  apply ByteArray.ext; rw [ByteArray.data_append, ← Array.toList_inj, Array.toList_append]; simp [txt]
/-- What the program's Put comes to. -/
theorem value_put_is {k n : Int} {f : Nat} (hn : (Lit.int .i64 n).wf = true) (hf : f < 18446744073709551616) (s : ByteArray) (K : Nat) (hK : 50 ≤ K) :
    value_Put.f K k n (f : Int) s = some (txt (putV k n f s.data.toList).1, (putV k n f s.data.toList).2) := by
  obtain ⟨n0, n1⟩ := i64_bounds hn
  unfold value_Put.f putV
  rw [value_may_is k n hf s, Option.bind_some]
  by_cases hm : mayB k n f s.data.toList = true
  · rw [if_pos hm, if_pos hm]
    unfold encV
    by_cases h0 : k = 0
    · rw [if_pos h0, if_pos h0]; rfl
    rw [if_neg h0, if_neg h0]
    by_cases h1 : k = 1
    · rw [if_pos h1, if_pos h1]
      have hb : n = 0 ∨ n = 1 := by
        unfold mayB at hm
        rw [if_neg h0, if_pos h1] at hm
        simp at hm
        exact hm.1
      rcases hb with rfl | rfl <;> rfl
    rw [if_neg h1, if_neg h1]
    by_cases h2 : k = 2
    · rw [if_pos h2, if_pos h2, biased_is n0 n1, value_eight_is _ K (by omega)]
      simp only [Option.bind_some]
      rw [if_pos (by rw [bytesI_length]; show 1 + 8 < _; omega)]
      have : ([4] : List Int) ++ bytesI (be8 (biased n)) = bytesI (4 :: be8 (biased n)) := rfl
      rw [this, str_bytesI]; rfl
    rw [if_neg h2, if_neg h2]
    by_cases h3 : k = 3
    · rw [if_pos h3, if_pos h3, flo_order_is hf]
      simp only [Option.bind_some]
      rw [value_eight_is _ K (by omega)]
      simp only [Option.bind_some]
      rw [if_pos (by rw [bytesI_length]; show 1 + 8 < _; omega)]
      have : ([5] : List Int) ++ bytesI (be8 (ordr f)) = bytesI (5 :: be8 (ordr f)) := rfl
      rw [this, str_bytesI]; rfl
    rw [if_neg h3, if_neg h3]
    have hl : s.size ≤ 40 := by
      rw [size_data]
      unfold mayB at hm
      rw [if_neg h0, if_neg h1, if_neg h2, if_neg h3] at hm
      by_cases h4 : k = 4
      · rw [if_pos h4] at hm; simp at hm; simpa using hm.2.2
      · rw [if_neg h4] at hm
        by_cases h5 : k = 5
        · rw [if_pos h5] at hm; simp at hm; simpa using hm.2.2
        · rw [if_neg h5] at hm; cases hm
    by_cases h4 : k = 4
    · rw [if_pos h4, if_pos h4]
      have := value_escaped_is 6 s (by omega) K (by omega)
      have h6 : ((6 : UInt8).toNat : Int) = 6 := rfl
      rw [h6] at this
      rw [this, Option.bind_some, str_bytesI]; rfl
    · rw [if_neg h4, if_neg h4]
      have := value_escaped_is 7 s (by omega) K (by omega)
      have h6 : ((7 : UInt8).toNat : Int) = 7 := rfl
      rw [h6] at this
      rw [this, Option.bind_some, str_bytesI]; rfl
  · rw [if_neg hm, if_neg hm]; rfl
end Go.Proofs.Ytebfilljdnhccaa.PA
/- The document's bytes of values; the document's examples. -/
namespace Go.Proofs.Ytebfilljdnhccaa.PA
open Go.RowKit Go.Proofs.YtebfilljdnhccaaW.PrintWords Go.Proofs.YtebfilljdnhccaaW.PrintLast Go.Proofs.Ytebfilljdnhccaa.Plain

end Go.Proofs.Ytebfilljdnhccaa.PA
/- Of two values which is below: what the program's and the document's functions come to. -/
namespace Go.Proofs.Ytebfilljdnhccaa.PA
open Go.RowKit Go.Proofs.YtebfilljdnhccaaW.PrintWords Go.Proofs.YtebfilljdnhccaaW.PrintLast Go.Proofs.Ytebfilljdnhccaa.Plain

/-- -1, 0, 1 of two values; 0, if one may not be. -/
def cmpV (k n : Int) (f : Nat) (s : List UInt8) (k' n' : Int) (f' : Nat) (s' : List UInt8) : Int :=
  if mayB k n f s = true then if mayB k' n' f' s' = true then cmpL (encV k n f s) (encV k' n' f' s') else 0 else 0
theorem cmpV_turn (k n : Int) (f : Nat) (s : List UInt8) (k' n' : Int) (f' : Nat) (s' : List UInt8) : cmpV k' n' f' s' k n f s = -cmpV k n f s k' n' f' s' := by
  unfold cmpV
  by_cases h : mayB k n f s = true <;> by_cases h' : mayB k' n' f' s' = true <;> simp [h, h', cmpL_turn (encV k n f s)]
theorem cmpL_bounds (a b : List UInt8) : -1 ≤ cmpL a b ∧ cmpL a b ≤ 1 := by unfold cmpL; split <;> (try split) <;> omega
theorem cmpV_bounds (k n : Int) (f : Nat) (s : List UInt8) (k' n' : Int) (f' : Nat) (s' : List UInt8) : -1 ≤ cmpV k n f s k' n' f' s' ∧ cmpV k n f s k' n' f' s' ≤ 1 := by
  unfold cmpV
  have := cmpL_bounds (encV k n f s) (encV k' n' f' s')
  split <;> (try split) <;> omega
end Go.Proofs.Ytebfilljdnhccaa.PA
/- The bytes of several values: what the program's and the document's functions come to. -/
namespace Go.Proofs.Ytebfilljdnhccaa.PA
open Go.RowKit Go.Proofs.YtebfilljdnhccaaW.PrintWords Go.Proofs.YtebfilljdnhccaaW.PrintLast Go.Proofs.Ytebfilljdnhccaa.Plain

abbrev Vc := S44
/-- What a value in memory is like. -/
def Vc.Good (x : Vc) : Prop := (Lit.int .i64 x.f0).wf = true ∧ (Lit.int .i64 x.f1).wf = true ∧ (Lit.int .u64 x.f2).wf = true ∧ x.f3.size ≤ maxLen
/-- The bytes of one, or an error's number. -/
def Vc.put (x : Vc) : List UInt8 × Int := putV x.f0 x.f1 x.f2.toNat x.f3.data.toList
theorem Vc.float {x : Vc} (g : x.Good) : x.f2 = ((x.f2.toNat : Nat) : Int) ∧ x.f2.toNat < 18446744073709551616 := by
  obtain ⟨y, hy, hl⟩ := u64_nat g.2.2.1
  rw [hy, Int.toNat_natCast]; exact ⟨rfl, hl⟩
theorem Vc.ok {x : Vc} (g : x.Good) (h : x.put.2 = 0) : ∃ v : V, v.Ok ∧ x.f0 = v.k ∧ x.f1 = v.n ∧ x.f2 = ((v.f : Nat) : Int) ∧ x.f3.data.toList = v.s ∧ x.put.1 = v.enc := by
  unfold Vc.put putV at h ⊢
  by_cases hm : mayB x.f0 x.f1 x.f2.toNat x.f3.data.toList = true
  · obtain ⟨v, hv, e1, e2, e3, e4⟩ := view hm (i64_bounds g.2.1) (Vc.float g).2
    rw [if_pos hm]
    refine ⟨v, hv, e1, e2, ?_, e4, ?_⟩
    · rw [← e3]; exact (Vc.float g).1
    · rw [e1, e2, e3, e4]; exact V.enc_is v
  · rw [if_neg hm] at h; cases h
theorem Vc.put_length {x : Vc} (g : x.Good) : x.put.1.length ≤ 83 := by
  by_cases h : x.put.2 = 0
  · obtain ⟨v, hv, _, _, _, _, e⟩ := Vc.ok g h
    rw [e]; exact V.enc_length v hv
  · unfold Vc.put putV at h ⊢
    by_cases hm : mayB x.f0 x.f1 x.f2.toNat x.f3.data.toList = true
    · rw [if_pos hm] at h; exact absurd rfl h
    · rw [if_neg hm]; decide
theorem vc_put_is {x : Vc} (g : x.Good) (K : Nat) (hK : 50 ≤ K) : value_Put.f K x.f0 x.f1 x.f2 x.f3 = some (txt x.put.1, x.put.2) := by
  have := value_put_is (k := x.f0) g.2.1 (Vc.float g).2 x.f3 K hK
  rw [← (Vc.float g).1] at this
  exact this
/-- The bytes of several. -/
def putT : List Vc → List UInt8 × Int
  | [] => ([], 0)
  | x :: r => if x.put.2 = 0 then (if (putT r).2 = 0 then (x.put.1 ++ (putT r).1, 0) else ([], (putT r).2)) else ([], x.put.2)
def ansT (acc : List UInt8) (q : List UInt8 × Int) : ByteArray × Int := if q.2 = 0 then (txt (acc ++ q.1), 0) else (⟨#[]⟩, q.2)
theorem putT_eq (x : Vc) (r : List Vc) : putT (x :: r) = if x.put.2 = 0 then (if (putT r).2 = 0 then (x.put.1 ++ (putT r).1, 0) else ([], (putT r).2)) else ([], x.put.2) := rfl
theorem ansT_cons (acc : List UInt8) (x : Vc) (r : List Vc) : ansT acc (putT (x :: r)) = if x.put.2 = 0 then ansT (acc ++ x.put.1) (putT r) else (⟨#[]⟩, x.put.2) := by
  by_cases h : x.put.2 = 0
  · by_cases h2 : (putT r).2 = 0
    · have e : putT (x :: r) = (x.put.1 ++ (putT r).1, 0) := by rw [putT_eq, if_pos h, if_pos h2]
      rw [e, if_pos h]
      unfold ansT
      rw [if_pos rfl, if_pos h2, List.append_assoc]
    · have e : putT (x :: r) = ([], (putT r).2) := by rw [putT_eq, if_pos h, if_neg h2]
      rw [e, if_pos h]
      unfold ansT
      rw [if_neg h2, if_neg h2]
  · have e : putT (x :: r) = ([], x.put.2) := by rw [putT_eq, if_neg h]
    rw [e, if_neg h]
    unfold ansT
    rw [if_neg h]
theorem rd_at (l : List Vc) (i : Nat) (h : i < l.length) : ∃ x : Vc, rd_T44 l (i : Int) = x ∧ x ∈ l ∧ l.drop i = x :: l.drop (i + 1) := by
  refine ⟨l[i], ?_, List.getElem_mem h, List.drop_eq_getElem_cons h⟩
  unfold rd_T44
  rw [Int.toNat_natCast]
  simp [h]
end Go.Proofs.Ytebfilljdnhccaa.PA
/- Values in memory: the bytes of several, cut at a place; which of two is below. -/
namespace Go.Proofs.Ytebfilljdnhccaa.PA
open Go.RowKit Go.Proofs.YtebfilljdnhccaaW.PrintWords Go.Proofs.YtebfilljdnhccaaW.PrintLast Go.Proofs.Ytebfilljdnhccaa.Plain

theorem beq_of {p q : Bool} (h : p = true ↔ q = true) : (p == q) = true := by cases p <;> cases q <;> simp_all
theorem putT_cons {x : Vc} {r : List Vc} (h : (putT (x :: r)).2 = 0) : x.put.2 = 0 ∧ (putT r).2 = 0 ∧ (putT (x :: r)).1 = x.put.1 ++ (putT r).1 := by
  simp only [putT] at h ⊢
  by_cases h1 : x.put.2 = 0
  · rw [if_pos h1] at h
    by_cases h2 : (putT r).2 = 0
    · exact ⟨h1, h2, by rw [if_pos h1, if_pos h2]⟩
    · rw [if_neg h2] at h; exact absurd h h2
  · rw [if_neg h1] at h; exact absurd h h1
theorem putT_cut : ∀ (l : List Vc) (m : Nat), (putT l).2 = 0 → (putT (l.take m)).2 = 0 ∧ (putT (l.drop m)).2 = 0 ∧ (putT l).1 = (putT (l.take m)).1 ++ (putT (l.drop m)).1
  | [], m, _ => by simp [putT]
  | x :: r, 0, h => by rw [List.take_zero, List.drop_zero]; exact ⟨rfl, h, rfl⟩
  | x :: r, m + 1, h => by
    obtain ⟨h1, h2, h3⟩ := putT_cons h
    obtain ⟨i1, i2, i3⟩ := putT_cut r m h2
    rw [List.take_succ_cons, List.drop_succ_cons, h3, i3, putT_eq x (r.take m), if_pos h1, if_pos i1]
    exact ⟨rfl, i2, by rw [List.append_assoc]⟩
/-- -1, 0, 1 of two. -/
def vcmp (x y : Vc) : Int := cmpV x.f0 x.f1 x.f2.toNat x.f3.data.toList y.f0 y.f1 y.f2.toNat y.f3.data.toList
theorem vc_cmp {x y : Vc} (hx : x.put.2 = 0) (hy : y.put.2 = 0) : vcmp x y = cmpL x.put.1 y.put.1 := by
  unfold Vc.put putV at hx hy ⊢
  unfold vcmp cmpV
  by_cases h1 : mayB x.f0 x.f1 x.f2.toNat x.f3.data.toList = true
  · by_cases h2 : mayB y.f0 y.f1 y.f2.toNat y.f3.data.toList = true
    · rw [if_pos h1, if_pos h2, if_pos h1, if_pos h2]
    · rw [if_neg h2] at hy; cases hy
  · rw [if_neg h1] at hx; cases hx
theorem less_vc {x y : Vc} (gx : x.Good) (gy : y.Good) (hx : x.put.2 = 0) (hy : y.put.2 = 0) (p q : List UInt8) : less (x.put.1 ++ p) (y.put.1 ++ q) = if x.put.1 = y.put.1 then less p q else less x.put.1 y.put.1 := by
  obtain ⟨v, hv, _, _, _, _, ev⟩ := Vc.ok gx hx
  obtain ⟨u, hu, _, _, _, _, eu⟩ := Vc.ok gy hy
  rw [ev, eu, V.less_app]
/-- Values are the same where their bytes are. -/
theorem vc_put_eq {x y : Vc} (gx : x.Good) (gy : y.Good) (hx : x.put.2 = 0) (hy : y.put.2 = 0) : x.put.1 = y.put.1 ↔ (x.f0 = y.f0 ∧ x.f1 = y.f1 ∧ x.f2 = y.f2 ∧ x.f3.data.toList = y.f3.data.toList) := by
  obtain ⟨v, hv, a1, a2, a3, a4, ev⟩ := Vc.ok gx hx
  obtain ⟨u, hu, b1, b2, b3, b4, eu⟩ := Vc.ok gy hy
  rw [ev, eu, V.enc_eq hv hu, a1, a2, a3, a4, b1, b2, b3, b4]
  constructor
  · rintro rfl; exact ⟨rfl, rfl, rfl, rfl⟩
  · rintro ⟨h1, h2, h3, h4⟩; exact V.fields_inj h1 h2 (by omega) h4
end Go.Proofs.Ytebfilljdnhccaa.PA
/- Cells as bytes: what the program's and the document's functions come to, in plain lists. -/
namespace Go.Proofs.Ytebfilljdnhccaa.PA
open Go.RowKit Go.Proofs.YtebfilljdnhccaaW.PrintWords Go.Proofs.YtebfilljdnhccaaW.PrintLast Go.Proofs.Ytebfilljdnhccaa.Plain

abbrev Cel := S46
def Cel.Good (c : Cel) : Prop := (Lit.int .i64 c.f0).wf = true ∧ Vc.Good c.f1
theorem num1_good (k n : Int) (hk : (Lit.int .i64 k).wf = true) (hn : (Lit.int .i64 n).wf = true) : Vc.Good (⟨k, n, 0, ⟨#[]⟩⟩ : Vc) := ⟨hk, hn, by show (Lit.int .u64 0).wf = true; decide, by show 0 ≤ maxLen; unfold maxLen; omega⟩
theorem rdl_at (l : List Cel) (i : Nat) (h : i < l.length) : ∃ x : Cel, rd_T46 l (i : Int) = x ∧ x ∈ l ∧ l.drop i = x :: l.drop (i + 1) := by
  refine ⟨l[i], ?_, List.getElem_mem h, List.drop_eq_getElem_cons h⟩
  unfold rd_T46
  rw [Int.toNat_natCast]
  simp [h]
/-- A column's number in two bytes. -/
def two (c : Nat) : List UInt8 := [UInt8.ofNat (c / 256 % 256), UInt8.ofNat (c % 256)]
theorem two_is (c : Nat) : bytesI (two c) = [((c : Int) / 256) % 256, (c : Int) % 256] := by
  unfold two bytesI
  simp only [List.map_cons, List.map_nil, UInt8.toNat_ofNat']
  congr 1
  · omega
  · congr 1; omega
/-- The bytes of cells behind a column, or an error's number. -/
def rowB : Int → List Cel → List UInt8 × Int
  | _, [] => ([], 0)
  | last, c :: r => if (Vc.put c.f1).2 = 0 ∧ last < c.f0 ∧ c.f0 ≤ 65535 then (if (rowB c.f0 r).2 = 0 then (two c.f0.toNat ++ (Vc.put c.f1).1 ++ (rowB c.f0 r).1, 0) else ([], 1)) else ([], 1)
theorem rowB_cons (last : Int) (c : Cel) (r : List Cel) : rowB last (c :: r) = if (Vc.put c.f1).2 = 0 ∧ last < c.f0 ∧ c.f0 ≤ 65535 then (if (rowB c.f0 r).2 = 0 then (two c.f0.toNat ++ (Vc.put c.f1).1 ++ (rowB c.f0 r).1, 0) else ([], 1)) else ([], 1) := rfl
theorem rowB_err (l : List Cel) : ∀ last, (rowB last l).2 = 0 ∨ rowB last l = ([], 1) := by
  cases l with
  | nil => intro last; exact .inl rfl
  | cons c r =>
    intro last
    rw [rowB_cons]
    split
    · split
      · exact .inl rfl
      · exact .inr rfl
    · exact .inr rfl
/-- What is told: bytes behind others, or an error. -/
def ansR (acc : List UInt8) (q : List UInt8 × Int) : ByteArray × Int := if q.2 = 0 then (txt (acc ++ q.1), 0) else (txt [], 1)
theorem ansR_cons (acc : List UInt8) (last : Int) (c : Cel) (r : List Cel) : ansR acc (rowB last (c :: r)) = if (Vc.put c.f1).2 = 0 ∧ last < c.f0 ∧ c.f0 ≤ 65535 then ansR (acc ++ (two c.f0.toNat ++ (Vc.put c.f1).1)) (rowB c.f0 r) else (txt [], 1) := by
  rw [rowB_cons]
  by_cases h : (Vc.put c.f1).2 = 0 ∧ last < c.f0 ∧ c.f0 ≤ 65535
  · rw [if_pos h, if_pos h]
    by_cases h2 : (rowB c.f0 r).2 = 0
    · rw [if_pos h2]; unfold ansR; rw [if_pos rfl, if_pos h2]; simp only [List.append_assoc]
    · rw [if_neg h2]; unfold ansR; rw [if_neg (by decide), if_neg h2]
  · rw [if_neg h, if_neg h]; rfl
theorem vcput_is {x : Vc} (g : x.Good) (K : Nat) (hK : 50 ≤ K) : value_Put.f K x.f0 x.f1 x.f2 x.f3 = some (txt x.put.1, x.put.2) := vc_put_is g K hK
theorem bytesOf_txt2 (l : List UInt8) : bytesOf (txt l) = bytesI l := by
  unfold bytesOf bytesI
  rw [txt_data]
/-- The step of both: what is appended. -/
theorem two_step (acc p : List UInt8) (c : Int) (h0 : 0 ≤ c) : (bytesI acc ++ [c / 256 % 256, c % 256]) ++ bytesI p = bytesI (acc ++ (two c.toNat ++ p)) := by
  obtain ⟨n, rfl⟩ : ∃ n : Nat, c = (n : Int) := ⟨c.toNat, by omega⟩
  rw [Int.toNat_natCast, ← two_is, ← bytesI_append, ← bytesI_append, List.append_assoc]
theorem row_put_from (l : List Cel) (g : ∀ c ∈ l, Cel.Good c) (hl : l.length ≤ 1000) (d : Nat) : ∀ (k i : Nat) (acc : List UInt8) (last : Int), i + d = l.length → d + 60 ≤ k → acc.length ≤ 85 * i → 0 ≤ last →
    row_Put.l0 k (bytesI acc) last l (l.length : Int) (i : Int) = some (ansR acc (rowB last (l.drop i))) := by
  induction d with
  | zero =>
    intro k i acc last hi hk ha h0
    obtain ⟨k, rfl⟩ : ∃ m, k = m + 1 := ⟨k - 1, by omega⟩
    simp only [row_Put.l0]
    rw [if_neg (by omega), List.drop_eq_nil_of_le (by omega), str_bytesI]
    have e : rowB last [] = ([], 0) := rfl
    rw [e]
    unfold ansR
    rw [if_pos rfl, List.append_nil]; rfl
  | succ d ih =>
    intro k i acc last hi hk ha h0
    obtain ⟨k, rfl⟩ : ∃ m, k = m + 1 := ⟨k - 1, by omega⟩
    obtain ⟨c, hc, hm, hd⟩ := rdl_at l i (by omega)
    have gc := g c hm
    have hpl := Vc.put_length gc.2
    simp only [row_Put.l0]
    rw [if_pos (by omega), if_pos (by omega), if_pos (by omega), hc, vcput_is gc.2 k (by omega), Option.bind_some, hd, ansR_cons]
    dsimp only
    by_cases h1 : (Vc.put c.f1).2 = 0
    · rw [if_pos h1]
      by_cases h2 : c.f0 ≤ last
      · rw [if_pos h2, if_neg (fun e => by omega)]; rfl
      rw [if_neg h2]
      by_cases h3 : c.f0 > 65535
      · rw [if_pos h3, if_neg (fun e => by omega)]; rfl
      rw [if_neg h3, if_pos ⟨h1, by omega, by omega⟩, Option.bind_some, if_pos (by rw [bytesI_length]; show _ + 2 < _; omega), Option.bind_some, if_pos (by rw [List.length_append, bytesI_length, txt_size]; show _ + 2 + _ < _; omega), bytesOf_txt2, two_step _ _ _ (by omega), show wrap64 ((i : Int) + 1) = ((i + 1 : Nat) : Int) by unfold wrap64; omega]
      exact ih k (i + 1) _ _ (by omega) (by omega) (by rw [List.length_append, List.length_append]; show _ + (2 + _) ≤ _; omega) (by omega)
    · rw [if_neg h1, if_neg (fun e => h1 e.1)]; rfl
theorem row_put_is (l : List Cel) (g : ∀ c ∈ l, Cel.Good c) (hl : l.length ≤ 1000) (k : Nat) (hk : l.length + 60 ≤ k) : row_Put.f k l = some (ansR [] (rowB 0 l)) := by
  have := row_put_from l g hl l.length k 0 [] 0 (by omega) (by omega) (by decide) (by decide)
  rw [List.drop_zero] at this
  exact this
/-- The examples hold. -/
theorem row_awake_true (k : Nat) (hk : 70 ≤ k) : falseworklaw4_awake.f k = some true := by
  unfold falseworklaw4_awake.f falseworklaw4_num.f
  have g : ∀ c ∈ [(⟨1, ⟨2, 1, 0, ⟨#[]⟩⟩⟩ : Cel)], Cel.Good c := by
    intro c hc
    rcases List.mem_cons.1 hc with rfl | hc
    · exact ⟨by show (Lit.int .i64 1).wf = true; decide, num1_good 2 1 (by decide) (by decide)⟩
    · cases hc
  rw [row_put_is _ g (by decide) k (by show 1 + 60 ≤ k; omega)]
  have e : rowB 0 [(⟨1, ⟨2, 1, 0, ⟨#[]⟩⟩⟩ : Cel)] = ([0, 1, 4, 128, 0, 0, 0, 0, 0, 0, 1], 0) := by decide +kernel
  rw [e]
  unfold ansR
  simp only [Option.bind_some, if_true, toList_data, txt_data, List.nil_append]
  rfl
theorem row_long_from (l : List Cel) (d : Nat) : ∀ (k i : Nat), i + d = 500 → 2 * d + 2 ≤ k → ∃ b, falseworklaw4_long.l0 k l (i : Int) = some b ∧ (b = false → l.length ≤ 500) := by
  have out : ∀ k i, 2 ≤ k → ∃ b, falseworklaw4_long.j1 (k - 1) l i false = some b ∧ (b = false → l.length ≤ 500) := fun k i hk => by
    obtain ⟨k, rfl⟩ : ∃ m, k = m + 2 := ⟨k - 2, by omega⟩
    exact ⟨_, rfl, fun h => by have := of_decide_eq_false h; omega⟩
  induction d with
  | zero =>
    intro k i hi hk
    obtain ⟨k, rfl⟩ : ∃ m, k = m + 2 := ⟨k - 2, by omega⟩
    simp only [falseworklaw4_long.l0]
    rw [show decide ((i : Int) < 500) = false from decide_eq_false (by omega)]
    split <;> exact out (k + 2) _ (by omega)
  | succ d ih =>
    intro k i hi hk
    obtain ⟨k, rfl⟩ : ∃ m, k = m + 2 := ⟨k - 2, by omega⟩
    simp only [falseworklaw4_long.l0]
    by_cases h : (i : Int) < (l.length : Int)
    · rw [if_pos h, decide_eq_true (show (i : Int) < 500 by omega)]
      simp only [falseworklaw4_long.j1, if_true]
      rw [if_pos (by omega), if_pos h]
      split
      · exact ⟨true, rfl, fun h => by cases h⟩
      · rw [show wrap64 ((i : Int) + 1) = ((i + 1 : Nat) : Int) by unfold wrap64; omega]
        exact ih k (i + 1) (by omega) (by omega)
    · rw [if_neg h]; exact out (k + 2) _ (by omega)
theorem row_long_is (l : List Cel) (k : Nat) (hk : 1002 ≤ k) : ∃ b, falseworklaw4_long.f k l = some b ∧ (b = false → l.length ≤ 500) := row_long_from l 500 k 0 rfl hk
end Go.Proofs.Ytebfilljdnhccaa.PA
/- With, and without a cell: what the program's and the document's functions come to. -/
namespace Go.Proofs.Ytebfilljdnhccaa.PA
open Go.RowKit Go.Proofs.YtebfilljdnhccaaW.PrintWords Go.Proofs.YtebfilljdnhccaaW.PrintLast Go.Proofs.Ytebfilljdnhccaa.Plain

/-- Cells without those of a column. -/
def without (col : Int) (l : List Cel) : List Cel := l.filter fun c => !(row_Without.is col c)
theorem without_cons (col : Int) (c : Cel) (r : List Cel) : without col (c :: r) = if c.f0 = col then without col r else c :: without col r := by
  unfold without
  by_cases h : c.f0 = col
  · rw [if_pos h, List.filter_cons_of_neg (by simp [row_Without.is, h])]
  · rw [if_neg h, List.filter_cons_of_pos (by simp [row_Without.is, h])]
theorem without_length (col : Int) (l : List Cel) : (without col l).length ≤ l.length := List.length_filter_le _ _
theorem without_is (l : List Cel) (hl : l.length < 1000000) (col : Int) : row_Without.f l col = some (without col l) := by
  unfold row_Without.f without
  rw [if_pos hl]
theorem ins_nil (x : Cel) : row_With.ins x [] = [x] := rfl
theorem ins_cons (x c : Cel) (r : List Cel) : row_With.ins x (c :: r) = if x.f0 < c.f0 then x :: c :: r else c :: row_With.ins x r := by
  unfold row_With.ins
  rw [List.findIdx?_cons]
  by_cases h : x.f0 < c.f0
  · have e : row_With.is x.f0 c = true := decide_eq_true h
    rw [if_pos h, e]; rfl
  · have e : row_With.is x.f0 c = false := decide_eq_false h
    rw [if_neg h, e]
    cases hf : List.findIdx? (row_With.is x.f0) r with
    | none => rfl
    | some i => rfl
theorem ins_length (x : Cel) (l : List Cel) : (row_With.ins x l).length = l.length + 1 := by
  induction l with
  | nil => rfl
  | cons c r ih =>
    rw [ins_cons]
    split
    · rfl
    · rw [List.length_cons, ih]; rfl
theorem with_is (l : List Cel) (hl : l.length < 1000000) (col k n f : Int) (s : ByteArray) : row_With.f l col k n f s = some (row_With.ins ⟨col, ⟨k, n, f, s⟩⟩ (without col l)) := by
  unfold row_With.f
  rw [without_is l hl]
  rfl
/-- What is put in is taken out again. -/
theorem without_ins (x : Cel) (l : List Cel) : without x.f0 (row_With.ins x l) = without x.f0 l := by
  induction l with
  | nil => rw [ins_nil, without_cons, if_pos rfl]
  | cons c r ih =>
    rw [ins_cons]
    split
    · rw [without_cons, if_pos rfl]
    · rw [without_cons, without_cons, ih]
theorem without_twice (col : Int) (l : List Cel) : without col (without col l) = without col l := by
  unfold without
  rw [List.filter_filter]
  congr 1
  funext c
  simp
theorem samec_from (l : List Cel) (hl : l.length ≤ 1000000) (d : Nat) : ∀ (k i : Nat), i + d = l.length → d < k → falseworkref4_Same.l0 k l l (i : Int) = some true := by
  induction d with
  | zero =>
    intro k i hi hk
    obtain ⟨k, rfl⟩ : ∃ m, k = m + 1 := ⟨k - 1, by omega⟩
    simp only [falseworkref4_Same.l0]
    rw [if_neg (by omega)]
  | succ d ih =>
    intro k i hi hk
    obtain ⟨k, rfl⟩ : ∃ m, k = m + 1 := ⟨k - 1, by omega⟩
    simp only [falseworkref4_Same.l0]
    rw [if_pos (by omega), if_pos (by omega), if_pos (by omega), show wrap64 ((i : Int) + 1) = ((i + 1 : Nat) : Int) by unfold wrap64; omega]
    rw [if_neg (by simp)]
    exact ih k (i + 1) (by omega) (by omega)
theorem samec_is (l : List Cel) (hl : l.length ≤ 1000000) (k : Nat) (hk : l.length < k) : falseworkref4_Same.f k l l = some true := by
  unfold falseworkref4_Same.f
  rw [if_pos rfl]
  exact samec_from l hl l.length k 0 (by omega) hk
end Go.Proofs.Ytebfilljdnhccaa.PA
/- The values of cells over columns: what the document's function comes to; whether two rows of values are one. -/
namespace Go.Proofs.Ytebfilljdnhccaa.PA
open Go.RowKit Go.Proofs.YtebfilljdnhccaaW.PrintWords Go.Proofs.YtebfilljdnhccaaW.PrintLast Go.Proofs.Ytebfilljdnhccaa.Plain

abbrev Col := S51
theorem rdcol_at (l : List Col) (i : Nat) (h : i < l.length) : ∃ x : Col, rd_T51 l (i : Int) = x ∧ x ∈ l ∧ l.drop i = x :: l.drop (i + 1) := by
  refine ⟨l[i], ?_, List.getElem_mem h, List.drop_eq_getElem_cons h⟩
  unfold rd_T51
  rw [Int.toNat_natCast]
  simp [h]
/-- The value of the first cell of a column, or what else there is. -/
def firstV (id : Int) (d : Vc) : List Cel → Vc
  | [] => d
  | c :: r => if c.f0 = id then c.f1 else firstV id d r
theorem find_cons (id : Int) (c : Cel) (r : List Cel) : row_Fill.find id (c :: r) = if c.f0 = id then 0 else if row_Fill.find id r < 0 then -1 else row_Fill.find id r + 1 := by
  unfold row_Fill.find
  rw [List.findIdx?_cons]
  unfold row_Fill.is
  by_cases h : c.f0 = id
  · rw [if_pos (beq_iff_eq.2 h), if_pos h]; rfl
  · rw [if_neg (by simpa using h), if_neg h]
    cases hf : List.findIdx? (fun x : Cel => x.f0 == id) r with
    | none => simp
    | some i => simp; omega
theorem fill_first (l : List Cel) (c : Col) : row_Fill.one l c = firstV c.f0 c.f5 l := by
  unfold row_Fill.one
  induction l with
  | nil => rfl
  | cons x r ih =>
    rw [find_cons]
    show _ = if x.f0 = c.f0 then x.f1 else firstV c.f0 c.f5 r
    by_cases h : x.f0 = c.f0
    · rw [if_pos h, if_pos h, if_pos (by decide)]; rfl
    · rw [if_neg h, if_neg h, ← ih]
      by_cases h2 : row_Fill.find c.f0 r < 0
      · rw [if_pos h2, if_neg (by decide), if_neg (by omega)]
      · rw [if_neg h2, if_pos (by omega), if_pos (by omega)]
        unfold rd_T46
        rw [show (row_Fill.find c.f0 r + 1).toNat = (row_Fill.find c.f0 r).toNat + 1 by omega]
        rfl
end Go.Proofs.Ytebfilljdnhccaa.PA
