/- Which values may be: what the program's and the document's functions come to. -/
import Derived.Test.YtifhnkbhjmapeaaPAx2
import Derived.Test.YtifhnkbhjmapeaaPAx6
import Derived.Test.YtifhnkbhjmapeaaFloFns
import Derived.Test.YtifhnkbhjmapeaaVal
namespace Go.Proofs.Ytifhnkbhjmapeaa.PA
open Go.RowKit Go.Proofs.YtifhnkbhjmapeaaW.PrintWords Go.Proofs.YtifhnkbhjmapeaaW.PrintLast Go.Proofs.Ytifhnkbhjmapeaa.Plain

theorem toList_data (s : ByteArray) : s.toList = s.data.toList := ByteArray.toList_eq s
theorem size_data (s : ByteArray) : s.size = s.data.toList.length := by rw [Array.length_toList]; rfl
theorem dec_beq (a b : Int) : (a == b) = decide (a = b) := by
  by_cases h : a = b
  · rw [h, decide_eq_true rfl]; simp
  · rw [decide_eq_false h]; simpa using h
theorem dec_cast (f : Nat) : decide ((f : Int) = 0) = decide (f = 0) := by
  by_cases h : f = 0
  · rw [h]; rfl
  · rw [decide_eq_false h, decide_eq_false (by omega)]
theorem isE (l : List UInt8) : (l == ([] : List UInt8)) = l.isEmpty := by cases l <;> rfl
theorem value_may_is (k n : Int) {f : Nat} (hf : f < 18446744073709551616) (s : ByteArray) : value_May.f k n (f : Int) s = some (mayB k n f s.data.toList) := by
  unfold value_May.f mayB
  rw [toList_data, size_data]
  by_cases h0 : k = 0
  · rw [if_pos h0, if_pos h0, dec_beq, dec_beq, dec_cast]
  rw [if_neg h0, if_neg h0]
  by_cases h1 : k = 1
  · rw [if_pos h1, if_pos h1, dec_beq, dec_cast]
    by_cases n0 : n = 0
    · rw [if_pos n0, n0]; rfl
    · rw [if_neg n0]
      by_cases n1 : n = 1
      · rw [if_pos n1, n1]; rfl
      · rw [if_neg n1, decide_eq_false n0, decide_eq_false n1]; rfl
  rw [if_neg h1, if_neg h1]
  by_cases h2 : k = 2
  · rw [if_pos h2, if_pos h2, dec_beq, dec_cast]
  rw [if_neg h2, if_neg h2]
  by_cases h3 : k = 3
  · rw [if_pos h3, if_pos h3, flo_canon_is hf, Option.bind_some, dec_beq]
    by_cases hc : canon f = f
    · rw [if_pos (by omega), decide_eq_true hc, Bool.true_and]
    · rw [if_neg (by omega), decide_eq_false hc, Bool.false_and, Bool.and_false]
  rw [if_neg h3, if_neg h3]
  have key : (if ((s.data.toList.length : Nat) : Int) > 40 then some false else some (n == 0 && (f : Int) == 0)) = some (decide (n = 0) && (decide (f = 0) && decide (s.data.toList.length ≤ 40))) := by
    rw [dec_beq, dec_beq, dec_cast]
    by_cases hl : s.data.toList.length ≤ 40
    · rw [if_neg (by omega), decide_eq_true hl, Bool.and_true]
    · rw [if_pos (by omega), decide_eq_false hl, Bool.and_false, Bool.and_false]
  by_cases h4 : k = 4
  · rw [if_pos h4, if_pos h4, key]
  rw [if_neg h4, if_neg h4]
  by_cases h5 : k = 5
  · rw [if_pos h5, if_pos h5, key]
  rw [if_neg h5, if_neg h5]
theorem ref_may_is (k n : Int) {f : Nat} (hf : f < 18446744073709551616) (s : ByteArray) : falseworkref2_May.f k n (f : Int) s = some (mayB k n f s.data.toList) := by
  unfold falseworkref2_May.f mayB
  rw [toList_data, size_data, isE]
  have c0 : ((f : Int) = 0) = (f = 0) := by apply propext; omega
  have kE : (if s.data.toList = ([] : List UInt8) then True else False) = (s.data.toList.isEmpty = true) := by
    cases s.data.toList <;> simp
  by_cases h0 : k = 0
  · rw [if_pos h0, if_pos h0]
    by_cases hn : n = 0 <;> by_cases hz : f = 0 <;> simp [hn, hz]
  rw [if_neg h0, if_neg h0]
  by_cases h1 : k = 1
  · rw [if_pos h1, if_pos h1]
    by_cases hn : n = 0
    · by_cases hz : f = 0 <;> simp [hn, hz]
    · by_cases hn1 : n = 1 <;> by_cases hz : f = 0 <;> simp [hn, hn1, hz]
  rw [if_neg h1, if_neg h1]
  by_cases h2 : k = 2
  · rw [if_pos h2, if_pos h2]
    by_cases hz : f = 0 <;> simp [hz]
  rw [if_neg h2, if_neg h2]
  by_cases h3 : k = 3
  · rw [if_pos h3, if_pos h3, ref_canon_is hf, Option.bind_some, dec_beq]
    have hcd : decide (((canon f : Nat) : Int) = (f : Int)) = decide (canon f = f) := by
      by_cases hc : canon f = f
      · rw [decide_eq_true hc, decide_eq_true (by omega)]
      · rw [decide_eq_false hc, decide_eq_false (by omega)]
    rw [hcd]
    by_cases hn : n = 0
    · rw [if_pos hn, decide_eq_true hn, Bool.true_and]
      cases hl : s.data.toList with
      | nil => rw [if_pos rfl]; simp
      | cons a r => rw [if_neg (by simp)]; simp
    · rw [if_neg hn, decide_eq_false hn, Bool.false_and]
  rw [if_neg h3, if_neg h3]
  have key : (if n = 0 then (if (f : Int) = 0 then some (decide (((s.data.toList.length : Nat) : Int) ≤ 40)) else some false) else some false) = some (decide (n = 0) && (decide (f = 0) && decide (s.data.toList.length ≤ 40))) := by
    have hl : decide (((s.data.toList.length : Nat) : Int) ≤ 40) = decide (s.data.toList.length ≤ 40) := by
      by_cases h : s.data.toList.length ≤ 40
      · rw [decide_eq_true h, decide_eq_true (by omega)]
      · rw [decide_eq_false h, decide_eq_false (by omega)]
    rw [hl]
    by_cases hn : n = 0 <;> by_cases hz : f = 0 <;> simp [hn, hz]
  by_cases h4 : k = 4
  · rw [if_pos h4, if_pos h4, key]
  rw [if_neg h4, if_neg h4]
  by_cases h5 : k = 5
  · rw [if_pos h5, if_pos h5, key]
  rw [if_neg h5, if_neg h5]
end Go.Proofs.Ytifhnkbhjmapeaa.PA
