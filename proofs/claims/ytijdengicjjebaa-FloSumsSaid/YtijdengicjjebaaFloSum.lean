/- What the sum of two words comes to. -/
import Derived.Test.YtijdengicjjebaaPAx1
import Derived.Test.YtijdengicjjebaaFloFns
import Derived.Test.YtijdengicjjebaaFloN
namespace Go.Proofs.Ytijdengicjjebaa.PA
open Go.RowKit Go.Proofs.YtijdengicjjebaaW.PrintWords Go.Proofs.YtijdengicjjebaaW.PrintLast Go.Proofs.Ytijdengicjjebaa.Plain

theorem sg_is (x : Nat) (h : x < 18446744073709551616) : sg x = decide (9223372036854775808 ≤ x) := by
  unfold sg
  by_cases h1 : 9223372036854775808 ≤ x
  · rw [decide_eq_true h1, show x / 9223372036854775808 % 2 = 1 by omega]; rfl
  · rw [decide_eq_false h1, show x / 9223372036854775808 % 2 = 0 by omega]; rfl
theorem wordOf_lt (s : Bool) (r : Nat) (h : r < 9223372036854775808) : wordOf s r < 18446744073709551616 := by
  unfold wordOf; split <;> omega
theorem wordOf_self (x : Nat) (h : x < 18446744073709551616) : wordOf (sg x) (x % 9223372036854775808) = x := by
  rw [sg_is x h]; unfold wordOf
  by_cases h1 : 9223372036854775808 ≤ x
  · rw [decide_eq_true h1, if_pos rfl]; omega
  · rw [decide_eq_false h1, if_neg (by decide)]; omega
theorem sumW_lt (x y : Nat) : sumW x y < 18446744073709551616 := wordOf_lt _ _ (by omega)
theorem flo_sum_fin {x y : Nat} (h1 : x % 9223372036854775808 < 9218868437227405312) (h2 : y % 9223372036854775808 < 9218868437227405312) :
    flo_Sum.f (x : Int) (y : Int) = some ((canon (sumW x y) : Nat) : Int) := by
  have h := add_fin x y h1 h2
  unfold flo_Sum.f
  rw [Int.toNat_natCast, Int.toNat_natCast, show FloatKind.f64.format.add x y = some (sumW x y) from h]
  exact flo_canon_is (sumW_lt x y)
theorem flo_sum_nanr {x y : Nat} (h : 9218868437227405312 < y % 9223372036854775808) : flo_Sum.f (x : Int) (y : Int) = some 9221120237041090560 := by
  have e : FloatKind.f64.format.add x y = none := by
    show ((Ieee.double.read x).sum (Ieee.double.read y)).map _ = none
    rw [Go.Proofs.Ytijdengicjjebaa.Plain.read_nan y h]
    cases Ieee.double.read x <;> rfl
  unfold flo_Sum.f
  rw [Int.toNat_natCast, Int.toNat_natCast, e]
theorem flo_sum_nanl {x y : Nat} (h : 9218868437227405312 < x % 9223372036854775808) : flo_Sum.f (x : Int) (y : Int) = some 9221120237041090560 := by
  have e : FloatKind.f64.format.add x y = none := by
    show ((Ieee.double.read x).sum (Ieee.double.read y)).map _ = none
    rw [Go.Proofs.Ytijdengicjjebaa.Plain.read_nan x h]
    cases Ieee.double.read y <;> rfl
  unfold flo_Sum.f
  rw [Int.toNat_natCast, Int.toNat_natCast, e]
theorem write_inf (s : Bool) : Ieee.double.write (.infinity s) = wordOf s 9218868437227405312 := by
  cases s <;> decide
theorem flo_sum_infr {x y : Nat} (h1 : x % 9223372036854775808 < 9218868437227405312) (h2 : y % 9223372036854775808 = 9218868437227405312) (hy : y < 18446744073709551616) :
    flo_Sum.f (x : Int) (y : Int) = some (y : Int) := by
  have e : FloatKind.f64.format.add x y = some y := by
    show ((Ieee.double.read x).sum (Ieee.double.read y)).map _ = some y
    obtain ⟨m, p, e1, _⟩ := read_fin x h1
    rw [e1, read_inf y h2]
    show some (Ieee.double.write (.infinity (sg y))) = _
    rw [write_inf, ← h2, wordOf_self y hy]
  unfold flo_Sum.f
  rw [Int.toNat_natCast, Int.toNat_natCast, e]
  show flo_Canon.f (y : Int) = _
  rw [flo_canon_is hy]
  unfold canon
  rw [if_neg (by omega), if_neg (by omega)]
theorem flo_sum_infl {x y : Nat} (h1 : y % 9223372036854775808 < 9218868437227405312) (h2 : x % 9223372036854775808 = 9218868437227405312) (hy : x < 18446744073709551616) :
    flo_Sum.f (x : Int) (y : Int) = some (x : Int) := by
  have e : FloatKind.f64.format.add x y = some x := by
    show ((Ieee.double.read x).sum (Ieee.double.read y)).map _ = some x
    obtain ⟨m, p, e1, _⟩ := read_fin y h1
    rw [e1, read_inf x h2]
    show some (Ieee.double.write (.infinity (sg x))) = _
    rw [write_inf, ← h2, wordOf_self x hy]
  unfold flo_Sum.f
  rw [Int.toNat_natCast, Int.toNat_natCast, e]
  show flo_Canon.f (x : Int) = _
  rw [flo_canon_is hy]
  unfold canon
  rw [if_neg (by omega), if_neg (by omega)]
theorem sv_zero : sv 0 = 0 := by
  unfold sv; rw [show 0 % 9223372036854775808 = 0 from rfl, un_zero]; rfl
theorem sv_top : sv 9223372036854775808 = 0 := by
  unfold sv; rw [show 9223372036854775808 % 9223372036854775808 = 0 from rfl, un_zero]; rfl
theorem un_eq_zero {r : Nat} (h : un r = 0) : r = 0 := un_inj (h.trans un_zero.symm)
theorem sv_natAbs (x : Nat) : (sv x).natAbs = un (x % 9223372036854775808) := by
  unfold sv; split <;> omega
/-- A number that is a finite word's own: the word, or the nought. -/
theorem word_of_sv {x : Nat} (hx : x < 18446744073709551616) (h1 : x % 9223372036854775808 < 9218868437227405312) (b : Bool) :
    canon (wordOf (if sv x = 0 then b else decide (sv x < 0)) (min (near (sv x).natAbs) 9218868437227405312)) = canon x := by
  rw [sv_natAbs, near_un, Nat.min_eq_left (by omega)]
  by_cases hz : sv x = 0
  · rw [if_pos hz]
    have h2 : x % 9223372036854775808 = 0 := un_eq_zero (by rw [← sv_natAbs, hz]; rfl)
    rw [h2]
    have h3 : canon (wordOf b 0) = 0 := by cases b <;> decide
    rw [h3]
    unfold canon
    rw [if_neg (by omega)]
    split <;> omega
  · rw [if_neg hz]
    have h2 : decide (sv x < 0) = sg x := by
      have h3 : un (x % 9223372036854775808) ≠ 0 := fun h => hz (by unfold sv; rw [h]; split <;> rfl)
      unfold sv
      cases sg x
      · rw [if_neg (by decide)]; exact decide_eq_false (by omega)
      · rw [if_pos rfl]; exact decide_eq_true (by omega)
    rw [h2, wordOf_self x hx]
theorem sumW_zero {x z : Nat} (hx : x < 18446744073709551616) (h1 : x % 9223372036854775808 < 9218868437227405312) (hz : sv z = 0) : canon (sumW x z) = canon x := by
  unfold sumW
  rw [hz, Int.add_zero]
  exact word_of_sv hx h1 _
theorem sumW_comm (x y : Nat) : sumW x y = sumW y x := by
  unfold sumW
  rw [Int.add_comm (sv x), Bool.and_comm]
end Go.Proofs.Ytijdengicjjebaa.PA
