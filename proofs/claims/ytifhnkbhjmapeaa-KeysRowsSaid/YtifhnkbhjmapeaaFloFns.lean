/- What the functions of layer 1 come to on words of 64 bits: the one form, the place, the way back, the order. -/
import Derived.Test.YtifhnkbhjmapeaaPAx2
import Derived.Test.YtifhnkbhjmapeaaPAx5
import Derived.Test.YtifhnkbhjmapeaaPAx7
import Derived.Test.YtifhnkbhjmapeaaFlo
namespace Go.Proofs.Ytifhnkbhjmapeaa.PA
open Go.RowKit Go.Proofs.YtifhnkbhjmapeaaW.PrintWords Go.Proofs.YtifhnkbhjmapeaaW.PrintLast Go.Proofs.Ytifhnkbhjmapeaa.Plain

theorem u64_nat {a : Int} (h : (Lit.int .u64 a).wf = true) : ∃ x : Nat, a = (x : Int) ∧ x < 18446744073709551616 := by
  have h1 : IntKind.u64.min ≤ a ∧ a ≤ IntKind.u64.max := by simpa [Lit.wf] using h
  have h2 : IntKind.u64.min = 0 := by decide
  have h3 : IntKind.u64.max = 18446744073709551615 := by decide
  rw [h2, h3] at h1
  exact ⟨a.toNat, by omega, by omega⟩
theorem flo_canon_is {x : Nat} (h : x < 18446744073709551616) : flo_Canon.f (x : Int) = some ((canon x : Nat) : Int) := by
  unfold flo_Canon.f fcmp canon
  rw [Int.toNat_natCast, show Int.toNat 0 = 0 from rfl, nan_test]
  by_cases h1 : 9218868437227405312 < x % 9223372036854775808
  · rw [if_pos (decide_eq_true h1), if_pos h1]; rfl
  · rw [if_neg (by simp [h1]), if_neg h1, zero_test x h1]
    by_cases h2 : x % 9223372036854775808 = 0
    · rw [if_pos (decide_eq_true h2)]
      by_cases h3 : x = 9223372036854775808
      · rw [if_pos h3]; rfl
      · rw [if_neg h3]
        have : x = 0 := by omega
        rw [this]; rfl
    · rw [if_neg (by simp [h2]), if_neg (by omega)]
theorem flo_order_is {x : Nat} (h : x < 18446744073709551616) : flo_Order.f (x : Int) = some ((ordr x : Nat) : Int) := by
  have hc := canon_lt h
  unfold flo_Order.f ordr
  rw [flo_canon_is h, Option.bind_some, and_top hc]
  by_cases h1 : canon x < 9223372036854775808
  · rw [if_pos h1, if_pos rfl, or_top hc, if_pos h1, if_pos h1]
    exact congrArg some (by omega)
  · rw [if_neg h1, if_neg (by decide), xor_all hc, if_neg h1]
    exact congrArg some (by omega)
/-- Which of two numbers is below. -/
def cmpN (a b : Nat) : Int := if a < b then -1 else if b < a then 1 else 0
theorem ref_canon_is {x : Nat} (h : x < 18446744073709551616) : falseworkref1_Canon.f (x : Int) = some ((canon x : Nat) : Int) := by
  unfold falseworkref1_Canon.f canon
  rw [andNot_top h]
  by_cases h1 : 9218868437227405312 < x % 9223372036854775808
  · rw [if_pos (by omega), if_pos h1]; rfl
  · rw [if_neg (by omega), if_neg h1]
    by_cases h3 : x = 9223372036854775808
    · rw [if_pos (by omega), if_pos h3]; rfl
    · rw [if_neg (by omega), if_neg h3]
theorem ref_order_is {x : Nat} (h : x < 18446744073709551616) : falseworkref1_Order.f (x : Int) = some ((ordr x : Nat) : Int) := by
  have hc := canon_lt h
  unfold falseworkref1_Order.f ordr
  rw [ref_canon_is h, Option.bind_some, and_top hc]
  by_cases h1 : canon x < 9223372036854775808
  · rw [if_pos h1, if_pos rfl, or_top hc, if_pos h1, if_pos h1]
    exact congrArg some (by omega)
  · rw [if_neg h1, if_neg (by decide), xor_all hc, if_neg h1]
    exact congrArg some (by omega)
end Go.Proofs.Ytifhnkbhjmapeaa.PA
