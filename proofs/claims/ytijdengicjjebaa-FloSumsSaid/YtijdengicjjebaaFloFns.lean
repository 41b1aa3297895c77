/- What the functions of layer 1 come to on words of 64 bits: the one form, the place, the way back, the order. -/
import Derived.Test.YtijdengicjjebaaPAx1
import Derived.Test.YtijdengicjjebaaPAx7
import Derived.Test.YtijdengicjjebaaPAx8
import Derived.Test.YtijdengicjjebaaFlo
namespace Go.Proofs.Ytijdengicjjebaa.PA
open Go.RowKit Go.Proofs.YtijdengicjjebaaW.PrintWords Go.Proofs.YtijdengicjjebaaW.PrintLast Go.Proofs.Ytijdengicjjebaa.Plain

theorem u64_nat {a : Int} (h : (Lit.int .u64 a).wf = true) : ∃ x : Nat, a = (x : Int) ∧ x < 18446744073709551616 := by
  have h1 : IntKind.u64.min ≤ a ∧ a ≤ IntKind.u64.max := by simpa [Lit.wf] using h
  have h2 : IntKind.u64.min = 0 := by decide
  have h3 : IntKind.u64.max = 18446744073709551615 := by decide
  rw [h2, h3] at h1
  exact ⟨a.toNat, by omega, by omega⟩
theorem flo_canon_is {x : Nat} (h : x < 18446744073709551616) : flo_Canon.f (x : Int) = some ((canon x : Nat) : Int) := by
  unfold flo_Canon.f fcmp canon
  rw [Int.toNat_natCast, show Int.toNat 0 = 0 from rfl, nan_test]
  by_cases h1 : 9218868437227405312 < x % 9223372036854775808
  · rw [if_pos (decide_eq_true h1), if_pos h1]; rfl
  · rw [if_neg (by simp [h1]), if_neg h1, zero_test x h1]
    by_cases h2 : x % 9223372036854775808 = 0
    · rw [if_pos (decide_eq_true h2)]
      by_cases h3 : x = 9223372036854775808
      · rw [if_pos h3]; rfl
      · rw [if_neg h3]
        have : x = 0 := by omega
        rw [this]; rfl
    · rw [if_neg (by simp [h2]), if_neg (by omega)]
theorem flo_order_is {x : Nat} (h : x < 18446744073709551616) : flo_Order.f (x : Int) = some ((ordr x : Nat) : Int) := by
  have hc := canon_lt h
  unfold flo_Order.f ordr
  rw [flo_canon_is h, Option.bind_some, and_top hc]
  by_cases h1 : canon x < 9223372036854775808
  · rw [if_pos h1, if_pos rfl, or_top hc, if_pos h1, if_pos h1]
    exact congrArg some (by omega)
  · rw [if_neg h1, if_neg (by decide), xor_all hc, if_neg h1]
    exact congrArg some (by omega)
theorem flo_back_is {x : Nat} (h : x < 18446744073709551616) : flo_Back.f (x : Int) = some (((back x).1 : Int), (back x).2) := by
  have hc : unplace x < 18446744073709551616 := unplace_lt h
  have key : (if x < 9223372036854775808 then (18446744073709551615 - (x : Int)) else ((x : Int) - 9223372036854775808)) = ((unplace x : Nat) : Int) := by unfold unplace; split <;> omega
  unfold flo_Back.f back
  rw [and_top h]
  by_cases h1 : x < 9223372036854775808
  · rw [if_pos h1] at key
    rw [if_pos h1, if_pos rfl, xor_all h, key, flo_canon_is hc, Option.bind_some]
    by_cases h2 : canon (unplace x) = unplace x
    · rw [if_pos (by rw [h2]), if_pos h2]
    · rw [if_neg (by omega), if_neg h2]; rfl
  · rw [if_neg h1] at key
    rw [if_neg h1, if_neg (by decide), xor_top h, if_neg h1, key, flo_canon_is hc, Option.bind_some]
    by_cases h2 : canon (unplace x) = unplace x
    · rw [if_pos (by rw [h2]), if_pos h2]
    · rw [if_neg (by omega), if_neg h2]; rfl
/-- Which of two numbers is below. -/
def cmpN (a b : Nat) : Int := if a < b then -1 else if b < a then 1 else 0
theorem flo_cmp_is {x y : Nat} (hx : x < 18446744073709551616) (hy : y < 18446744073709551616) : flo_Cmp.f (x : Int) (y : Int) = some (cmpN (ordr x) (ordr y)) := by
  unfold flo_Cmp.f cmpN
  rw [flo_order_is hx, flo_order_is hy, Option.bind_some, Option.bind_some]
  by_cases h1 : ordr x < ordr y
  · rw [if_pos (by omega), if_pos h1]
  · rw [if_neg (by omega), if_neg h1]
    by_cases h2 : ordr y < ordr x
    · rw [if_pos (by omega), if_pos h2]
    · rw [if_neg (by omega), if_neg h2]
theorem ref_canon_is {x : Nat} (h : x < 18446744073709551616) : falseworkref1_Canon.f (x : Int) = some ((canon x : Nat) : Int) := by
  unfold falseworkref1_Canon.f canon
  rw [andNot_top h]
  by_cases h1 : 9218868437227405312 < x % 9223372036854775808
  · rw [if_pos (by omega), if_pos h1]; rfl
  · rw [if_neg (by omega), if_neg h1]
    by_cases h3 : x = 9223372036854775808
    · rw [if_pos (by omega), if_pos h3]; rfl
    · rw [if_neg (by omega), if_neg h3]
theorem ref_order_is {x : Nat} (h : x < 18446744073709551616) : falseworkref1_Order.f (x : Int) = some ((ordr x : Nat) : Int) := by
  have hc := canon_lt h
  unfold falseworkref1_Order.f ordr
  rw [ref_canon_is h, Option.bind_some, and_top hc]
  by_cases h1 : canon x < 9223372036854775808
  · rw [if_pos h1, if_pos rfl, or_top hc, if_pos h1, if_pos h1]
    exact congrArg some (by omega)
  · rw [if_neg h1, if_neg (by decide), xor_all hc, if_neg h1]
    exact congrArg some (by omega)
theorem ref_cmp_is {x y : Nat} (hx : x < 18446744073709551616) (hy : y < 18446744073709551616) : falseworkref1_Cmp.f (x : Int) (y : Int) = some (cmpN (ordr x) (ordr y)) := by
  unfold falseworkref1_Cmp.f cmpN
  rw [ref_order_is hx, ref_order_is hy, Option.bind_some, Option.bind_some]
  by_cases h1 : ordr x < ordr y
  · rw [if_pos (by omega), if_pos h1]
  · rw [if_neg (by omega), if_neg h1]
    by_cases h2 : ordr y < ordr x
    · rw [if_pos (by omega), if_pos h2]
    · rw [if_neg (by omega), if_neg h2]
theorem ref_back_is {x : Nat} (h : x < 18446744073709551616) (k : Nat) (hk : 0 < k) : falseworkref1_Back.f k (x : Int) = some (((back x).1 : Int), (back x).2) := by
  obtain ⟨k, rfl⟩ : ∃ m, k = m + 1 := ⟨k - 1, by omega⟩
  have hc : unplace x < 18446744073709551616 := unplace_lt h
  have key : falseworkref1_Back.f (k + 1) (x : Int) = falseworkref1_Back.j0 (k + 1) (x : Int) ((unplace x : Nat) : Int) := by
    unfold falseworkref1_Back.f unplace
    rw [and_top h, andNot_top h, xor_all h]
    by_cases h1 : x < 9223372036854775808
    · rw [if_pos h1, if_pos rfl, if_pos h1, show (18446744073709551615 - (x : Int)) = ((18446744073709551615 - x : Nat) : Int) by omega]
    · rw [if_neg h1, if_neg (by decide), if_neg h1, show ((x % 9223372036854775808 : Nat) : Int) = ((x - 9223372036854775808 : Nat) : Int) by omega]
  rw [key]
  simp only [falseworkref1_Back.j0]
  unfold back
  rw [ref_order_is hc, ref_canon_is hc, Option.bind_some, Option.bind_some]
  by_cases h2 : canon (unplace x) = unplace x
  · rw [if_pos (by rw [ordr_unplace h h2]), if_pos (by rw [h2]), if_pos h2]
  · rw [if_neg (c := ((canon (unplace x) : Nat) : Int) = _) (by omega), if_neg h2]
    split <;> rfl
end Go.Proofs.Ytijdengicjjebaa.PA
