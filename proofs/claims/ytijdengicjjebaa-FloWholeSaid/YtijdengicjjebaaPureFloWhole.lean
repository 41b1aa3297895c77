/- Whole numbers up to 2 to the 52 are floats, in order, and their sums too; of any float that is one, the float is that one again: for all numbers and words of 64 bits. -/
import Derived.Test.YtijdengicjjebaaPAx1
import Derived.Test.YtijdengicjjebaaPAx8
import Derived.Test.YtijdengicjjebaaPAx10
import Derived.Test.YtijdengicjjebaaFloAwake
import Derived.Test.YtijdengicjjebaaFloInt
import Derived.Test.YtijdengicjjebaaFloSum
namespace Go.Proofs.Ytijdengicjjebaa.Pure
open Go.RowKit Go.Proofs.Ytijdengicjjebaa.PA Go.Proofs.YtijdengicjjebaaW.PrintWords Go.Proofs.YtijdengicjjebaaW.PrintLast Go.Proofs.Ytijdengicjjebaa.Plain
set_option exponentiation.threshold 4000

theorem canon_same_fin {z : Nat} (h : z % 9223372036854775808 < 9218868437227405312) : canon z % 9223372036854775808 < 9218868437227405312 ∧ sv (canon z) = sv z := by
  unfold canon
  rw [if_neg (by omega)]
  by_cases e : z = 9223372036854775808
  · rw [if_pos e, e, sv_zero, sv_top]; exact ⟨by decide, rfl⟩
  · rw [if_neg e]; exact ⟨h, rfl⟩
theorem whole_sum {x y : Int} (hx : x.natAbs < 4503599627370496) (hy : y.natAbs < 4503599627370496) :
    ∃ z : Nat, flo_Sum.f ((ofW x : Nat) : Int) ((ofW y : Nat) : Int) = some (z : Int) ∧ z % 9223372036854775808 < 9218868437227405312 ∧ sv z = (x + y) * ((2 ^ 1074 : Nat) : Int) := by
  obtain ⟨a1, a2⟩ := ofW_fin x (by omega)
  obtain ⟨b1, b2⟩ := ofW_fin y (by omega)
  have hm : (x + y).natAbs < 9007199254740992 := by omega
  have hl := near_lt _ hm
  have hs : sumW (ofW x) (ofW y) % 9223372036854775808 < 9218868437227405312 ∧ sv (sumW (ofW x) (ofW y)) = (x + y) * ((2 ^ 1074 : Nat) : Int) := by
    unfold sumW
    rw [a2, b2, ← Int.add_mul, Int.natAbs_mul, Int.natAbs_natCast, Nat.min_eq_left (by omega), wordOf_mod _ _ (by omega), sv_wordOf _ _ (by omega), un_near _ _ hm]
    refine ⟨hl, ?_⟩
    have hp : (0 : Int) < ((2 ^ 1074 : Nat) : Int) := by have : (0 : Nat) < 2 ^ 1074 := Nat.two_pow_pos _; omega
    have habs : (((x + y).natAbs * 2 ^ 1074 : Nat) : Int) = ((x + y).natAbs : Int) * ((2 ^ 1074 : Nat) : Int) := Int.natCast_mul _ _
    rw [habs]
    generalize ((2 ^ 1074 : Nat) : Int) = P at *
    by_cases hz : x + y = 0
    · rw [hz]; simp
    · have hne : ¬ (x + y) * P = 0 := by
        intro h; rcases Int.mul_eq_zero.1 h with h | h <;> omega
      rw [if_neg hne]
      by_cases hn : x + y < 0
      · have : (x + y) * P < 0 := Int.mul_neg_of_neg_of_pos hn hp
        rw [decide_eq_true this, if_pos rfl, ← Int.neg_mul]
        congr 1; omega
      · have : ¬ (x + y) * P < 0 := by
          have := Int.mul_nonneg (show 0 ≤ x + y by omega) (Int.le_of_lt hp); omega
        rw [decide_eq_false this, if_neg (by decide)]
        congr 1; omega
  obtain ⟨s1, s2⟩ := hs
  obtain ⟨c1, c2⟩ := canon_same_fin s1
  exact ⟨_, flo_sum_fin a1 b1, c1, c2.trans s2⟩
theorem whole_again {x : Nat} {n : Int} (hx : x < 18446744073709551616) (h : x % 9223372036854775808 < 9218868437227405312) (hv : sv x = n * ((2 ^ 1074 : Nat) : Int)) :
    canon (ofW n) = canon x := by
  have hp : (0 : Int) < ((2 ^ 1074 : Nat) : Int) := by have : (0 : Nat) < 2 ^ 1074 := Nat.two_pow_pos _; omega
  have hw := word_of_sv hx h false
  rw [← hw]
  have e1 : (if sv x = 0 then false else decide (sv x < 0)) = decide (n < 0) := by
    rw [hv]
    generalize ((2 ^ 1074 : Nat) : Int) = P at *
    by_cases hz : n = 0
    · rw [hz]; simp
    · have hne : ¬ n * P = 0 := by
        intro h; rcases Int.mul_eq_zero.1 h with h | h <;> omega
      rw [if_neg hne]
      apply decide_eq_decide.2
      constructor
      · intro h
        by_cases h1 : n < 0
        · exact h1
        · have := Int.mul_nonneg (show 0 ≤ n by omega) (Int.le_of_lt hp); omega
      · intro h; exact Int.mul_neg_of_neg_of_pos h hp
  have e2 : (sv x).natAbs = n.natAbs * 2 ^ 1074 := by rw [hv, Int.natAbs_mul, Int.natAbs_natCast]
  rw [e1, e2]
  rfl
theorem FloWhole : falseworklaw1_FloWhole.Pure := by
  intro a b f ha hb hf
  obtain ⟨z, rfl, hz⟩ := u64_nat hf
  have tm : ∀ c : Int, (Int.tmod c 4503599627370496).natAbs < 4503599627370496 := by
    intro c
    rw [Int.natAbs_tmod]
    exact Nat.mod_lt _ (by decide)
  unfold falseworklaw1_FloWhole.f
  have ta := tm a
  have tb := tm b
  generalize Int.tmod a 4503599627370496 = x at *
  generalize Int.tmod b 4503599627370496 = y at *
  have hp : (0 : Int) < ((2 ^ 1074 : Nat) : Int) := by have : (0 : Nat) < 2 ^ 1074 := Nat.two_pow_pos _; omega
  obtain ⟨a1, a2⟩ := ofW_fin x (by omega)
  obtain ⟨b1, b2⟩ := ofW_fin y (by omega)
  obtain ⟨s, s1, s2, s3⟩ := whole_sum ta tb
  rw [flo_of_is, flo_of_is, Option.bind_some, flo_int_whole a1 a2 (by omega) (by omega)]
  simp only [Option.bind_some]
  rw [s1, Option.bind_some, flo_int_whole s2 s3 (by omega) (by omega), flo_cmp_is (ofW_lt x) (ofW_lt y), cmp_fin (ofW_lt x) (ofW_lt y) a1 b1, a2, b2]
  have hw : x + y = wrap64 (x + y) := by unfold wrap64; omega
  have l1 : ∀ u v : Int, u * ((2 ^ 1074 : Nat) : Int) < v * ((2 ^ 1074 : Nat) : Int) ↔ u < v := fun u v => ⟨fun h => Int.lt_of_mul_lt_mul_right h (Int.le_of_lt hp), fun h => Int.mul_lt_mul_of_pos_right h hp⟩
  simp only [l1]
  have c1 : ((decide ((if x < y then (-1 : Int) else if y < x then 1 else 0) < 0)) == (decide (x < y))) = true := by
    by_cases h : x < y
    · rw [if_pos h, decide_eq_true h]; rfl
    · rw [if_neg h, decide_eq_false h]
      split <;> rfl
  have c2 : (((if x < y then (-1 : Int) else if y < x then 1 else 0) == 0) == (x == y)) = true := by
    by_cases h : x < y
    · rw [if_pos h, beq_eq_false_iff_ne.2 (show x ≠ y by omega)]; rfl
    · rw [if_neg h]
      by_cases h2 : y < x
      · rw [if_pos h2, beq_eq_false_iff_ne.2 (show x ≠ y by omega)]; rfl
      · rw [if_neg h2, beq_iff_eq.2 (show x = y by omega)]; rfl
  by_cases hh : z % 9223372036854775808 < 9218868437227405312 ∧ ∃ n : Int, sv z = n * ((2 ^ 1074 : Nat) : Int) ∧ -9223372036854775808 ≤ n ∧ n < 9223372036854775808
  · obtain ⟨h1, n, h2, h3, h4⟩ := hh
    have hcmp : flo_Cmp.f ((ofW n : Nat) : Int) (z : Int) = some 0 := by
      rw [flo_cmp_is (ofW_lt n) hz]
      have : ordr (ofW n) = ordr z := (ordr_inj (ofW_lt n) hz).2 (whole_again hz h1 h2)
      rw [this]; unfold cmpN; rw [if_neg (by omega), if_neg (by omega)]
    rw [flo_int_whole h1 h2 h3 h4]
    simp only [Option.bind_some, if_true]
    rw [if_pos hw, if_pos c1, if_pos c2, flo_of_is, Option.bind_some, hcmp, flo_awake_true]
    rfl
  · rw [flo_int_else hz hh]
    simp only [Option.bind_some, if_true]
    rw [if_pos hw, if_pos c1, if_pos c2, flo_awake_true]
    rfl
end Go.Proofs.Ytijdengicjjebaa.Pure
