/- The infinities are at both ends, all NaNs are one and above all; a nought has no sign; what is added to them stays: for all words of 64 bits. -/
import Derived.Test.YtijdengicjjebaaPAx1
import Derived.Test.YtijdengicjjebaaPAx8
import Derived.Test.YtijdengicjjebaaPAx11
import Derived.Test.YtijdengicjjebaaFloAwake
import Derived.Test.YtijdengicjjebaaFloSum
namespace Go.Proofs.Ytijdengicjjebaa.Pure
open Go.RowKit Go.Proofs.Ytijdengicjjebaa.PA Go.Proofs.YtijdengicjjebaaW.PrintWords Go.Proofs.YtijdengicjjebaaW.PrintLast Go.Proofs.Ytijdengicjjebaa.Plain

theorem or_one (x : Nat) : x ||| 1 = 2 * (x / 2) + 1 := by
  have h0 : x = 2 * (x / 2) ||| x % 2 := by
    have := Nat.two_pow_add_eq_or_of_lt (i := 1) (show x % 2 < 2 ^ 1 by omega) (x / 2)
    have h1 : 2 * (x / 2) + x % 2 = 2 * (x / 2) ||| x % 2 := this
    omega
  have h2 : 2 * (x / 2) + 1 = 2 * (x / 2) ||| 1 := Nat.two_pow_add_eq_or_of_lt (i := 1) (show 1 < 2 ^ 1 by decide) (x / 2)
  have h3 : x ||| 1 = 2 * (x / 2) ||| (x % 2 ||| 1) := by
    conv => lhs; rw [h0]
    rw [Nat.or_assoc]
  rw [h3, h2]
  rcases Nat.mod_two_eq_zero_or_one x with h | h <;> rw [h] <;> rfl
theorem payload_is (p : Nat) (hp : p < 18446744073709551616) :
    ∃ n : Nat, Go.bits .or .u64 (Go.bits .or .u64 (Go.bits .and .u64 (p : Int) 4503599627370495) 9218868437227405312) 1 = (n : Int) ∧ 9218868437227405312 < n ∧ n < 9223372036854775808 := by
  have e1 : Go.bits .and .u64 (p : Int) 4503599627370495 = ((p % 4503599627370496 : Nat) : Int) := by
    have h5 : Go.bits .and .u64 (p : Int) 4503599627370495 = ((p &&& 4503599627370495 : Nat) : Int) := and_u64 (b := 4503599627370495) hp (by decide)
    rw [h5]
    exact congrArg Int.ofNat (Nat.and_two_pow_sub_one_eq_mod p 52)
  have ht : p % 4503599627370496 < 4503599627370496 := Nat.mod_lt _ (by decide)
  generalize p % 4503599627370496 = t at *
  have e2 : Go.bits .or .u64 (t : Int) 9218868437227405312 = ((9218868437227405312 + t : Nat) : Int) := by
    have h5 : Go.bits .or .u64 (t : Int) 9218868437227405312 = ((t ||| 9218868437227405312 : Nat) : Int) := or_u64 (b := 9218868437227405312) (by omega) (by decide)
    rw [h5, Nat.or_comm]
    have : 4503599627370496 * 2047 + t = 4503599627370496 * 2047 ||| t := Nat.two_pow_add_eq_or_of_lt (i := 52) (show t < 2 ^ 52 from ht) 2047
    exact congrArg Int.ofNat this.symm
  have e3 : Go.bits .or .u64 ((9218868437227405312 + t : Nat) : Int) 1 = (((9218868437227405312 + t) ||| 1 : Nat) : Int) := or_u64 (b := 1) (by omega) (by decide)
  refine ⟨(9218868437227405312 + t) ||| 1, by rw [e1, e2, e3], ?_, ?_⟩ <;> rw [or_one] <;> omega
theorem edges_last (x n : Nat) (h1 : 9218868437227405312 < n) (h2 : n < 9223372036854775808) (k : Nat) (b : Bool) (hb : b = false) :
    falseworklaw1_FloEdges.j1 (k + 1) (x : Int) (n : Int) b = some true := by
  subst hb
  simp only [falseworklaw1_FloEdges.j1]
  have hn : n < 18446744073709551616 := by omega
  have hor : Go.bits .or .u64 (n : Int) 9223372036854775808 = ((n + 9223372036854775808 : Nat) : Int) := by rw [or_top hn, if_pos h2]; omega
  have hm : n + 9223372036854775808 < 18446744073709551616 := by omega
  have c1 : canon n = 9221120237041090560 := by unfold canon; rw [if_pos (by omega)]
  have c2 : canon (n + 9223372036854775808) = 9221120237041090560 := by unfold canon; rw [if_pos (by omega)]
  have f0 : flo_Cmp.f 0 9223372036854775808 = some 0 := flo_cmp_is (x := 0) (y := 9223372036854775808) (by decide) (by decide)
  have f1 : flo_Cmp.f (n : Int) ((n + 9223372036854775808 : Nat) : Int) = some 0 := by
    rw [flo_cmp_is hn hm]
    have : ordr n = ordr (n + 9223372036854775808) := by unfold ordr; rw [c1, c2]
    rw [this]; unfold cmpN; rw [if_neg (by omega), if_neg (by omega)]
  rw [if_neg (by decide), hor, flo_canon_is hn, flo_canon_is hm, c1, c2, flo_sum_nanr (by omega), f0, f1, flo_awake_true]
  rfl
theorem canon_same (x : Nat) (h : ¬ canon x = 9221120237041090560) : x % 9223372036854775808 ≤ 9218868437227405312 := by
  unfold canon at h
  rcases Nat.lt_or_ge 9218868437227405312 (x % 9223372036854775808) with h1 | h1
  · rw [if_pos h1] at h; exact absurd rfl h
  · exact h1
theorem edges_mid (x n : Nat) (hx : x < 18446744073709551616) (h1 : 9218868437227405312 < n) (h2 : n < 9223372036854775808) (b : Bool) (hb : b = false) :
    falseworklaw1_FloEdges.j0 2 (x : Int) (n : Int) ((canon x : Nat) : Int) b = some true := by
  subst hb
  simp only [falseworklaw1_FloEdges.j0]
  rw [if_neg (by decide)]
  by_cases c1 : ((canon x : Nat) : Int) = 9221120237041090560
  · rw [if_pos c1]; exact edges_last x n h1 h2 0 _ rfl
  · rw [if_neg c1]
    by_cases c2 : ((canon x : Nat) : Int) = 9218868437227405312
    · rw [if_pos c2]; exact edges_last x n h1 h2 0 _ rfl
    · rw [if_neg c2]
      by_cases c3 : ((canon x : Nat) : Int) = 18442240474082181120
      · rw [if_pos c3]; exact edges_last x n h1 h2 0 _ rfl
      · rw [if_neg c3]
        have q1 := canon_same x (by omega)
        have q2 : x % 9223372036854775808 < 9218868437227405312 := by
          rcases Nat.lt_or_ge (x % 9223372036854775808) 9218868437227405312 with h | h
          · exact h
          · have hc : canon x = x := by unfold canon; rw [if_neg (by omega), if_neg (by omega)]
            rw [hc] at c2 c3; omega
        have s1 : flo_Sum.f (x : Int) 9218868437227405312 = some 9218868437227405312 := flo_sum_infr (y := 9218868437227405312) q2 (by decide) (by decide)
        have s2 : flo_Sum.f (x : Int) 18442240474082181120 = some 18442240474082181120 := flo_sum_infr (y := 18442240474082181120) q2 (by decide) (by decide)
        have s4 : flo_Sum.f (x : Int) 0 = some ((canon x : Nat) : Int) := by
          have := flo_sum_fin (x := x) (y := 0) q2 (by decide)
          rw [sumW_zero hx q2 sv_zero] at this; exact this
        have s5 : flo_Sum.f (x : Int) 9223372036854775808 = some ((canon x : Nat) : Int) := by
          have := flo_sum_fin (x := x) (y := 9223372036854775808) q2 (by decide)
          rw [sumW_zero hx q2 sv_top] at this; exact this
        have s3 : flo_Sum.f (x : Int) (Go.bits .xor .u64 (x : Int) 9223372036854775808) = some 0 := by
          rw [xor_top hx]
          obtain ⟨y, hy, hy2, hy3, hy4⟩ : ∃ y : Nat, (if x < 9223372036854775808 then (x : Int) + 9223372036854775808 else (x : Int) - 9223372036854775808) = (y : Int) ∧ y % 9223372036854775808 = x % 9223372036854775808 ∧ y < 18446744073709551616 ∧ (9223372036854775808 ≤ x ↔ ¬ 9223372036854775808 ≤ y) := by
            by_cases h : x < 9223372036854775808
            · exact ⟨x + 9223372036854775808, by rw [if_pos h]; omega, by omega, by omega, by omega⟩
            · exact ⟨x - 9223372036854775808, by rw [if_neg h]; omega, by omega, by omega, by omega⟩
          rw [hy, flo_sum_fin q2 (by omega)]
          have hsv : sv x + sv y = 0 := by
            unfold sv
            rw [hy2, sg_is x hx, sg_is y hy3]
            by_cases h : 9223372036854775808 ≤ x
            · rw [decide_eq_true h, decide_eq_false (hy4.1 h)]; simp; omega
            · rw [decide_eq_false h, decide_eq_true (by omega)]; simp; omega
          have hsw : sumW x y = 0 := by
            unfold sumW
            rw [hsv, if_pos rfl, sg_is x hx, sg_is y hy3]
            have : (decide (9223372036854775808 ≤ x) && decide (9223372036854775808 ≤ y)) = false := by
              by_cases h : 9223372036854775808 ≤ x
              · rw [decide_eq_false (hy4.1 h), Bool.and_false]
              · rw [decide_eq_false h, Bool.false_and]
            rw [this]; rfl
          rw [hsw]; rfl
        rw [s1, s2, s3, s4, s5]
        simp only [Option.bind_some]
        rw [if_pos trivial, if_pos trivial, if_pos trivial, if_pos trivial]
        exact edges_last x n h1 h2 0 _ (bne_self_eq_false' ..)
theorem FloEdges : falseworklaw1_FloEdges.Pure := by
  intro a b ha hb
  obtain ⟨x, rfl, hx⟩ := u64_nat ha
  obtain ⟨p, rfl, hp⟩ := u64_nat hb
  refine ⟨2, ?_⟩
  obtain ⟨n, hn, n1, n2⟩ := payload_is p hp
  unfold falseworklaw1_FloEdges.f
  rw [hn, flo_canon_is hx]
  simp only [Option.bind_some]
  by_cases c1 : ((canon x : Nat) : Int) = 9221120237041090560
  · rw [if_pos c1]; exact edges_mid x n hx n1 n2 _ rfl
  · rw [if_neg c1]
    have q1 := canon_same x (by omega)
    have k1 : flo_Cmp.f 18442240474082181120 (x : Int) = some (cmpN (ordr 18442240474082181120) (ordr x)) := flo_cmp_is (x := 18442240474082181120) (by decide) hx
    have k2 : flo_Cmp.f (x : Int) 9218868437227405312 = some (cmpN (ordr x) (ordr 9218868437227405312)) := flo_cmp_is (y := 9218868437227405312) hx (by decide)
    have k3 : flo_Cmp.f (x : Int) (n : Int) = some (cmpN (ordr x) (ordr n)) := flo_cmp_is hx (by omega)
    have o1 : ordr 18442240474082181120 = 4503599627370495 := by decide
    have o2 : ordr 9218868437227405312 = 18442240474082181120 := by decide
    have o3 : ordr n = 18444492273895866368 := by
      have : canon n = 9221120237041090560 := by unfold canon; rw [if_pos (by omega)]
      unfold ordr; rw [this]; rfl
    have o4 : 4503599627370495 ≤ ordr x ∧ ordr x ≤ 18442240474082181120 := by
      have hc : canon x = if x = 9223372036854775808 then 0 else x := by unfold canon; rw [if_neg (by omega)]
      have hc2 : canon x ≤ 9218868437227405312 ∨ (9223372036854775808 ≤ canon x ∧ canon x ≤ 18442240474082181120) := by
        rw [hc]; split <;> omega
      unfold ordr
      split <;> omega
    rw [k1, k2, k3, o1, o2, o3]
    simp only [Option.bind_some]
    have v1 : ¬ cmpN 4503599627370495 (ordr x) > 0 := by unfold cmpN; split <;> (try split) <;> omega
    have v2 : ¬ cmpN (ordr x) 18442240474082181120 > 0 := by unfold cmpN; split <;> (try split) <;> omega
    have v3 : cmpN (ordr x) 18444492273895866368 = -1 := by unfold cmpN; rw [if_pos (by omega)]
    rw [if_neg v1, if_neg v2, v3]
    exact edges_mid x n hx n1 n2 _ rfl
end Go.Proofs.Ytijdengicjjebaa.Pure
