/- The reference's sum, put together. -/
import Derived.Test.YtijdengicjjebaaPAx1
import Derived.Test.YtijdengicjjebaaPAx2
import Derived.Test.YtijdengicjjebaaPAx3
import Derived.Test.YtijdengicjjebaaPAx4
import Derived.Test.YtijdengicjjebaaFloFns
import Derived.Test.YtijdengicjjebaaFloN
import Derived.Test.YtijdengicjjebaaFloSum
import Derived.Test.YtijdengicjjebaaFloInt
import Derived.Test.YtijdengicjjebaaFloRef
import Derived.Test.YtijdengicjjebaaFloStk
import Derived.Test.YtijdengicjjebaaFloRefS
namespace Go.Proofs.Ytijdengicjjebaa.PA
open Go.RowKit Go.Proofs.YtijdengicjjebaaW.PrintWords Go.Proofs.YtijdengicjjebaaW.PrintLast Go.Proofs.Ytijdengicjjebaa.Plain
set_option exponentiation.threshold 4000

/-- The sum of two finite words, by their numbers alone. -/
def sumC (S : Int) : Nat := canon (wordOf (decide (S < 0)) (min (near S.natAbs) 9218868437227405312))
theorem near_zero : near 0 = 0 := near_small (by decide)
theorem sumC_zero : sumC 0 = 0 := by
  unfold sumC; rw [show Int.natAbs 0 = 0 from rfl, near_zero]; rfl
theorem canon_sumW (x y : Nat) : canon (sumW x y) = sumC (sv x + sv y) := by
  unfold sumW
  by_cases h : sv x + sv y = 0
  · rw [h, if_pos rfl, sumC_zero, show Int.natAbs 0 = 0 from rfl, near_zero]
    cases (sg x && sg y) <;> rfl
  · rw [if_neg h]; rfl
theorem sg_xor (x y : Nat) : sg (x ^^^ y) = (sg x != sg y) := by
  have e : ∀ z : Nat, sg z = z.testBit 63 := by
    intro z
    rw [Nat.testBit_eq_decide_div_mod_eq]
    unfold sg
    have : (2 : Nat) ^ 63 = 9223372036854775808 := by decide
    rw [this]
    by_cases h : z / 9223372036854775808 % 2 = 1
    · rw [h]; rfl
    · rw [decide_eq_false h]; exact beq_eq_false_iff_ne.2 h
  rw [e, e, e, Nat.testBit_xor]
theorem and_signI {x : Nat} (h : x < 18446744073709551616) : Go.bits .and .u64 (x : Int) 9223372036854775808 = signI (sg x) := by
  rw [and_top h, sg_is x h]
  by_cases c : x < 9223372036854775808
  · rw [if_pos c, decide_eq_false (by omega)]; rfl
  · rw [if_neg c, decide_eq_true (by omega)]; rfl
theorem and_xor {x y : Nat} (hx : x < 18446744073709551616) (hy : y < 18446744073709551616) : Go.bits .and .u64 (Go.bits .xor .u64 (x : Int) (y : Int)) 9223372036854775808 = signI (sg x != sg y) := by
  have hl : x ^^^ y < 18446744073709551616 := Nat.xor_lt_two_pow (n := 64) hx hy
  rw [xor_u64 hx hy, and_signI hl, sg_xor]
theorem stk_eq_zero {v d : Nat} (h : stk v d = 0) : v = 0 := by
  unfold stk at h
  split at h
  · rename_i h1
    have := Nat.div_add_mod v (2 ^ d)
    rw [h, h1] at this; omega
  · omega
theorem tail_pack (s : Bool) (V c m : Nat) (hc : c < 2050) (hm : m < 144115188075855872) (H : m * 2 ^ c = V * 2 ^ 3 ∨ 18014398509481984 ≤ m) (hst : m = stk (V * 2 ^ 3) c) (S : Int) (hS : S.natAbs = V) (hs : V ≠ 0 → decide (S < 0) = s) :
    (if (m : Int) = 0 then (some (0 : Int)) else ((falseworkref1_pack.f 3000 (signI s) ((c + 1 : Nat) : Int) (m : Int)).bind fun t118 => ((falseworkref1_Canon.f t118).bind fun t119 => (some t119)))) = some ((sumC S : Nat) : Int) := by
  by_cases h : (m : Int) = 0
  · rw [if_pos h]
    have hV : V * 2 ^ 3 = 0 := stk_eq_zero (hst.symm.trans (by omega))
    have hV2 : V = 0 := by
      have : (2 : Nat) ^ 3 = 8 := rfl
      omega
    have : S = 0 := by omega
    rw [this, sumC_zero]; rfl
  · rw [if_neg h]
    have hV : V ≠ 0 := by
      intro h0; rw [h0, Nat.zero_mul, stk_small _ (by decide)] at hst; omega
    rw [ref_pack_is s V c m 3000 hc (by decide) hm H hst, Option.bind_some, ref_canon_is (wordOf_lt _ _ (by omega)), Option.bind_some]
    unfold sumC
    rw [hs hV, hS]
theorem ref_tail {P Q : Nat} (hP : P < 18446744073709551616) (hQ : Q < 18446744073709551616) (fP : P % 9223372036854775808 < 9218868437227405312) (fQ : Q % 9223372036854775808 < 9218868437227405312) (hle : Q % 9223372036854775808 ≤ P % 9223372036854775808) :
    ((falseworkref1_parts.f (P : Int)).bind fun bt113 => ((falseworkref1_parts.f (Q : Int)).bind fun bt115 => ((falseworkref1_shift.f 3000 bt115.2 (wrap64 (bt113.1 - bt115.1))).bind fun t117 => (if (Go.bits .and .u64 (Go.bits .xor .u64 (P : Int) (Q : Int)) 9223372036854775808) = 0 then (if (IntKind.u64.wrap (bt113.2 + t117)) = 0 then (some 0) else ((falseworkref1_pack.f 3000 (Go.bits .and .u64 (P : Int) 9223372036854775808) bt113.1 (IntKind.u64.wrap (bt113.2 + t117))).bind fun t118 => ((falseworkref1_Canon.f t118).bind fun t119 => (some t119)))) else (if (IntKind.u64.wrap (bt113.2 - t117)) = 0 then (some 0) else ((falseworkref1_pack.f 3000 (Go.bits .and .u64 (P : Int) 9223372036854775808) bt113.1 (IntKind.u64.wrap (bt113.2 - t117))).bind fun t120 => ((falseworkref1_Canon.f t120).bind fun t121 => (some t121)))))))) = some ((sumC (sv P + sv Q) : Nat) : Int) := by
  obtain ⟨hce, hcl, ⟨a1, a2, a3⟩, ⟨b0, b1, b2⟩⟩ := ref_digits _ _ hle fP
  rw [ref_parts_is hP fP, ref_parts_is hQ fQ]
  simp only [Option.bind_some]
  have hmP := mg_lt (P % 9223372036854775808)
  have hmQ := mg_lt (Q % 9223372036854775808)
  have hu : un (Q % 9223372036854775808) ≤ un (P % 9223372036854775808) := by
    rcases Nat.lt_or_ge (Q % 9223372036854775808) (P % 9223372036854775808) with h2 | h2
    · exact Nat.le_of_lt (un_mono h2)
    · rw [show Q % 9223372036854775808 = P % 9223372036854775808 by omega]; exact Nat.le_refl _
  have hsP : sv P = if sg P then -(un (P % 9223372036854775808) : Int) else (un (P % 9223372036854775808) : Int) := rfl
  have hsQ : sv Q = if sg Q then -(un (Q % 9223372036854775808) : Int) else (un (Q % 9223372036854775808) : Int) := rfl
  generalize P % 9223372036854775808 = ra at *
  generalize Q % 9223372036854775808 = rb at *
  generalize un ra = ua at *
  generalize un rb = ub at *
  rw [show wrap64 (((ce ra + 1 : Nat) : Int) - ((ce rb + 1 : Nat) : Int)) = ((ce ra - ce rb : Nat) : Int) by unfold wrap64; omega]
  rw [ref_shift_is (by omega) (by omega) (by decide)]
  simp only [Option.bind_some]
  rw [and_xor hP hQ, and_signI hP]
  have w1 : IntKind.u64.wrap (((mg ra * 8 : Nat) : Int) + ((stk (mg rb * 8) (ce ra - ce rb) : Nat) : Int)) = ((mg ra * 8 + stk (mg rb * 8) (ce ra - ce rb) : Nat) : Int) := by
    rw [wrap_small (by omega) (by omega)]; omega
  have w2 : IntKind.u64.wrap (((mg ra * 8 : Nat) : Int) - ((stk (mg rb * 8) (ce ra - ce rb) : Nat) : Int)) = ((mg ra * 8 - stk (mg rb * 8) (ce ra - ce rb) : Nat) : Int) := by
    rw [wrap_small (by omega) (by omega)]; omega
  rw [w1, w2]
  by_cases hsg : sg P = sg Q
  · have e1 : signI (sg P != sg Q) = 0 := by rw [hsg, bne_self_eq_false']; rfl
    rw [if_pos e1]
    refine tail_pack (sg P) (ua + ub) (ce ra) _ hcl a1 a3 a2 (sv P + sv Q) ?_ ?_
    · rw [hsP, hsQ, ← hsg]; split <;> omega
    · intro hV
      rw [hsP, hsQ, ← hsg]
      cases sg P
      · rw [if_neg (by decide), if_neg (by decide)]; exact decide_eq_false (by omega)
      · rw [if_pos rfl, if_pos rfl]; exact decide_eq_true (by omega)
  · have e1 : ¬ signI (sg P != sg Q) = 0 := by
      rw [bne_iff_ne.2 hsg]; decide
    rw [if_neg e1]
    refine tail_pack (sg P) (ua - ub) (ce ra) _ hcl (by omega) b2 b1 (sv P + sv Q) ?_ ?_
    · rw [hsP, hsQ]
      cases hp : sg P <;> cases hq : sg Q <;> simp [hp, hq] at hsg ⊢ <;> omega
    · intro hV
      rw [hsP, hsQ]
      cases hp : sg P <;> cases hq : sg Q <;> simp [hp, hq] at hsg ⊢ <;> omega
theorem flo_sum_inf2 {x y : Nat} (hx : x < 18446744073709551616) (hy : y < 18446744073709551616) (h1 : x % 9223372036854775808 = 9218868437227405312) (h2 : y % 9223372036854775808 = 9218868437227405312) :
    flo_Sum.f (x : Int) (y : Int) = if x = y then some (x : Int) else some 9221120237041090560 := by
  have h3 : x = 9218868437227405312 ∨ x = 18442240474082181120 := by omega
  have h4 : y = 9218868437227405312 ∨ y = 18442240474082181120 := by omega
  rcases h3 with rfl | rfl <;> rcases h4 with rfl | rfl <;> decide +kernel
theorem canon_cases (x : Nat) : (9218868437227405312 < x % 9223372036854775808 ∧ canon x = 9221120237041090560) ∨ (x % 9223372036854775808 = 9218868437227405312 ∧ canon x = x) ∨ (x % 9223372036854775808 < 9218868437227405312 ∧ canon x % 9223372036854775808 < 9218868437227405312 ∧ sv (canon x) = sv x ∧ canon x ≠ 9221120237041090560) := by
  unfold canon
  by_cases h1 : 9218868437227405312 < x % 9223372036854775808
  · left; rw [if_pos h1]; exact ⟨h1, rfl⟩
  · right
    rw [if_neg h1]
    by_cases h2 : x = 9223372036854775808
    · right; rw [if_pos h2, h2, sv_zero, sv_top]; exact ⟨by decide, by decide, rfl, by decide⟩
    · rw [if_neg h2]
      by_cases h3 : x % 9223372036854775808 = 9218868437227405312
      · left; exact ⟨h3, rfl⟩
      · right; exact ⟨by omega, by omega, rfl, by omega⟩
theorem ref_sum_is {x y : Nat} (hx : x < 18446744073709551616) (hy : y < 18446744073709551616) : falseworkref1_Sum.f 3000 (x : Int) (y : Int) = flo_Sum.f (x : Int) (y : Int) := by
  unfold falseworkref1_Sum.f
  rw [ref_canon_is hx, ref_canon_is hy, Option.bind_some, Option.bind_some]
  have cx := canon_lt hx
  have cy := canon_lt hy
  rw [andNot_top cx, andNot_top cy]
  rcases canon_cases x with ⟨x1, x2⟩ | ⟨x1, x2⟩ | ⟨x1, x2, x3, x4⟩
  · rw [if_pos (by rw [x2]; rfl), flo_sum_nanl x1]
  · rw [if_neg (by omega)]
    rcases canon_cases y with ⟨y1, y2⟩ | ⟨y1, y2⟩ | ⟨y1, y2, y3, y4⟩
    · rw [if_pos (by rw [y2]; rfl), flo_sum_nanr y1]
    · rw [if_neg (by omega), if_pos (by omega), if_pos (by omega), flo_sum_inf2 hx hy x1 y1, x2, y2]
      by_cases e : x = y
      · rw [if_pos e, if_pos (by omega)]
      · rw [if_neg e, if_neg (by omega)]
    · rw [if_neg (by omega), if_pos (by omega), if_neg (by omega), flo_sum_infl y1 x1 hx, x2]
  · rw [if_neg (by omega)]
    rcases canon_cases y with ⟨y1, y2⟩ | ⟨y1, y2⟩ | ⟨y1, y2, y3, y4⟩
    · rw [if_pos (by rw [y2]; rfl), flo_sum_nanr y1]
    · rw [if_neg (by omega), if_neg (by omega), if_pos (by omega), flo_sum_infr x1 y1 hy, y2]
    · rw [if_neg (by omega), if_neg (by omega), if_neg (by omega), flo_sum_fin x1 y1, canon_sumW]
      by_cases hlt : ((canon x % 9223372036854775808 : Nat) : Int) < ((canon y % 9223372036854775808 : Nat) : Int)
      · rw [if_pos hlt, ← x3, ← y3, Int.add_comm (sv (canon x))]
        exact ref_tail cy cx y2 x2 (by omega)
      · rw [if_neg hlt, ← x3, ← y3]
        exact ref_tail cx cy x2 y2 (by omega)
theorem flo_sum_comm {x y : Nat} (hx : x < 18446744073709551616) (hy : y < 18446744073709551616) : flo_Sum.f (y : Int) (x : Int) = flo_Sum.f (x : Int) (y : Int) := by
  rcases canon_cases x with ⟨x1, x2⟩ | ⟨x1, x2⟩ | ⟨x1, x2, x3, x4⟩
  · rw [flo_sum_nanl x1, flo_sum_nanr x1]
  · rcases canon_cases y with ⟨y1, y2⟩ | ⟨y1, y2⟩ | ⟨y1, y2, y3, y4⟩
    · rw [flo_sum_nanl y1, flo_sum_nanr y1]
    · rw [flo_sum_inf2 hx hy x1 y1, flo_sum_inf2 hy hx y1 x1]
      by_cases e : x = y
      · rw [if_pos e, if_pos e.symm, e]
      · rw [if_neg e, if_neg (fun h => e h.symm)]
    · rw [flo_sum_infl y1 x1 hx, flo_sum_infr y1 x1 hx]
  · rcases canon_cases y with ⟨y1, y2⟩ | ⟨y1, y2⟩ | ⟨y1, y2, y3, y4⟩
    · rw [flo_sum_nanl y1, flo_sum_nanr y1]
    · rw [flo_sum_infl x1 y1 hy, flo_sum_infr x1 y1 hy]
    · rw [flo_sum_fin x1 y1, flo_sum_fin y1 x1, sumW_comm]
theorem flo_sum_some {x y : Nat} (hx : x < 18446744073709551616) (hy : y < 18446744073709551616) : ∃ z, flo_Sum.f (x : Int) (y : Int) = some z := by
  rcases canon_cases x with ⟨x1, x2⟩ | ⟨x1, x2⟩ | ⟨x1, x2, x3, x4⟩
  · exact ⟨_, flo_sum_nanl x1⟩
  · rcases canon_cases y with ⟨y1, y2⟩ | ⟨y1, y2⟩ | ⟨y1, y2, y3, y4⟩
    · exact ⟨_, flo_sum_nanr y1⟩
    · rw [flo_sum_inf2 hx hy x1 y1]; split <;> exact ⟨_, rfl⟩
    · exact ⟨_, flo_sum_infl y1 x1 hx⟩
  · rcases canon_cases y with ⟨y1, y2⟩ | ⟨y1, y2⟩ | ⟨y1, y2, y3, y4⟩
    · exact ⟨_, flo_sum_nanr y1⟩
    · exact ⟨_, flo_sum_infr x1 y1 hy⟩
    · exact ⟨_, flo_sum_fin x1 y1⟩
end Go.Proofs.Ytijdengicjjebaa.PA
