/- The reference's number of a float: the program's own. -/
import Derived.Test.YtijdengicjjebaaPAx1
import Derived.Test.YtijdengicjjebaaPAx5
import Derived.Test.YtijdengicjjebaaFloFns
import Derived.Test.YtijdengicjjebaaFloN
import Derived.Test.YtijdengicjjebaaFloSum
import Derived.Test.YtijdengicjjebaaFloInt
import Derived.Test.YtijdengicjjebaaFloRef
namespace Go.Proofs.Ytijdengicjjebaa.PA
open Go.RowKit Go.Proofs.YtijdengicjjebaaW.PrintWords Go.Proofs.YtijdengicjjebaaW.PrintLast Go.Proofs.Ytijdengicjjebaa.Plain
set_option exponentiation.threshold 4000

theorem un_exp (h t : Nat) (ht : t < 4503599627370496) : un ((h + 1023) * 4503599627370496 + t) = (4503599627370496 + t) * 2 ^ (h + 1022) := by
  unfold un
  rw [if_neg (by omega), show ((h + 1023) * 4503599627370496 + t) % 4503599627370496 = t by omega, show ((h + 1023) * 4503599627370496 + t) / 4503599627370496 - 1 = h + 1022 by omega]
theorem wrap_nat (q : Nat) (h : q < 9223372036854775808) : wrap64 (q : Int) = (q : Int) := by unfold wrap64; omega
theorem wrap_neg (q : Nat) (h : q < 9223372036854775808) : wrap64 (-(wrap64 (q : Int))) = -(q : Int) := by unfold wrap64; omega
theorem sv_sign (x : Nat) {u : Nat} (hu : un (x % 9223372036854775808) = u * 2 ^ 1074) : sv x = (if sg x then -(u : Int) else (u : Int)) * ((2 ^ 1074 : Nat) : Int) := by
  unfold sv
  rw [hu, Int.natCast_mul]
  generalize ((2 ^ 1074 : Nat) : Int) = P
  cases sg x
  · rw [if_neg (by decide), if_neg (by decide)]
  · rw [if_pos rfl, if_pos rfl, Int.neg_mul]
theorem pow_1086 : (4503599627370496 + 0) * 2 ^ (63 + 1022) = 9223372036854775808 * 2 ^ 1074 := by
  rw [show 63 + 1022 = 11 + 1074 from rfl, Nat.pow_add, ← Nat.mul_assoc]
set_option maxRecDepth 4000 in
theorem ref_int_is {x : Nat} (hx : x < 18446744073709551616) : falseworkref1_Int.f (x : Int) = flo_Int.f (x : Int) := by
  have hpN : (0 : Nat) < 2 ^ 1074 := Nat.two_pow_pos _
  have hc := canon_lt hx
  unfold falseworkref1_Int.f
  rw [ref_canon_is hx, Option.bind_some]
  by_cases z : ((canon x : Nat) : Int) = 0
  · rw [if_pos z]
    have : x = 0 ∨ x = 9223372036854775808 := by
      unfold canon at z; split at z
      · omega
      · split at z <;> omega
    rcases this with rfl | rfl <;> decide +kernel
  · rw [if_neg z, and_exp hc]
    by_cases hn : 9218868437227405312 < x % 9223372036854775808
    · have : canon x = 9221120237041090560 := by unfold canon; rw [if_pos hn]
      rw [this, if_neg (by decide), if_pos (by decide)]
      rw [flo_int_else hx (fun h => by omega)]
    · have hcx : canon x = x := by
        unfold canon at z ⊢; rw [if_neg hn] at z ⊢
        by_cases e : x = 9223372036854775808
        · rw [if_pos e] at z; exact absurd rfl z
        · rw [if_neg e]
      rw [hcx] at z ⊢
      have hx2 : x ≠ 9223372036854775808 := by
        intro e; rw [e] at hcx; revert hcx; decide
      have hr0 : 0 < x % 9223372036854775808 := by omega
      obtain ⟨E, t, hE, ht, he⟩ : ∃ E t, x % 9223372036854775808 = E * 4503599627370496 + t ∧ t < 4503599627370496 ∧ x / 4503599627370496 % 2048 = E := ⟨x % 9223372036854775808 / 4503599627370496, x % 4503599627370496, by omega, by omega, by omega⟩
      have htx : x % 4503599627370496 = t := by omega
      rw [he]
      by_cases c1 : (E : Int) < 1023
      · rw [if_pos c1, flo_int_else hx]
        rintro ⟨hf, n, hv, _, _⟩
        have h1 : (sv x).natAbs = n.natAbs * 2 ^ 1074 := by rw [hv, Int.natAbs_mul, Int.natAbs_natCast]
        rw [sv_natAbs] at h1
        have h2 : un (x % 9223372036854775808) < 2 ^ 1074 := by
          have h3 := un_mono (a := x % 9223372036854775808) (b := (0 + 1023) * 4503599627370496 + 0) (by omega)
          rw [un_exp 0 0 (by decide), show 4503599627370496 + 0 = 2 ^ 52 from two52.symm, ← Nat.pow_add] at h3
          exact h3
        have h4 := un_mono hr0
        rw [un_zero, h1] at h4
        rw [h1] at h2
        have h5 : n.natAbs = 0 ∨ 1 ≤ n.natAbs := by omega
        rcases h5 with h5 | h5
        · rw [h5, Nat.zero_mul] at h4; exact absurd h4 (Nat.lt_irrefl 0)
        · have := Nat.mul_le_mul_right (2 ^ 1074) h5
          rw [Nat.one_mul] at this
          exact absurd (Nat.lt_of_le_of_lt this h2) (Nat.lt_irrefl _)
      · rw [if_neg c1]
        by_cases c2 : (E : Int) = 2047
        · rw [if_pos c2, flo_int_else hx]
          rintro ⟨hf, _⟩; omega
        · rw [if_neg c2]
          obtain ⟨h, hh⟩ : ∃ h, E = h + 1023 := ⟨E - 1023, by omega⟩
          have hb : h < 1024 := by omega
          have hf : x % 9223372036854775808 < 9218868437227405312 := by omega
          have hu : un (x % 9223372036854775808) = (4503599627370496 + t) * 2 ^ (h + 1022) := by rw [hE, hh, un_exp h t ht]
          have e1 : wrap64 ((E : Int) - 1023) = (h : Int) := by unfold wrap64; omega
          rw [e1, and_mask hx, htx, or_lead ht, and_top hx]
          have hsg := sg_is x hx
          by_cases c3 : (h : Int) ≥ 63
          · rw [if_pos c3]
            have big : un ((63 + 1023) * 4503599627370496 + 0) = 9223372036854775808 * 2 ^ 1074 := by rw [un_exp 63 0 (by decide), pow_1086]
            by_cases c4 : (h : Int) = 63 ∧ ¬ x < 9223372036854775808 ∧ t = 0
            · obtain ⟨d1, d2, d3⟩ := c4
              rw [if_pos d1, if_neg d2, if_neg (by decide), if_pos (by rw [d3]; rfl)]
              refine (flo_int_whole (n := -9223372036854775808) hf ?_ (by decide) (by decide)).symm
              have : un (x % 9223372036854775808) = 9223372036854775808 * 2 ^ 1074 := by
                have hxr : x % 9223372036854775808 = (63 + 1023) * 4503599627370496 + 0 := by rw [hE, hh, d3, show h = 63 by omega]
                rw [hxr, big]
              rw [sv_sign x this, hsg, decide_eq_true (by omega), if_pos rfl]
              exact congrArg (· * ((2 ^ 1074 : Nat) : Int)) (show -((9223372036854775808 : Nat) : Int) = -9223372036854775808 from rfl)
            · have hel : flo_Int.f (x : Int) = some (0, false) := by
                rw [flo_int_else hx]
                rintro ⟨_, n, hv, v1, v2⟩
                have h1 : (sv x).natAbs = n.natAbs * 2 ^ 1074 := by rw [hv, Int.natAbs_mul, Int.natAbs_natCast]
                rw [sv_natAbs] at h1
                by_cases d : x % 9223372036854775808 = (63 + 1023) * 4503599627370496 + 0
                · rw [d, big] at h1
                  have h2 := Nat.eq_of_mul_eq_mul_right hpN h1
                  have h3 : x < 9223372036854775808 := by
                    rcases Nat.lt_or_ge x 9223372036854775808 with q | q
                    · exact q
                    · exact absurd ⟨by omega, by omega, by omega⟩ c4
                  have hs0 : sg x = false := by rw [hsg]; exact decide_eq_false (by omega)
                  have h4 : n = -9223372036854775808 := by omega
                  rw [h4] at hv
                  unfold sv at hv
                  rw [hs0, if_neg (by decide), Int.neg_mul] at hv
                  have h5 : (0 : Int) < ((2 ^ 1074 : Nat) : Int) := by omega
                  have h6 := Int.mul_pos (show (0 : Int) < 9223372036854775808 by decide) h5
                  omega
                · have h2 := un_mono (a := (63 + 1023) * 4503599627370496 + 0) (b := x % 9223372036854775808) (by omega)
                  rw [big, h1] at h2
                  have := Nat.lt_of_mul_lt_mul_right h2
                  omega
              rw [hel]
              by_cases d1 : (h : Int) = 63
              · rw [if_pos d1]
                by_cases d2 : x < 9223372036854775808
                · rw [if_pos d2, if_pos rfl]
                · rw [if_neg d2, if_neg (by decide), if_neg (fun d3 => c4 ⟨d1, d2, by omega⟩)]
              · rw [if_neg d1]
          · rw [if_neg c3]
            by_cases c5 : (h : Int) < 52
            · rw [if_pos c5]
              obtain ⟨d, hd⟩ : ∃ d, h + d = 52 := ⟨52 - h, by omega⟩
              have e2 : IntKind.u64.wrap (wrap64 (52 - (h : Int))) = (d : Int) := by
                rw [show wrap64 (52 - (h : Int)) = (d : Int) by unfold wrap64; omega, wrap_small (by omega) (by omega)]
              rw [e2, if_pos (by omega), low_bits (by omega) d (by omega), shr_nat d (by omega)]
              have hpd := Nat.two_pow_pos d
              have hexp : (2 : Nat) ^ 1074 = 2 ^ d * 2 ^ (h + 1022) := by rw [← Nat.pow_add, show d + (h + 1022) = 1074 by omega]
              by_cases c6 : (((4503599627370496 + t) % 2 ^ d : Nat) : Int) = 0
              · rw [if_pos c6]
                have hdiv : (4503599627370496 + t) / 2 ^ d * 2 ^ d = 4503599627370496 + t := Nat.div_mul_cancel (Nat.dvd_of_mod_eq_zero (by omega))
                have hle : (4503599627370496 + t) / 2 ^ d ≤ 4503599627370496 + t := Nat.div_le_self _ _
                have hu2 : un (x % 9223372036854775808) = (4503599627370496 + t) / 2 ^ d * 2 ^ 1074 := by rw [hu, hexp, ← Nat.mul_assoc, hdiv]
                have hs := sv_sign x hu2
                generalize (4503599627370496 + t) / 2 ^ d = q at *
                by_cases d2 : x < 9223372036854775808
                · rw [if_pos d2, if_pos rfl, wrap_nat q (by clear hs hu2; omega)]
                  rw [hsg, decide_eq_false (by omega), if_neg (by decide)] at hs
                  exact (flo_int_whole hf hs (by clear hs hu2; omega) (by clear hs hu2; omega)).symm
                · rw [if_neg d2, if_neg (by decide), wrap_neg q (by clear hs hu2; omega)]
                  rw [hsg, decide_eq_true (by omega), if_pos rfl] at hs
                  exact (flo_int_whole hf hs (by clear hs hu2; omega) (by clear hs hu2; omega)).symm
              · rw [if_neg c6, flo_int_else hx]
                rintro ⟨_, n, hv, _, _⟩
                have h1 : (sv x).natAbs = n.natAbs * 2 ^ 1074 := by rw [hv, Int.natAbs_mul, Int.natAbs_natCast]
                rw [sv_natAbs, hu, hexp, ← Nat.mul_assoc] at h1
                have h2 := Nat.eq_of_mul_eq_mul_right (Nat.two_pow_pos _) h1
                apply c6
                rw [h2, Nat.mul_mod_left]; rfl
            · rw [if_neg c5]
              obtain ⟨d, hd⟩ : ∃ d, h = d + 52 := ⟨h - 52, by omega⟩
              have e2 : IntKind.u64.wrap (wrap64 ((h : Int) - 52)) = (d : Int) := by
                rw [show wrap64 ((h : Int) - 52) = (d : Int) by unfold wrap64; omega, wrap_small (by omega) (by omega)]
              have hq : (4503599627370496 + t) * 2 ^ d < 9223372036854775808 := by
                have h1 : 2 ^ d ≤ 2 ^ 10 := Nat.pow_le_pow_right (by decide) (by omega)
                have h2 : (4503599627370496 + t) * 2 ^ d ≤ (4503599627370496 + t) * 2 ^ 10 := Nat.mul_le_mul_left _ h1
                omega
              rw [e2, if_pos (by omega), shl_nat d (by omega) (by omega)]
              have hu2 : un (x % 9223372036854775808) = (4503599627370496 + t) * 2 ^ d * 2 ^ 1074 := by
                rw [hu, Nat.mul_assoc, ← Nat.pow_add, hd, show d + 52 + 1022 = d + 1074 by omega]
              have hs := sv_sign x hu2
              generalize (4503599627370496 + t) * 2 ^ d = q at *
              by_cases d2 : x < 9223372036854775808
              · rw [if_pos d2, if_pos rfl, wrap_nat q (by clear hs hu2; omega)]
                rw [hsg, decide_eq_false (by omega), if_neg (by decide)] at hs
                exact (flo_int_whole hf hs (by clear hs hu2; omega) (by clear hs hu2; omega)).symm
              · rw [if_neg d2, if_neg (by decide), wrap_neg q (by clear hs hu2; omega)]
                rw [hsg, decide_eq_true (by omega), if_pos rfl] at hs
                exact (flo_int_whole hf hs (by clear hs hu2; omega) (by clear hs hu2; omega)).symm
theorem flo_int_some {x : Nat} (hx : x < 18446744073709551616) : ∃ n b, flo_Int.f (x : Int) = some (n, b) := by
  by_cases h : x % 9223372036854775808 < 9218868437227405312 ∧ ∃ n : Int, sv x = n * ((2 ^ 1074 : Nat) : Int) ∧ -9223372036854775808 ≤ n ∧ n < 9223372036854775808
  · obtain ⟨h1, n, h2, h3, h4⟩ := h
    exact ⟨_, _, flo_int_whole h1 h2 h3 h4⟩
  · exact ⟨_, _, flo_int_else hx h⟩
end Go.Proofs.Ytijdengicjjebaa.PA
