/- The reference's sum: the program's own. -/
import Derived.Test.YtijdengicjjebaaPAx2
import Derived.Test.YtijdengicjjebaaPAx3
import Derived.Test.YtijdengicjjebaaFloFns
import Derived.Test.YtijdengicjjebaaFloN
import Derived.Test.YtijdengicjjebaaFloSum
import Derived.Test.YtijdengicjjebaaFloInt
import Derived.Test.YtijdengicjjebaaFloRef
import Derived.Test.YtijdengicjjebaaFloStk
namespace Go.Proofs.Ytijdengicjjebaa.PA
open Go.RowKit Go.Proofs.YtijdengicjjebaaW.PrintWords Go.Proofs.YtijdengicjjebaaW.PrintLast Go.Proofs.Ytijdengicjjebaa.Plain
set_option exponentiation.threshold 4000

theorem or_one (x : Nat) : x ||| 1 = 2 * (x / 2) + 1 := by
  have h0 : x = 2 * (x / 2) ||| x % 2 := by
    have := Nat.two_pow_add_eq_or_of_lt (i := 1) (show x % 2 < 2 ^ 1 by omega) (x / 2)
    have h1 : 2 * (x / 2) + x % 2 = 2 * (x / 2) ||| x % 2 := this
    omega
  have h2 : 2 * (x / 2) + 1 = 2 * (x / 2) ||| 1 := Nat.two_pow_add_eq_or_of_lt (i := 1) (show 1 < 2 ^ 1 by decide) (x / 2)
  have h3 : x ||| 1 = 2 * (x / 2) ||| (x % 2 ||| 1) := by
    conv => lhs; rw [h0]
    rw [Nat.or_assoc]
  rw [h3, h2]
  rcases Nat.mod_two_eq_zero_or_one x with h | h <;> rw [h] <;> rfl
theorem step_is {m : Nat} (h : m < 18446744073709551616) : Go.bits .or .u64 ((m : Int) / 2) (Go.bits .and .u64 (m : Int) 1) = ((stk m 1 : Nat) : Int) := by
  rw [and_bit h, show (m : Int) / 2 = ((m / 2 : Nat) : Int) by omega]
  have h5 : Go.bits .or .u64 ((m / 2 : Nat) : Int) ((m % 2 : Nat) : Int) = ((m / 2 ||| m % 2 : Nat) : Int) := or_u64 (by omega) (by omega)
  rw [h5, stk_one]
  rcases Nat.mod_two_eq_zero_or_one m with c | c
  · rw [c, if_pos rfl, Nat.or_zero]
  · rw [c, if_neg (by decide), or_one]
theorem stk_le (v d : Nat) : stk v d ≤ v / 2 ^ d + 1 := by unfold stk; split <;> omega
theorem ref_shift_l : ∀ (j i m k d : Nat), i + j = d → d < 5000 → m < 18446744073709551616 → falseworkref1_shift.l0 (k + 1 + j) (m : Int) (d : Int) (i : Int) = some ((stk m j : Nat) : Int)
  | 0, i, m, k, d, h, hd, hm => by
    simp only [falseworkref1_shift.l0]
    rw [if_neg (by omega), stk_zero]
  | j + 1, i, m, k, d, h, hd, hm => by
    rw [show k + 1 + (j + 1) = (k + 1 + j) + 1 by omega]
    simp only [falseworkref1_shift.l0]
    rw [if_pos (by omega)]
    by_cases c : (m : Int) > 1
    · rw [if_pos c, step_is hm, show wrap64 ((i : Int) + 1) = ((i + 1 : Nat) : Int) by unfold wrap64; omega]
      have hl := stk_le m 1
      rw [Nat.pow_one] at hl
      rw [ref_shift_l j (i + 1) (stk m 1) k d (by omega) hd (by omega), stk_step]
    · rw [if_neg c, stk_small _ (by omega)]
theorem ref_shift_is {m d k : Nat} (hd : d < 2100) (hm : m < 18446744073709551616) (hk : 2100 < k) : falseworkref1_shift.f k (m : Int) (d : Int) = some ((stk m d : Nat) : Int) := by
  unfold falseworkref1_shift.f
  obtain ⟨k, rfl⟩ : ∃ q, k = q + 1 + d := ⟨k - 1 - d, by omega⟩
  exact ref_shift_l d 0 m k d (by omega) (by omega) hm
theorem rnd3 (m : Nat) : rnd m 3 = m / 8 + if 8 < 2 * (m % 8) ∨ (8 = 2 * (m % 8) ∧ m / 8 % 2 = 1) then 1 else 0 := rfl
theorem and7 {m : Nat} (h : m < 18446744073709551616) : Go.bits .and .u64 (m : Int) 7 = ((m % 8 : Nat) : Int) := and_mod h 3 (by decide)
theorem ref_pack_j4 (s : Bool) (c n k : Nat) (hc : c < 2100) (h1 : n ≤ 9007199254740992) (h2 : 4503599627370496 ≤ n ∨ c = 0) :
    falseworkref1_pack.j4 (k + 2) (signI s) ((c + 1 : Nat) : Int) (n : Int) = some ((wordOf s (min (c * 4503599627370496 + n) 9218868437227405312) : Nat) : Int) := by
  have j5 : ∀ e y : Nat, e < 2200 → y < 9007199254740992 → 1 ≤ e → (4503599627370496 ≤ y ∨ e = 1) → falseworkref1_pack.j5 (k + 1) (signI s) (e : Int) (y : Int) = some ((wordOf s (min ((e - 1) * 4503599627370496 + y) 9218868437227405312) : Nat) : Int) := by
    intro e y he hy h1e hs
    simp only [falseworkref1_pack.j5]
    by_cases c1 : (y : Int) < 4503599627370496
    · rw [if_pos c1, or_sign s (by omega)]
      exact some_word s (by omega)
    · rw [if_neg c1]
      by_cases c2 : (e : Int) ≥ 2047
      · have hi : Go.bits .or .u64 (signI s) 9218868437227405312 = ((wordOf s 9218868437227405312 : Nat) : Int) := or_sign s (r := 9218868437227405312) (by decide)
        rw [if_pos c2, hi]
        exact some_word s (by omega)
      · rw [if_neg c2, wrap_small (n := (e : Int)) (by omega) (by omega), wrap_small (n := (e : Int) * 4503599627370496) (by omega) (by omega), show (e : Int) * 4503599627370496 = ((e * 4503599627370496 : Nat) : Int) by omega, and_mask (by omega), or_pack s (by omega) (by omega)]
        exact some_word s (by omega)
  simp only [falseworkref1_pack.j4]
  by_cases c1 : (n : Int) = 9007199254740992
  · rw [if_pos c1, show wrap64 (((c + 1 : Nat) : Int) + 1) = ((c + 2 : Nat) : Int) by unfold wrap64; omega, show (n : Int) / 2 = ((4503599627370496 : Nat) : Int) by omega, j5 _ _ (by omega) (by omega) (by omega) (by omega)]
    exact some_word s (by omega)
  · rw [if_neg c1, j5 _ _ (by omega) (by omega) (by omega) (by omega)]
    exact some_word s (by omega)
theorem ref_pack_j2 (s : Bool) (c m k : Nat) (hc : c < 2100) (hm : (36028797018963968 ≤ m ∧ m < 72057594037927936) ∨ (c = 0 ∧ m < 36028797018963968)) :
    falseworkref1_pack.j2 (k + 4) (signI s) ((c + 1 : Nat) : Int) (m : Int) = some ((wordOf s (min (c * 4503599627370496 + rnd m 3) 9218868437227405312) : Nat) : Int) := by
  simp only [falseworkref1_pack.j2]
  rw [and7 (by omega), show (m : Int) / 8 = ((m / 8 : Nat) : Int) by omega, and_bit (by omega), rnd3]
  have j3 : ∀ b : Bool, falseworkref1_pack.j3 (k + 3) (signI s) ((c + 1 : Nat) : Int) ((m / 8 : Nat) : Int) b = some ((wordOf s (min (c * 4503599627370496 + (m / 8 + if b = true then 1 else 0)) 9218868437227405312) : Nat) : Int) := by
    intro b
    simp only [falseworkref1_pack.j3]
    cases b
    · rw [if_neg (by decide), if_neg (by decide), ref_pack_j4 s c (m / 8) k hc (by omega) (by omega)]
      exact some_word s (by omega)
    · rw [if_pos rfl, if_pos rfl, wrap_small (n := ((m / 8 : Nat) : Int) + 1) (by omega) (by omega), show ((m / 8 : Nat) : Int) + 1 = ((m / 8 + 1 : Nat) : Int) by omega, ref_pack_j4 s c (m / 8 + 1) k hc (by omega) (by omega)]
  by_cases c1 : ((m % 8 : Nat) : Int) > 4
  · rw [if_pos c1, j3]
    rw [if_pos rfl, if_pos (Or.inl (by omega))]
  · rw [if_neg c1]
    by_cases c2 : ((m % 8 : Nat) : Int) = 4
    · rw [if_pos c2, j3]
      by_cases c3 : m / 8 % 2 = 1
      · rw [c3, if_pos (by decide), if_pos (Or.inr ⟨by omega, rfl⟩)]
      · rw [show m / 8 % 2 = 0 by omega, if_neg (by decide), if_neg (by omega)]
    · rw [if_neg c2, j3]
      rw [if_neg (by decide), if_neg (by omega)]
theorem ref_pack_l1 (s : Bool) (V : Nat) : ∀ (c m k : Nat), c < 2100 → m < 72057594037927936 →
    (m * 2 ^ c = V * 2 ^ 3 ∨ (18014398509481984 ≤ m ∧ m = stk (V * 2 ^ 3) c) ∨ (36028797018963968 ≤ m ∧ m = 2 * stk (V * 2 ^ 3) (c + 1))) →
    falseworkref1_pack.l1 (k + 5 + c) (signI s) ((c + 1 : Nat) : Int) (m : Int) = some ((wordOf s (min (near V) 9218868437227405312) : Nat) : Int) := by
  have fin : ∀ (c m k : Nat), c < 2100 → m < 72057594037927936 → (36028797018963968 ≤ m ∨ c = 0) →
      (m * 2 ^ c = V * 2 ^ 3 ∨ (18014398509481984 ≤ m ∧ m = stk (V * 2 ^ 3) c) ∨ (36028797018963968 ≤ m ∧ m = 2 * stk (V * 2 ^ 3) (c + 1))) →
      falseworkref1_pack.j2 (k + 4) (signI s) ((c + 1 : Nat) : Int) (m : Int) = some ((wordOf s (min (near V) 9218868437227405312) : Nat) : Int) := by
    intro c m k hc hm hs H
    have hm' : (36028797018963968 ≤ m ∧ m < 72057594037927936) ∨ (c = 0 ∧ m < 36028797018963968) := by omega
    rw [ref_pack_j2 s c m k hc hm', ← near_pack V c m ?_ hm']
    rcases H with H | ⟨_, H⟩ | ⟨_, H⟩
    · exact Or.inl (by rw [← H, stk_exact])
    · exact Or.inl H
    · exact Or.inr H
  intro c
  induction c with
  | zero =>
    intro m k hc hm H
    simp only [falseworkref1_pack.l1]
    by_cases c1 : (m : Int) < 36028797018963968
    · rw [if_pos c1, if_neg (by omega)]
      exact fin 0 m k hc hm (by omega) H
    · rw [if_neg c1]
      exact fin 0 m k hc hm (by omega) H
  | succ c ih =>
    intro m k hc hm H
    rw [show k + 5 + (c + 1) = (k + 5 + c) + 1 by omega]
    simp only [falseworkref1_pack.l1]
    by_cases c1 : (m : Int) < 36028797018963968
    · rw [if_pos c1, if_pos (by omega), show wrap64 (((c + 1 + 1 : Nat) : Int) - 1) = ((c + 1 : Nat) : Int) by unfold wrap64; omega]
      rw [wrap_small (n := (m : Int) * 2) (by omega) (by omega), show (m : Int) * 2 = ((m * 2 : Nat) : Int) by omega]
      refine ih (m * 2) k (by omega) (by omega) ?_
      rcases H with H | ⟨g, H⟩ | ⟨g, _⟩
      · exact Or.inl (by rw [← H, Nat.mul_assoc, Nat.pow_succ, Nat.mul_comm 2])
      · exact Or.inr (Or.inr ⟨by omega, by omega⟩)
      · omega
    · rw [if_neg c1, show k + 5 + c = (k + 1 + c) + 4 by omega]
      exact fin (c + 1) m _ hc hm (by omega) H
theorem ref_pack_is (s : Bool) (V c m k : Nat) (hc : c < 2050) (hk : 2100 < k) (hm : m < 144115188075855872) (H : m * 2 ^ c = V * 2 ^ 3 ∨ 18014398509481984 ≤ m) (hst : m = stk (V * 2 ^ 3) c) :
    falseworkref1_pack.f k (signI s) ((c + 1 : Nat) : Int) (m : Int) = some ((wordOf s (min (near V) 9218868437227405312) : Nat) : Int) := by
  unfold falseworkref1_pack.f
  have first : ∀ (c m k : Nat), c < 2060 → 2090 < k → m < 72057594037927936 → (m * 2 ^ c = V * 2 ^ 3 ∨ (18014398509481984 ≤ m ∧ m = stk (V * 2 ^ 3) c)) →
      falseworkref1_pack.l0 k (signI s) ((c + 1 : Nat) : Int) (m : Int) = some ((wordOf s (min (near V) 9218868437227405312) : Nat) : Int) := by
    intro c m k hc hk hm H
    obtain ⟨k, rfl⟩ : ∃ q, k = (q + 5 + c) + 1 := ⟨k - 6 - c, by omega⟩
    simp only [falseworkref1_pack.l0]
    rw [if_pos (by omega)]
    exact ref_pack_l1 s V c m k (by omega) hm (by
      rcases H with H | H
      · exact Or.inl H
      · exact Or.inr (Or.inl H))
  by_cases c1 : m < 72057594037927936
  · exact first c m k (by omega) (by omega) c1 (by
      rcases H with H | H
      · exact Or.inl H
      · exact Or.inr ⟨H, hst⟩)
  · obtain ⟨k, rfl⟩ : ∃ q, k = q + 1 := ⟨k - 1, by omega⟩
    simp only [falseworkref1_pack.l0]
    rw [if_neg (by omega), step_is (by omega), show wrap64 (((c + 1 : Nat) : Int) + 1) = ((c + 1 + 1 : Nat) : Int) by unfold wrap64; omega]
    have hs := stk_half m 1
    have hl := stk_le m 1
    rw [Nat.pow_one] at hl hs
    exact first (c + 1) (stk m 1) k (by omega) (by omega) (by omega) (Or.inr ⟨by omega, by rw [hst, stk_succ]⟩)
/-- A rung's digits, and their place. -/
def ce (r : Nat) : Nat := if r < 4503599627370496 then 0 else r / 4503599627370496 - 1
def mg (r : Nat) : Nat := if r < 4503599627370496 then r else 4503599627370496 + r % 4503599627370496
theorem un_parts (r : Nat) : un r = mg r * 2 ^ ce r := by
  unfold un mg ce; split
  · rw [Nat.pow_zero, Nat.mul_one]
  · rfl
theorem mg_lt (r : Nat) : mg r < 9007199254740992 := by unfold mg; split <;> omega
theorem ref_parts_is {x : Nat} (hx : x < 18446744073709551616) (hf : x % 9223372036854775808 < 9218868437227405312) :
    falseworkref1_parts.f (x : Int) = some (((ce (x % 9223372036854775808) + 1 : Nat) : Int), ((mg (x % 9223372036854775808) * 8 : Nat) : Int)) := by
  unfold falseworkref1_parts.f
  rw [and_exp hx, and_mask hx, or_lead (Nat.mod_lt _ (by decide))]
  unfold ce mg
  by_cases c : ((x / 4503599627370496 % 2048 : Nat) : Int) = 0
  · have h1 : x % 9223372036854775808 < 4503599627370496 := by omega
    rw [if_pos c, if_pos h1, if_pos h1, wrap_small (by omega) (by omega), show x % 4503599627370496 = x % 9223372036854775808 by omega]
    refine congrArg some (Prod.ext ?_ ?_)
    · rfl
    · show ((x % 9223372036854775808 : Nat) : Int) * 8 = _; omega
  · have h1 : ¬ x % 9223372036854775808 < 4503599627370496 := by omega
    rw [if_neg c, if_neg h1, if_neg h1, wrap_small (by omega) (by omega)]
    refine congrArg some (Prod.ext ?_ ?_)
    · show ((x / 4503599627370496 % 2048 : Nat) : Int) = _; omega
    · show ((4503599627370496 + x % 4503599627370496 : Nat) : Int) * 8 = _; omega
/-- Digits of two rungs, brought to one place and added or taken away: what packs to the sum. -/
theorem ref_digits (ra rb : Nat) (h : rb ≤ ra) (hi : ra < 9218868437227405312) :
    ce rb ≤ ce ra ∧ ce ra < 2050 ∧
    (mg ra * 8 + stk (mg rb * 8) (ce ra - ce rb) < 144115188075855872 ∧ mg ra * 8 + stk (mg rb * 8) (ce ra - ce rb) = stk ((un ra + un rb) * 2 ^ 3) (ce ra) ∧
      ((mg ra * 8 + stk (mg rb * 8) (ce ra - ce rb)) * 2 ^ ce ra = (un ra + un rb) * 2 ^ 3 ∨ 18014398509481984 ≤ mg ra * 8 + stk (mg rb * 8) (ce ra - ce rb))) ∧
    (stk (mg rb * 8) (ce ra - ce rb) ≤ mg ra * 8 ∧ mg ra * 8 - stk (mg rb * 8) (ce ra - ce rb) = stk ((un ra - un rb) * 2 ^ 3) (ce ra) ∧
      ((mg ra * 8 - stk (mg rb * 8) (ce ra - ce rb)) * 2 ^ ce ra = (un ra - un rb) * 2 ^ 3 ∨ 18014398509481984 ≤ mg ra * 8 - stk (mg rb * 8) (ce ra - ce rb))) := by
  have hce : ce rb ≤ ce ra := by unfold ce; split <;> split <;> omega
  have hcl : ce ra < 2050 := by unfold ce; split <;> omega
  obtain ⟨d, hd⟩ : ∃ d, ce ra = d + ce rb := ⟨ce ra - ce rb, by omega⟩
  have hma := mg_lt ra
  have hmb := mg_lt rb
  have hua : un ra * 2 ^ 3 = mg ra * 8 * 2 ^ d * 2 ^ ce rb := by
    rw [un_parts, hd, Nat.pow_add]
    rw [show (2 : Nat) ^ 3 = 8 from rfl]
    rw [Nat.mul_assoc (mg ra * 8), Nat.mul_right_comm]
  have hub : un rb * 2 ^ 3 = mg rb * 8 * 2 ^ ce rb := by
    rw [un_parts, show (2 : Nat) ^ 3 = 8 from rfl, Nat.mul_right_comm]
  have hpb := Nat.two_pow_pos (ce rb)
  have hle : mg rb * 8 ≤ mg ra * 8 * 2 ^ d := by
    have h1 : un rb ≤ un ra := by
      rcases Nat.lt_or_ge rb ra with h2 | h2
      · exact Nat.le_of_lt (un_mono h2)
      · rw [show rb = ra by omega]; exact Nat.le_refl _
    have h2 := Nat.mul_le_mul_right (2 ^ 3) h1
    rw [hua, hub] at h2
    exact Nat.le_of_mul_le_mul_right h2 hpb
  rw [show ce ra - ce rb = d by omega]
  have s1 := stk_add (mg ra * 8) (mg rb * 8) d (by omega)
  obtain ⟨s2, s3⟩ := stk_sub (mg ra * 8) (mg rb * 8) d (by omega) hle
  have hsl := stk_le (mg rb * 8) d
  have hdl : mg rb * 8 / 2 ^ d ≤ mg rb * 8 := Nat.div_le_self _ _
  have q1 : (un ra + un rb) * 2 ^ 3 = (mg ra * 8 * 2 ^ d + mg rb * 8) * 2 ^ ce rb := by rw [Nat.add_mul, Nat.add_mul, hua, hub]
  have q2 : (un ra - un rb) * 2 ^ 3 = (mg ra * 8 * 2 ^ d - mg rb * 8) * 2 ^ ce rb := by rw [Nat.sub_mul, Nat.sub_mul, hua, hub]
  have ex : mg rb * 8 % 2 ^ d = 0 ∨ (36028797018963968 ≤ mg ra * 8 ∧ stk (mg rb * 8) d ≤ 4503599627370497) := by
    by_cases h3 : d ≤ 3
    · left
      have : (8 : Nat) = 2 ^ (3 - d) * 2 ^ d := by rw [← Nat.pow_add, show 3 - d + d = 3 by omega]
      rw [this, ← Nat.mul_assoc]
      exact Nat.mul_mod_left _ _
    · right
      have h4 : 4503599627370496 ≤ mg ra := by
        have : ¬ ra < 4503599627370496 := by
          intro h5
          have : ce ra = 0 := by unfold ce; rw [if_pos h5]
          omega
        unfold mg; rw [if_neg this]; omega
      have h5 : 2 ^ 4 ≤ 2 ^ d := Nat.pow_le_pow_right (by decide) (by omega)
      have h6 : mg rb * 8 / 2 ^ d ≤ mg rb * 8 / 2 ^ 4 := Nat.div_le_div_left h5 (by decide)
      have h7 : (2 : Nat) ^ 4 = 16 := rfl
      rw [h7] at h6
      omega
  refine ⟨hce, hcl, ⟨by omega, ?_, ?_⟩, ⟨s3, ?_, ?_⟩⟩
  · rw [q1, hd, stk_scale, s1]
  · rcases ex with ex | ⟨ex1, ex2⟩
    · left
      have e2 : stk (mg rb * 8) d = mg rb * 8 / 2 ^ d := by unfold stk; rw [if_pos ex]
      rw [e2, q1, hd, Nat.pow_add, ← Nat.mul_assoc, Nat.add_mul, Nat.div_mul_cancel (Nat.dvd_of_mod_eq_zero ex)]
    · right; omega
  · rw [q2, hd, stk_scale, s2]
  · rcases ex with ex | ⟨ex1, ex2⟩
    · left
      have e2 : stk (mg rb * 8) d = mg rb * 8 / 2 ^ d := by unfold stk; rw [if_pos ex]
      rw [e2, q2, hd, Nat.pow_add, ← Nat.mul_assoc, Nat.sub_mul, Nat.div_mul_cancel (Nat.dvd_of_mod_eq_zero ex)]
    · right; omega
end Go.Proofs.Ytijdengicjjebaa.PA
