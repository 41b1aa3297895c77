/- What falls out to the right told by the lowest bit: that it rounds as the whole number does. -/
import Derived.Test.YtijdengicjjebaaFloN
namespace Go.Proofs.Ytijdengicjjebaa.Plain

/-- A number cut by d digits; if these are not all nought, the lowest bit is set. -/
def stk (v d : Nat) : Nat := if v % 2 ^ d = 0 then v / 2 ^ d else 2 * (v / 2 ^ d / 2) + 1
theorem stk_zero (v : Nat) : stk v 0 = v := by
  unfold stk; rw [Nat.pow_zero, Nat.mod_one, if_pos rfl, Nat.div_one]
theorem stk_one (v : Nat) : stk v 1 = if v % 2 = 0 then v / 2 else 2 * (v / 2 / 2) + 1 := rfl
theorem stk_small {v : Nat} (d : Nat) (h : v ≤ 1) : stk v d = v := by
  unfold stk
  have hp := Nat.two_pow_pos d
  by_cases h0 : v = 0
  · rw [h0, Nat.zero_mod, if_pos rfl, Nat.zero_div]
  · obtain rfl : v = 1 := by omega
    by_cases hd : d = 0
    · rw [hd]; rfl
    · have h1 : 1 < 2 ^ d := Nat.one_lt_two_pow hd
      rw [Nat.mod_eq_of_lt h1, if_neg (by decide), Nat.div_eq_of_lt h1]
theorem stk_succ (v d : Nat) : stk (stk v d) 1 = stk v (d + 1) := by
  rw [stk_one]
  unfold stk
  have h1 := Nat.mod_pow_succ (b := 2) (k := d) (x := v)
  have h2 : v / 2 ^ (d + 1) = v / 2 ^ d / 2 := by rw [Nat.pow_succ, Nat.div_div_eq_div_mul]
  have hp := Nat.two_pow_pos d
  rw [h1, h2]
  generalize v / 2 ^ d = q
  generalize v % 2 ^ d = r
  by_cases hr : r = 0
  · rw [if_pos hr]
    rcases Nat.mod_two_eq_zero_or_one q with hq | hq
    · rw [hq, hr, if_pos rfl, if_pos (by omega)]
    · rw [hq, hr, if_neg (by decide), if_neg (by omega)]
  · rw [if_neg hr, if_neg (c := r + _ = 0) (by omega), if_neg (by omega)]
    omega
theorem stk_step (v d : Nat) : stk (stk v 1) d = stk v (d + 1) := by
  induction d with
  | zero => rw [stk_zero]
  | succ d ih => rw [← stk_succ, ih, stk_succ]
theorem stk_scale (v p d : Nat) : stk (v * 2 ^ p) (d + p) = stk v d := by
  unfold stk
  have hp := Nat.two_pow_pos p
  rw [Nat.pow_add, Nat.mul_div_mul_right _ _ hp, Nat.mul_mod_mul_right]
  by_cases h : v % 2 ^ d = 0
  · rw [if_pos h, if_pos (by rw [h, Nat.zero_mul])]
  · rw [if_neg h, if_neg]
    intro hh; rcases Nat.mul_eq_zero.1 hh with h1 | h1 <;> omega
theorem stk_exact (v d : Nat) : stk (v * 2 ^ d) d = v := by
  have := stk_scale v d 0
  rw [Nat.zero_add, stk_zero] at this; exact this
theorem stk_add (a b d : Nat) (h : a % 2 = 0) : stk (a * 2 ^ d + b) d = a + stk b d := by
  unfold stk
  have hp := Nat.two_pow_pos d
  rw [Nat.mul_comm a, Nat.mul_add_mod, Nat.mul_add_div hp]
  by_cases h1 : b % 2 ^ d = 0
  · rw [if_pos h1, if_pos h1]
  · rw [if_neg h1, if_neg h1]; omega
theorem stk_sub (a b d : Nat) (h : a % 2 = 0) (hb : b ≤ a * 2 ^ d) : stk (a * 2 ^ d - b) d = a - stk b d ∧ stk b d ≤ a := by
  have hp := Nat.two_pow_pos d
  have hbd := Nat.div_add_mod b (2 ^ d)
  have hml := Nat.mod_lt b hp
  have hqa : b / 2 ^ d ≤ a := by
    rw [Nat.mul_comm] at hb
    exact (Nat.div_le_iff_le_mul_add_pred hp).2 (by omega)
  by_cases h1 : b % 2 ^ d = 0
  · have e1 : a * 2 ^ d - b = (a - b / 2 ^ d) * 2 ^ d := by
      rw [Nat.sub_mul, Nat.mul_comm (b / 2 ^ d)]; omega
    have e2 : stk b d = b / 2 ^ d := by unfold stk; rw [if_pos h1]
    rw [e1, stk_exact, e2]; exact ⟨rfl, hqa⟩
  · have e2 : stk b d = 2 * (b / 2 ^ d / 2) + 1 := by unfold stk; rw [if_neg h1]
    have hlt : b / 2 ^ d < a := by
      rcases Nat.lt_or_ge (b / 2 ^ d) a with h2 | h2
      · exact h2
      · have h3 := Nat.mul_le_mul_left (2 ^ d) h2
        rw [Nat.mul_comm (2 ^ d) a] at h3
        omega
    have e1 : a * 2 ^ d - b = 2 ^ d * (a - b / 2 ^ d - 1) + (2 ^ d - b % 2 ^ d) := by
      rw [Nat.sub_sub, Nat.mul_sub, Nat.mul_add, Nat.mul_one, Nat.mul_comm (2 ^ d) a]
      have h3 := Nat.mul_le_mul_left (2 ^ d) (show b / 2 ^ d + 1 ≤ a from hlt)
      rw [Nat.mul_add, Nat.mul_one, Nat.mul_comm (2 ^ d) a] at h3
      omega
    have e3 : stk (a * 2 ^ d - b) d = 2 * ((a - b / 2 ^ d - 1) / 2) + 1 := by
      rw [e1]
      unfold stk
      rw [Nat.mul_add_mod, Nat.mul_add_div hp, Nat.mod_eq_of_lt (show 2 ^ d - b % 2 ^ d < 2 ^ d by omega), Nat.div_eq_of_lt (show 2 ^ d - b % 2 ^ d < 2 ^ d by omega), if_neg (by omega)]
      simp only [Nat.add_zero]
    rw [e3, e2]
    generalize b / 2 ^ d = q at *
    constructor <;> omega
theorem stk_half (v d : Nat) : stk v d / 2 = v / 2 ^ d / 2 := by
  unfold stk; split <;> omega
/-- The lowest bit tells enough: it rounds alike. -/
theorem stk_rnd (v d j : Nat) (hj : 2 ≤ j) : rnd (stk v d) j = rnd v (d + j) := by
  have hp := Nat.two_pow_pos d
  by_cases h1 : v % 2 ^ d = 0
  · have e1 : v = v / 2 ^ d * 2 ^ d := (Nat.div_mul_cancel (Nat.dvd_of_mod_eq_zero h1)).symm
    have e2 : stk v d = v / 2 ^ d := by unfold stk; rw [if_pos h1]
    rw [e2]
    conv => rhs; rw [e1, Nat.add_comm d j]
    exact (rnd_scale _ _ _).symm
  · have e2 : stk v d = 2 * (v / 2 ^ d / 2) + 1 := by unfold stk; rw [if_neg h1]
    rw [e2]
    unfold rnd
    rw [Nat.pow_add, Nat.mod_mul, ← Nat.div_div_eq_div_mul]
    have hrl := Nat.mod_lt v hp
    generalize hq : v / 2 ^ d = q
    generalize v % 2 ^ d = r at *
    generalize 2 ^ d = P at *
    obtain ⟨t, ht⟩ : ∃ t, 2 ^ j = 4 * t := ⟨2 ^ (j - 2), by
      have := Nat.pow_add 2 2 (j - 2)
      rw [show 2 + (j - 2) = j by omega] at this
      exact this⟩
    have htp : 0 < t := by have := Nat.two_pow_pos j; omega
    rw [ht]
    have hdm := Nat.div_add_mod q (4 * t)
    have hcl := Nat.mod_lt q (show 4 * t > 0 by omega)
    generalize hu : q / (4 * t) = u at *
    generalize q % (4 * t) = c at *
    have e3 : 2 * (q / 2) + 1 = 4 * t * u + (2 * (c / 2) + 1) := by
      rw [Nat.mul_assoc] at hdm ⊢
      generalize t * u = w at *
      omega
    have e4 : (2 * (q / 2) + 1) / (4 * t) = u := by
      rw [e3, Nat.mul_add_div (by omega), Nat.div_eq_of_lt (by omega), Nat.add_zero]
    have e5 : (2 * (q / 2) + 1) % (4 * t) = 2 * (c / 2) + 1 := by
      rw [e3, Nat.mul_add_mod, Nat.mod_eq_of_lt (by omega)]
    rw [e4, e5]
    congr 1
    by_cases hc : 2 * t ≤ c
    · have h2 : P * (4 * t) < 2 * (r + P * c) := by
        have := Nat.mul_le_mul_left P hc
        have e : P * (4 * t) = 2 * (P * (2 * t)) := by
          rw [← Nat.mul_assoc, ← Nat.mul_assoc, ← Nat.mul_assoc, Nat.mul_comm 2 P, Nat.mul_assoc P 2 2]
        omega
      rw [if_pos (Or.inl (by omega)), if_pos (Or.inl h2)]
    · have h2 : 2 * (r + P * c) < P * (4 * t) := by
        have := Nat.mul_le_mul_left P (show c + 1 ≤ 2 * t by omega)
        rw [Nat.mul_add, Nat.mul_one] at this
        have e : P * (4 * t) = 2 * (P * (2 * t)) := by
          rw [← Nat.mul_assoc, ← Nat.mul_assoc, ← Nat.mul_assoc, Nat.mul_comm 2 P, Nat.mul_assoc P 2 2]
        omega
      rw [if_neg (c := 4 * t < _ ∨ _) (by omega), if_neg]
      rintro (h3 | ⟨h3, _⟩) <;> omega
/-- Of what is as long as a float's digits and three more: the nearest rung. -/
theorem near_pack (V c m : Nat) (H : m = stk (V * 2 ^ 3) c ∨ m = 2 * stk (V * 2 ^ 3) (c + 1)) (hm : (36028797018963968 ≤ m ∧ m < 72057594037927936) ∨ (c = 0 ∧ m < 36028797018963968)) :
    near V = c * 4503599627370496 + rnd m 3 := by
  have key : ∀ k : Nat, 36028797018963968 * 2 ^ c ≤ V * 2 ^ 3 → V * 2 ^ 3 < 72057594037927936 * 2 ^ c → near V = c * 4503599627370496 + rnd (V * 2 ^ 3) (c + 3) := by
    intro _ h1 h2
    have hV : V ≠ 0 := by
      intro h; rw [h, Nat.zero_mul] at h1
      have := Nat.two_pow_pos c; omega
    have hl : V.log2 = 52 + c := by
      apply (Nat.log2_eq_iff hV).2
      have e1 : (2 : Nat) ^ (52 + c) = 4503599627370496 * 2 ^ c := by rw [Nat.pow_add]
      have e2 : (2 : Nat) ^ (52 + c + 1) = 9007199254740992 * 2 ^ c := by rw [show 52 + c + 1 = 53 + c by omega, Nat.pow_add]
      rw [e1, e2]
      have e3 : (2 : Nat) ^ 3 = 8 := rfl
      rw [e3] at h1 h2
      omega
    unfold near
    rw [hl, show 52 + c - 52 = c by omega, rnd_scale]
  by_cases hs : c = 0 ∧ m < 36028797018963968
  · obtain ⟨hc, hlt⟩ := hs
    have hm8 : m = V * 2 ^ 3 := by
      rw [hc] at H
      rcases H with H | H
      · rw [stk_zero] at H; exact H
      · rw [H]
        rw [show V * 2 ^ 3 = V * 2 ^ 2 * 2 ^ 1 by rw [Nat.mul_assoc, ← Nat.pow_add], stk_exact, Nat.pow_one, Nat.mul_comm]
    rw [hm8, hc, rnd_exact, Nat.zero_mul, Nat.zero_add]
    refine near_small ?_
    have e3 : (2 : Nat) ^ 3 = 8 := rfl
    omega
  · obtain ⟨l1, l2⟩ : 36028797018963968 ≤ m ∧ m < 72057594037927936 := by
      rcases hm with h | h
      · exact h
      · exact absurd h hs
    rcases H with H | H
    · have hh := stk_half (V * 2 ^ 3) c
      rw [← H] at hh
      have hp := Nat.two_pow_pos c
      have b1 : 36028797018963968 ≤ V * 2 ^ 3 / 2 ^ c := by omega
      have b2 : V * 2 ^ 3 / 2 ^ c < 72057594037927936 := by omega
      rw [key 0 ((Nat.le_div_iff_mul_le hp).1 b1) ((Nat.div_lt_iff_lt_mul hp).1 b2), H, stk_rnd _ _ _ (by decide)]
    · have hh := stk_half (V * 2 ^ 3) (c + 1)
      have hp := Nat.two_pow_pos (c + 1)
      have b1 : 18014398509481984 ≤ V * 2 ^ 3 / 2 ^ (c + 1) := by omega
      have b2 : V * 2 ^ 3 / 2 ^ (c + 1) < 36028797018963968 := by omega
      have b3 := (Nat.le_div_iff_mul_le hp).1 b1
      have b4 := (Nat.div_lt_iff_lt_mul hp).1 b2
      rw [Nat.pow_succ] at b3 b4
      have e := rnd_scale (stk (V * 2 ^ 3) (c + 1)) 1 2
      rw [Nat.pow_one, Nat.mul_comm _ 2, ← H] at e
      rw [key 0 (by omega) (by omega), show rnd m 3 = rnd m (2 + 1) from rfl, e, stk_rnd _ _ _ (by decide), show c + 1 + 2 = c + 3 by omega]
end Go.Proofs.Ytijdengicjjebaa.Plain
