/- The reference's float of a number, and number of a float: the program's own. -/
import Derived.Test.YtijdengicjjebaaPAx6
import Derived.Test.YtijdengicjjebaaFloFns
import Derived.Test.YtijdengicjjebaaFloN
import Derived.Test.YtijdengicjjebaaFloSum
import Derived.Test.YtijdengicjjebaaFloInt
namespace Go.Proofs.Ytijdengicjjebaa.PA
open Go.RowKit Go.Proofs.YtijdengicjjebaaW.PrintWords Go.Proofs.YtijdengicjjebaaW.PrintLast Go.Proofs.Ytijdengicjjebaa.Plain
set_option exponentiation.threshold 4000

theorem two52 : (2 : Nat) ^ 52 = 4503599627370496 := by decide
theorem two64 : (2 : Nat) ^ 64 = 18446744073709551616 := by decide
theorem wrap_small {n : Int} (h0 : 0 ≤ n) (h : n < 18446744073709551616) : IntKind.u64.wrap n = n := by rw [wrap_u64]; omega
theorem and_mod {x : Nat} (h : x < 18446744073709551616) (d : Nat) (hd : d ≤ 63) : Go.bits .and .u64 (x : Int) ((2 ^ d - 1 : Nat) : Int) = ((x % 2 ^ d : Nat) : Int) := by
  have h1 : 2 ^ d ≤ 2 ^ 63 := Nat.pow_le_pow_right (by decide) hd
  have h2 : (2 : Nat) ^ 63 = 9223372036854775808 := by decide
  rw [and_u64 h (by omega), Nat.and_two_pow_sub_one_eq_mod]
theorem and_mask {x : Nat} (h : x < 18446744073709551616) : Go.bits .and .u64 (x : Int) 4503599627370495 = ((x % 4503599627370496 : Nat) : Int) := and_mod h 52 (by decide)
theorem and_exp {x : Nat} (h : x < 18446744073709551616) : wrap64 (Go.bits .and .u64 ((x : Int) / 4503599627370496) 2047) = ((x / 4503599627370496 % 2048 : Nat) : Int) := by
  have h1 : Go.bits .and .u64 ((x / 4503599627370496 : Nat) : Int) 2047 = ((x / 4503599627370496 % 2048 : Nat) : Int) := and_mod (by omega) 11 (by decide)
  have h2 : ((x : Int) / 4503599627370496) = ((x / 4503599627370496 : Nat) : Int) := by omega
  rw [h2, h1]; unfold wrap64; omega
theorem and_bit {x : Nat} (h : x < 18446744073709551616) : Go.bits .and .u64 (x : Int) 1 = ((x % 2 : Nat) : Int) := and_mod h 1 (by decide)
theorem or_lead {t : Nat} (h : t < 4503599627370496) : Go.bits .or .u64 (t : Int) 4503599627370496 = ((4503599627370496 + t : Nat) : Int) := by
  have h5 : Go.bits .or .u64 (t : Int) 4503599627370496 = ((t ||| 4503599627370496 : Nat) : Int) := or_u64 (b := 4503599627370496) (by omega) (by decide)
  rw [h5, Nat.or_comm]
  have : 4503599627370496 * 1 + t = 4503599627370496 * 1 ||| t := Nat.two_pow_add_eq_or_of_lt (i := 52) (show t < 2 ^ 52 from h) 1
  exact congrArg Int.ofNat this.symm
def signI (s : Bool) : Int := if s then 9223372036854775808 else 0
theorem or_sign (s : Bool) {r : Nat} (h : r < 9223372036854775808) : Go.bits .or .u64 (signI s) (r : Int) = ((wordOf s r : Nat) : Int) := by
  cases s
  · have h5 : Go.bits .or .u64 ((0 : Nat) : Int) (r : Int) = ((0 ||| r : Nat) : Int) := or_u64 (by decide) (by omega)
    rw [Nat.zero_or] at h5
    exact h5
  · have h5 : Go.bits .or .u64 ((9223372036854775808 : Nat) : Int) (r : Int) = ((9223372036854775808 ||| r : Nat) : Int) := or_u64 (by decide) (by omega)
    have : 9223372036854775808 * 1 + r = 9223372036854775808 * 1 ||| r := Nat.two_pow_add_eq_or_of_lt (i := 63) (show r < 2 ^ 63 from h) 1
    rw [Nat.mul_one] at this
    rw [← this] at h5
    exact h5
theorem or_pack (s : Bool) {e y : Nat} (he : e < 2048) (hy : y < 4503599627370496) :
    Go.bits .or .u64 (Go.bits .or .u64 (signI s) ((e * 4503599627370496 : Nat) : Int)) (y : Int) = ((wordOf s (e * 4503599627370496 + y) : Nat) : Int) := by
  rw [or_sign s (by omega)]
  have h5 : Go.bits .or .u64 ((wordOf s (e * 4503599627370496) : Nat) : Int) (y : Int) = ((wordOf s (e * 4503599627370496) ||| y : Nat) : Int) := or_u64 (wordOf_lt _ _ (by omega)) (by omega)
  rw [h5]
  have key : wordOf s (e * 4503599627370496) = 4503599627370496 * (e + if s then 2048 else 0) := by unfold wordOf; split <;> omega
  have key2 : wordOf s (e * 4503599627370496 + y) = 4503599627370496 * (e + if s then 2048 else 0) + y := by unfold wordOf; split <;> omega
  rw [key, key2]
  exact congrArg Int.ofNat (Nat.two_pow_add_eq_or_of_lt (i := 52) (show y < 2 ^ 52 from hy) _).symm
theorem shr_nat {x : Nat} (d : Nat) (hd : d ≤ 64) : shr .u64 (x : Int) (d : Int) = ((x / 2 ^ d : Nat) : Int) := by
  unfold shr
  rw [show IntKind.u64.bits = 64 from rfl, Int.toNat_natCast, Nat.min_eq_left hd]
  have : ((2 : Int) ^ d) = ((2 ^ d : Nat) : Int) := by rw [Int.natCast_pow]; rfl
  rw [this]; exact (Int.natCast_ediv x (2 ^ d)).symm
theorem shl_nat {x : Nat} (d : Nat) (hd : d ≤ 64) (h : x * 2 ^ d < 18446744073709551616) : shl .u64 (x : Int) (d : Int) = ((x * 2 ^ d : Nat) : Int) := by
  unfold shl
  rw [show IntKind.u64.bits = 64 from rfl, Int.toNat_natCast, Nat.min_eq_left hd]
  have : ((2 : Int) ^ d) = ((2 ^ d : Nat) : Int) := by rw [Int.natCast_pow]; rfl
  rw [this, ← Int.natCast_mul]
  exact wrap_small (by omega) (by omega)
theorem two_pow_lt64 {d : Nat} (h : d ≤ 63) : 2 ^ d < 18446744073709551616 := by
  have h1 : 2 ^ d ≤ 2 ^ 63 := Nat.pow_le_pow_right (by decide) h
  have h2 : (2 : Nat) ^ 63 = 9223372036854775808 := by decide
  omega
theorem shl_one (d : Nat) (hd : d ≤ 63) : shl .u64 1 (d : Int) = ((2 ^ d : Nat) : Int) := by
  have := shl_nat (x := 1) d (by omega) (by rw [Nat.one_mul]; exact two_pow_lt64 hd)
  rw [Nat.one_mul] at this
  exact this
theorem low_bits {x : Nat} (h : x < 18446744073709551616) (d : Nat) (hd : d ≤ 63) : Go.bits .and .u64 (x : Int) (IntKind.u64.wrap (shl .u64 1 (d : Int) - 1)) = ((x % 2 ^ d : Nat) : Int) := by
  have hp := Nat.two_pow_pos d
  have hl := two_pow_lt64 hd
  rw [shl_one d hd, show ((2 ^ d : Nat) : Int) - 1 = ((2 ^ d - 1 : Nat) : Int) by omega, wrap_small (by omega) (by omega), and_mod h d hd]
theorem some_word (s : Bool) {a b : Nat} (h : a = b) : some ((wordOf s a : Nat) : Int) = some ((wordOf s b : Nat) : Int) := by rw [h]
/-- The reference's rounding of what is above 53 digits. -/
theorem ref_of_j2 (s : Bool) (h m : Nat) (hh : h ≤ 64) (h1 : 4503599627370496 ≤ m) (h2 : m < 9007199254740992) (b : Bool) (k : Nat) :
    falseworkref1_Of.j2 (k + 1) (signI s) (h : Int) (m : Int) b = some ((wordOf s ((h + 1022) * 4503599627370496 + (m + if b then 1 else 0)) : Nat) : Int) := by
  simp only [falseworkref1_Of.j2]
  have e1 : IntKind.u64.wrap ((IntKind.u64.wrap (wrap64 ((h : Int) + 1023))) * 4503599627370496) = (((h + 1023) * 4503599627370496 : Nat) : Int) := by
    rw [show wrap64 ((h : Int) + 1023) = ((h + 1023 : Nat) : Int) by unfold wrap64; omega, wrap_small (n := ((h + 1023 : Nat) : Int)) (by omega) (by omega), wrap_small (by omega) (by omega)]; omega
  have e2 : IntKind.u64.wrap ((IntKind.u64.wrap (wrap64 ((wrap64 ((h : Int) + 1)) + 1023))) * 4503599627370496) = (((h + 1024) * 4503599627370496 : Nat) : Int) := by
    rw [show wrap64 ((wrap64 ((h : Int) + 1)) + 1023) = ((h + 1024 : Nat) : Int) by unfold wrap64; omega, wrap_small (n := ((h + 1024 : Nat) : Int)) (by omega) (by omega), wrap_small (by omega) (by omega)]; omega
  rw [e1, e2]
  cases b
  · rw [if_neg (by decide), if_neg (by omega), and_mask (by omega), or_pack s (by omega) (by omega)]
    exact some_word s (by show _ = (h + 1022) * 4503599627370496 + (m + 0); omega)
  · rw [if_pos rfl, wrap_small (n := (m : Int) + 1) (by omega) (by omega)]
    by_cases c : (m : Int) + 1 = 9007199254740992
    · rw [if_pos c, c]
      have : Go.bits .and .u64 ((9007199254740992 : Int) / 2) 4503599627370495 = ((0 : Nat) : Int) := by
        have := and_mask (x := 4503599627370496) (by decide); exact this
      rw [this, or_pack s (by omega) (by omega)]
      exact some_word s (by show _ = (h + 1022) * 4503599627370496 + (m + 1); omega)
    · rw [if_neg c, show (m : Int) + 1 = ((m + 1 : Nat) : Int) by omega, and_mask (by omega), or_pack s (by omega) (by omega)]
      exact some_word s (by show _ = (h + 1022) * 4503599627370496 + (m + 1); omega)
theorem near_of (u : Nat) (h0 : u ≠ 0) : near (u * 2 ^ 1074) = (u.log2 + 1022) * 4503599627370496 + rnd (u * 2 ^ 1074) (u.log2 + 1022) := by
  unfold near
  rw [log2_scale u 1074 h0, show u.log2 + 1074 - 52 = u.log2 + 1022 by omega]
theorem ref_of_l0 (s : Bool) (u : Nat) (h0 : u ≠ 0) (hu : u < 18446744073709551616) : ∀ (j i h k : Nat), i + j = 64 → h < 64 → u % 2 ^ i < 2 ^ (h + 1) → (u % 2 ^ i ≠ 0 → 2 ^ h ≤ u % 2 ^ i) →
    falseworkref1_Of.l0 (k + 2 + j) (signI s) (u : Int) (h : Int) (i : Int) = some ((wordOf s (near (u * 2 ^ 1074)) : Nat) : Int)
  | 0, i, h, k, hij, hh, a1, a2 => by
    obtain rfl : i = 64 := by omega
    rw [two64, Nat.mod_eq_of_lt hu] at a1 a2
    have hl : u.log2 = h := (Nat.log2_eq_iff h0).2 ⟨a2 h0, a1⟩
    have a3 := a2 h0
    simp only [falseworkref1_Of.l0]
    rw [if_neg (by decide)]
    by_cases c : (h : Int) ≤ 52
    · rw [if_pos c]
      obtain ⟨d, hd⟩ : ∃ d, h + d = 52 := ⟨52 - h, by omega⟩
      have e1 : IntKind.u64.wrap (wrap64 (52 - (h : Int))) = (d : Int) := by
        rw [show wrap64 (52 - (h : Int)) = (d : Int) by unfold wrap64; omega, wrap_small (by omega) (by omega)]
      have e2 : IntKind.u64.wrap ((IntKind.u64.wrap (wrap64 ((h : Int) + 1023))) * 4503599627370496) = (((h + 1023) * 4503599627370496 : Nat) : Int) := by
        rw [show wrap64 ((h : Int) + 1023) = ((h + 1023 : Nat) : Int) by unfold wrap64; omega, wrap_small (n := ((h + 1023 : Nat) : Int)) (by omega) (by omega), wrap_small (by omega) (by omega)]; omega
      have b1 : 4503599627370496 ≤ u * 2 ^ d := by
        have h2 : 2 ^ h * 2 ^ d ≤ u * 2 ^ d := Nat.mul_le_mul_right _ a3
        rw [← Nat.pow_add, hd, two52] at h2; exact h2
      have b2 : u * 2 ^ d < 9007199254740992 := by
        have h2 : u * 2 ^ d < 2 ^ (h + 1) * 2 ^ d := (Nat.mul_lt_mul_right (Nat.two_pow_pos d)).2 a1
        rw [← Nat.pow_add, show h + 1 + d = 53 by omega] at h2
        have h4 : (2 : Nat) ^ 53 = 9007199254740992 := by decide
        omega
      rw [e1, e2, if_pos (by omega), shl_nat d (by omega) (by omega), and_mask (by omega), or_pack s (by omega) (by omega)]
      have e3 : near (u * 2 ^ 1074) = (h + 1022) * 4503599627370496 + u * 2 ^ d := by
        rw [show u * 2 ^ 1074 = u * 2 ^ d * 2 ^ (h + 1022) by rw [Nat.mul_assoc, ← Nat.pow_add, show d + (h + 1022) = 1074 by omega], near_exact _ _ b1 b2]
      rw [e3]
      exact some_word s (by omega)
    · rw [if_neg c]
      obtain ⟨d, hd⟩ : ∃ d, h = d + 1 + 52 := ⟨h - 53, by omega⟩
      have e1 : IntKind.u64.wrap (wrap64 ((h : Int) - 52)) = ((d + 1 : Nat) : Int) := by
        rw [show wrap64 ((h : Int) - 52) = ((d + 1 : Nat) : Int) by unfold wrap64; omega, wrap_small (by omega) (by omega)]
      have e2 : IntKind.u64.wrap (((d + 1 : Nat) : Int) - 1) = (d : Int) := by
        rw [show ((d + 1 : Nat) : Int) - 1 = (d : Int) by omega, wrap_small (by omega) (by omega)]
      have hp := Nat.two_pow_pos (d + 1)
      have b1 : 4503599627370496 ≤ u / 2 ^ (d + 1) := by
        rw [Nat.le_div_iff_mul_le hp, ← two52, ← Nat.pow_add]
        rw [hd, show d + 1 + 52 = 52 + (d + 1) by omega] at a3; exact a3
      have b2 : u / 2 ^ (d + 1) < 9007199254740992 := by
        rw [Nat.div_lt_iff_lt_mul hp]
        have h4 : (2 : Nat) ^ 53 = 9007199254740992 := by decide
        rw [← h4, ← Nat.pow_add]
        rw [hd, show d + 1 + 52 + 1 = 53 + (d + 1) by omega] at a1; exact a1
      rw [e1, e2, if_pos (by omega), if_pos (by omega), low_bits hu (d + 1) (by omega), shl_one d (by omega), shr_nat (d + 1) (by omega), and_bit (by omega)]
      have hr : rnd (u * 2 ^ 1074) (h + 1022) = rnd u (d + 1) := by
        rw [show h + 1022 = d + 1 + 1074 by omega, rnd_scale]
      rw [near_of u h0, hl, hr]
      have hhalf : 2 ^ (d + 1) = 2 * 2 ^ d := by rw [Nat.pow_succ, Nat.mul_comm]
      unfold rnd
      generalize u / 2 ^ (d + 1) = m at *
      generalize u % 2 ^ (d + 1) = low at *
      rw [hhalf]
      generalize 2 ^ d = half at *
      by_cases c1 : (low : Int) > (half : Int)
      · rw [if_pos c1, ref_of_j2 s h m (by omega) b1 b2]
        rw [if_pos (Or.inl (by omega)), if_pos rfl]
      · rw [if_neg c1]
        by_cases c2 : (low : Int) = (half : Int)
        · rw [if_pos c2, ref_of_j2 s h m (by omega) b1 b2]
          by_cases c3 : m % 2 = 1
          · rw [if_pos (Or.inr ⟨by omega, c3⟩), c3]; rfl
          · rw [if_neg (c := 2 * half < 2 * low ∨ _) (by omega), show m % 2 = 0 by omega]; rfl
        · rw [if_neg c2, ref_of_j2 s h m (by omega) b1 b2]
          rw [if_neg (c := 2 * half < 2 * low ∨ _) (by omega), if_neg (by decide)]
  | j + 1, i, h, k, hij, hh, a1, a2 => by
    have hi : i < 64 := by omega
    have hs := Nat.mod_pow_succ (b := 2) (k := i) (x := u)
    have hp := Nat.two_pow_pos i
    have hlt := Nat.mod_lt u hp
    rw [show k + 2 + (j + 1) = (k + 2 + j) + 1 by omega]
    simp only [falseworkref1_Of.l0]
    rw [if_pos (by omega), wrap_small (n := (i : Int)) (by omega) (by omega), if_pos (by omega), shr_nat i (by omega), and_bit (Nat.lt_of_le_of_lt (Nat.div_le_self _ _) hu)]
    rw [show wrap64 ((i : Int) + 1) = ((i + 1 : Nat) : Int) by unfold wrap64; omega]
    rcases Nat.mod_two_eq_zero_or_one (u / 2 ^ i) with c | c
    · rw [c, if_neg (by decide)]
      rw [c, Nat.mul_zero, Nat.add_zero] at hs
      exact ref_of_l0 s u h0 hu j (i + 1) h k (by omega) hh (by rw [hs]; exact a1) (by rw [hs]; exact a2)
    · rw [c, if_pos (by decide)]
      rw [c, Nat.mul_one] at hs
      exact ref_of_l0 s u h0 hu j (i + 1) i k (by omega) hi (by rw [hs, Nat.pow_succ]; omega) (by rw [hs]; omega)
set_option maxRecDepth 10000 in
theorem e53 (q : Nat) : 53 + (q + 1022) = q + 1 + 1074 := by omega
theorem ref_of_is {n : Int} (h1 : -9223372036854775808 ≤ n) (h2 : n < 9223372036854775808) : falseworkref1_Of.f 67 n = some ((ofW n : Nat) : Int) := by
  unfold falseworkref1_Of.f
  by_cases hz : n = 0
  · rw [if_pos hz, hz]
    have : ofW 0 = 0 := by
      unfold ofW
      rw [show Int.natAbs 0 = 0 from rfl, Nat.zero_mul, near_small (by decide)]; rfl
    rw [this]; rfl
  · rw [if_neg hz]
    have hn0 : n.natAbs ≠ 0 := by omega
    have hbig : near (n.natAbs * 2 ^ 1074) ≤ 9218868437227405312 := by
      rw [near_of _ hn0]
      have hl : n.natAbs.log2 ≤ 63 := by
        have := (Nat.log2_lt hn0 (k := 64)).2 (by omega); omega
      have hr : rnd (n.natAbs * 2 ^ 1074) (n.natAbs.log2 + 1022) ≤ 9007199254740992 := by
        unfold rnd
        have : n.natAbs * 2 ^ 1074 / 2 ^ (n.natAbs.log2 + 1022) < 9007199254740992 := by
          rw [Nat.div_lt_iff_lt_mul (Nat.two_pow_pos _)]
          have h4 : (2 : Nat) ^ 53 = 9007199254740992 := by decide
          rw [← h4, ← Nat.pow_add, e53, Nat.pow_add]
          exact (Nat.mul_lt_mul_right (Nat.two_pow_pos _)).2 ((Nat.log2_eq_iff hn0).1 rfl).2
        split <;> omega
      omega
    have l1 := fun s => ref_of_l0 s n.natAbs hn0 (by omega) 64 0 0 0 rfl (by decide) (by rw [Nat.pow_zero, Nat.mod_one]; decide) (by rw [Nat.pow_zero, Nat.mod_one]; intro h; exact absurd rfl h)
    unfold ofW
    rw [Nat.min_eq_left hbig]
    by_cases hn : n < 0
    · rw [if_pos hn, decide_eq_true hn, show IntKind.u64.wrap (-(IntKind.u64.wrap n)) = (n.natAbs : Int) by rw [wrap_u64, wrap_u64]; omega]
      simp only [falseworkref1_Of.j0]
      exact l1 true
    · rw [if_neg hn, decide_eq_false hn, show IntKind.u64.wrap n = (n.natAbs : Int) by rw [wrap_u64]; omega]
      simp only [falseworkref1_Of.j0]
      exact l1 false
end Go.Proofs.Ytijdengicjjebaa.PA
