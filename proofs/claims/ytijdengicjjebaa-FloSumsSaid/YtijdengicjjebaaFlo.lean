/- Floats as words of 64 bits: what the machine's comparisons say of them; the one form, the place, the way back, as plain numbers. -/
import Derived.Test.YtijdengicjjebaaBits
import Derived.Laws.FloatArith
namespace Go.Proofs.Ytijdengicjjebaa.Plain

theorem sw : Ieee.double.signWeight = 9223372036854775808 := by decide
theorem inff : Ieee.double.infRung = 9218868437227405312 := by decide
theorem binn : Ieee.double.binade = 4503599627370496 := by decide
theorem leastp : Ieee.double.leastPlace = -1074 := by decide
/-- A word's sign. -/
def sg (x : Nat) : Bool := x / 9223372036854775808 % 2 == 1
theorem read_small (x : Nat) (h : x % 9223372036854775808 < 4503599627370496) : Ieee.double.read x = .number (sg x) (x % 9223372036854775808) (-1074) := by
  unfold Ieee.Format.read sg
  simp only [sw, inff, binn, leastp]
  rw [if_pos h]
theorem read_normal (x : Nat) (h : 4503599627370496 ≤ x % 9223372036854775808) (h2 : x % 9223372036854775808 < 9218868437227405312) :
    Ieee.double.read x = .number (sg x) (4503599627370496 + x % 9223372036854775808 % 4503599627370496) (-1074 + (x % 9223372036854775808 / 4503599627370496 - 1 : Nat)) := by
  unfold Ieee.Format.read sg
  simp only [sw, inff, binn, leastp]
  rw [if_neg (by omega), if_pos h2]
theorem read_inf (x : Nat) (h : x % 9223372036854775808 = 9218868437227405312) : Ieee.double.read x = .infinity (sg x) := by
  unfold Ieee.Format.read sg
  simp only [sw, inff, binn, leastp]
  rw [if_neg (by omega), if_neg (by omega), if_pos h]
theorem read_nan (x : Nat) (h : 9218868437227405312 < x % 9223372036854775808) : Ieee.double.read x = .nan (sg x) (x % 9223372036854775808 - 9218868437227405312) := by
  unfold Ieee.Format.read sg
  simp only [sw, inff, binn, leastp]
  rw [if_neg (by omega), if_neg (by omega), if_neg (by omega)]
theorem read_zero : Ieee.double.read 0 = .number false 0 (-1074) := read_small 0 (by decide)
theorem cmp_self (a : Int) : compare a a = .eq := by simp [compare, compareOfLessAndEq]
theorem ncmp_self (a : Nat) : compare a a = .eq := by simp [compare, compareOfLessAndEq]
theorem order_self (d : Ieee.Datum) (h : d.isNaN = false) : d.order d = some .eq := by
  cases d with
  | nan s t => cases h
  | infinity s => show some (compare s.toNat s.toNat) = some .eq; rw [ncmp_self]
  | number s m e => simp only [Ieee.Datum.order]; rw [cmp_self]
theorem signed_zero (s : Bool) (m k : Nat) : Ieee.signed s m k = 0 ↔ m = 0 := by
  unfold Ieee.signed
  have h : m <<< k = 0 ↔ m = 0 := by
    rw [Nat.shiftLeft_eq]
    constructor
    · intro h
      rcases Nat.mul_eq_zero.1 h with h | h
      · exact h
      · have := Nat.two_pow_pos k; omega
    · intro h; rw [h, Nat.zero_mul]
  cases s
  · show ((m <<< k : Nat) : Int) = 0 ↔ m = 0
    omega
  · show -((m <<< k : Nat) : Int) = 0 ↔ m = 0
    omega
theorem cmp_eq_iff (a b : Int) : compare a b = .eq ↔ a = b := by
  constructor
  · intro h
    have h1 : compareOfLessAndEq a b = .eq := h
    unfold compareOfLessAndEq at h1
    split at h1
    · cases h1
    · split at h1
      · assumption
      · cases h1
  · intro h; rw [h, cmp_self]
/-- 'x != x': x is a NaN. -/
theorem nan_test (x : Nat) : (FloatKind.f64.format.order x x != some .eq) = decide (9218868437227405312 < x % 9223372036854775808) := by
  show ((Ieee.double.read x).order (Ieee.double.read x) != some .eq) = _
  by_cases h : 9218868437227405312 < x % 9223372036854775808
  · rw [decide_eq_true h, read_nan x h]; rfl
  · rw [decide_eq_false h, order_self]; rfl
    rcases Nat.lt_or_ge (x % 9223372036854775808) 4503599627370496 with h1 | h1
    · rw [read_small x h1]; rfl
    · rcases Nat.lt_or_ge (x % 9223372036854775808) 9218868437227405312 with h2 | h2
      · rw [read_normal x h1 h2]; rfl
      · rw [read_inf x (by omega)]; rfl
/-- 'x == 0' of what is no NaN. -/
theorem zero_test (x : Nat) (h : ¬ 9218868437227405312 < x % 9223372036854775808) : (FloatKind.f64.format.order x 0 == some .eq) = decide (x % 9223372036854775808 = 0) := by
  show ((Ieee.double.read x).order (Ieee.double.read 0) == some .eq) = _
  rw [read_zero]
  have key : ∀ (s : Bool) (m : Nat) (e : Int), ((Ieee.Datum.number s m e).order (.number false 0 (-1074)) == some .eq) = decide (m = 0) := by
    intro s m e
    simp only [Ieee.Datum.order]
    have hz : ∀ k, Ieee.signed false 0 k = 0 := fun k => (signed_zero false 0 k).2 rfl
    rw [hz]
    by_cases hm : m = 0
    · rw [decide_eq_true hm, (signed_zero s m _).2 hm, cmp_self]; rfl
    · rw [decide_eq_false hm]
      have : ¬ compare (Ieee.signed s m (e - min e (-1074)).toNat) 0 = .eq := fun hc => hm ((signed_zero s m _).1 ((cmp_eq_iff _ _).1 hc))
      rw [beq_eq_false_iff_ne]
      exact fun hh => this (Option.some.inj hh)
  rcases Nat.lt_or_ge (x % 9223372036854775808) 4503599627370496 with h1 | h1
  · rw [read_small x h1, key]
  · rcases Nat.lt_or_ge (x % 9223372036854775808) 9218868437227405312 with h2 | h2
    · rw [read_normal x h1 h2, key]
      rw [decide_eq_false (by omega), decide_eq_false (by omega)]
    · rw [read_inf x (by omega), decide_eq_false (by omega)]
      cases sg x <;> rfl

/-- The one form of a float. -/
def canon (x : Nat) : Nat := if 9218868437227405312 < x % 9223372036854775808 then 9221120237041090560 else if x = 9223372036854775808 then 0 else x
/-- Its place among floats. -/
def ordr (x : Nat) : Nat := if canon x < 9223372036854775808 then canon x + 9223372036854775808 else 18446744073709551615 - canon x
/-- The float of a place. -/
def unplace (o : Nat) : Nat := if o < 9223372036854775808 then 18446744073709551615 - o else o - 9223372036854775808
def back (o : Nat) : Nat × Bool := if canon (unplace o) = unplace o then (unplace o, true) else (0, false)
theorem canon_lt {x : Nat} (h : x < 18446744073709551616) : canon x < 18446744073709551616 := by
  unfold canon
  split
  · decide
  · split <;> omega
theorem canon_canon (x : Nat) : canon (canon x) = canon x := by
  unfold canon
  by_cases h1 : 9218868437227405312 < x % 9223372036854775808
  · rw [if_pos h1]; rfl
  · rw [if_neg h1]
    by_cases h2 : x = 9223372036854775808
    · rw [if_pos h2]; rfl
    · rw [if_neg h2, if_neg h1, if_neg h2]
theorem ordr_lt (x : Nat) : ordr x < 18446744073709551616 := by unfold ordr; split <;> omega
theorem unplace_lt {x : Nat} (h : x < 18446744073709551616) : unplace x < 18446744073709551616 := by unfold unplace; split <;> omega
theorem unplace_ordr {x : Nat} (h : x < 18446744073709551616) : unplace (ordr x) = canon x := by
  have := canon_lt h
  unfold unplace ordr
  split <;> split <;> omega
theorem back_ordr {x : Nat} (h : x < 18446744073709551616) : back (ordr x) = (canon x, true) := by
  unfold back
  rw [unplace_ordr h, canon_canon, if_pos rfl]
theorem ordr_unplace {o : Nat} (h : o < 18446744073709551616) (hc : canon (unplace o) = unplace o) : ordr (unplace o) = o := by
  unfold ordr
  rw [hc]
  unfold unplace
  split <;> split <;> omega
theorem ordr_inj {a b : Nat} (ha : a < 18446744073709551616) (hb : b < 18446744073709551616) : ordr a = ordr b ↔ canon a = canon b := by
  constructor
  · intro h; rw [← unplace_ordr ha, h, unplace_ordr hb]
  · intro h; unfold ordr; rw [h]

section
variable {x : Nat} (h : x < 18446744073709551616)
include h
theorem and_top : Go.bits .and .u64 (x : Int) 9223372036854775808 = if x < 9223372036854775808 then 0 else 9223372036854775808 := by
  have h1 := and_u64 (b := 9223372036854775808) h (by decide)
  have h5 : Go.bits .and .u64 (x : Int) 9223372036854775808 = ((x &&& 9223372036854775808 : Nat) : Int) := h1
  rw [h5]
  have h2 : ∀ i, Nat.testBit 9223372036854775808 i = decide (63 = i) := fun i => Nat.testBit_two_pow (n := 63) (m := i)
  by_cases hx : x < 9223372036854775808
  · rw [if_pos hx]
    have h3 : x &&& 9223372036854775808 = 0 := by
      apply Nat.eq_of_testBit_eq
      intro i
      rw [Nat.testBit_and, h2, Nat.zero_testBit]
      by_cases hi : 63 = i
      · subst hi
        have : x.testBit 63 = false := Nat.testBit_lt_two_pow hx
        simp [this]
      · simp [hi]
    rw [h3]; rfl
  · rw [if_neg hx]
    have h4 : x.testBit 63 = true := by
      rw [Nat.testBit_eq_decide_div_mod_eq]
      have : (2 : Nat) ^ 63 = 9223372036854775808 := by decide
      rw [this]
      exact decide_eq_true (by omega)
    have h3 : x &&& 9223372036854775808 = 9223372036854775808 := by
      apply Nat.eq_of_testBit_eq
      intro i
      rw [Nat.testBit_and, h2]
      by_cases hi : 63 = i
      · subst hi; simp [h4]
      · simp [hi]
    rw [h3]; rfl
theorem or_top : Go.bits .or .u64 (x : Int) 9223372036854775808 = if x < 9223372036854775808 then (x : Int) + 9223372036854775808 else (x : Int) := by
  have h5 : Go.bits .or .u64 (x : Int) 9223372036854775808 = ((x ||| 9223372036854775808 : Nat) : Int) := or_u64 (b := 9223372036854775808) h (by decide)
  rw [h5]
  by_cases hx : x < 9223372036854775808
  · rw [if_pos hx]
    have h6 := Nat.two_pow_add_eq_or_of_lt (i := 63) hx 1
    have h7 : 9223372036854775808 * 1 + x = 9223372036854775808 * 1 ||| x := h6
    rw [Nat.or_comm]
    have h8 : 9223372036854775808 ||| x = 9223372036854775808 + x := by rw [Nat.mul_one] at h7; exact h7.symm
    rw [h8]; omega
  · rw [if_neg hx]
    have hx' : x - 9223372036854775808 < 9223372036854775808 := by omega
    have h6 := Nat.two_pow_add_eq_or_of_lt (i := 63) hx' 1
    have h7 : 9223372036854775808 * 1 + (x - 9223372036854775808) = 9223372036854775808 * 1 ||| (x - 9223372036854775808) := h6
    rw [Nat.mul_one] at h7
    have h8 : x = 9223372036854775808 ||| (x - 9223372036854775808) := by rw [← h7]; omega
    have h9 : x ||| 9223372036854775808 = x := by
      rw [Nat.or_comm]
      conv => lhs; rw [h8]
      rw [← Nat.or_assoc, Nat.or_self]; exact h8.symm
    rw [h9]
theorem xor_top : Go.bits .xor .u64 (x : Int) 9223372036854775808 = if x < 9223372036854775808 then (x : Int) + 9223372036854775808 else (x : Int) - 9223372036854775808 := by
  have h5 : Go.bits .xor .u64 (x : Int) 9223372036854775808 = ((x ^^^ 9223372036854775808 : Nat) : Int) := xor_u64 (b := 9223372036854775808) h (by decide)
  rw [h5]
  have key : ∀ y, y < 9223372036854775808 → y ^^^ 9223372036854775808 = 9223372036854775808 + y := by
    intro y hy
    have h7 : 9223372036854775808 * 1 + y = 9223372036854775808 * 1 ||| y := Nat.two_pow_add_eq_or_of_lt (i := 63) hy 1
    rw [Nat.mul_one] at h7
    rw [h7, Nat.xor_comm]
    apply Nat.eq_of_testBit_eq
    intro i
    rw [Nat.testBit_xor, Nat.testBit_or]
    have h2 : Nat.testBit 9223372036854775808 i = decide (63 = i) := Nat.testBit_two_pow (n := 63) (m := i)
    rw [h2]
    by_cases hi : 63 = i
    · subst hi
      have : y.testBit 63 = false := Nat.testBit_lt_two_pow hy
      simp [this]
    · simp [hi]
  by_cases hx : x < 9223372036854775808
  · rw [if_pos hx, key x hx]; omega
  · rw [if_neg hx]
    have h1 := key (x - 9223372036854775808) (by omega)
    have h2 : x = (x - 9223372036854775808) ^^^ 9223372036854775808 := by rw [h1]; omega
    have h3 : x ^^^ 9223372036854775808 = x - 9223372036854775808 := by
      conv => lhs; rw [h2]
      rw [Nat.xor_assoc, Nat.xor_self, Nat.xor_zero]
    rw [h3]; omega
theorem xor_all : Go.bits .xor .u64 18446744073709551615 (x : Int) = 18446744073709551615 - (x : Int) := by
  have h5 : Go.bits .xor .u64 18446744073709551615 (x : Int) = ((18446744073709551615 ^^^ x : Nat) : Int) := xor_u64 (a := 18446744073709551615) (by decide) h
  rw [h5]
  have h6 : 18446744073709551615 ^^^ x = 18446744073709551615 - x := by
    have h1 : (BitVec.allOnes 64 ^^^ BitVec.ofNat 64 x).toNat = (~~~ BitVec.ofNat 64 x).toNat := by rw [BitVec.allOnes_xor]
    rw [BitVec.toNat_xor, BitVec.toNat_allOnes, BitVec.toNat_not, BitVec.toNat_ofNat, Nat.mod_eq_of_lt h] at h1
    exact h1
  rw [h6]; omega
theorem andNot_top : Go.bits .andNot .u64 (x : Int) 9223372036854775808 = ((x % 9223372036854775808 : Nat) : Int) := by
  have h5 : Go.bits .andNot .u64 (x : Int) 9223372036854775808 = ((x &&& 9223372036854775807 : Nat) : Int) := andNot_u64 (b := 9223372036854775808) h (by decide)
  have h6 : x &&& 9223372036854775807 = x % 9223372036854775808 := Nat.and_two_pow_sub_one_eq_mod x 63
  rw [h5, h6]
end
end Go.Proofs.Ytijdengicjjebaa.Plain
