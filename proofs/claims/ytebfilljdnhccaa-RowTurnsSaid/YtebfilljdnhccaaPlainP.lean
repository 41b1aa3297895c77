/- What Go's & | ^ do to whole numbers without a sign, as Lean's own operations on Nat. -/
import Derived.Laws.BitsLemmas
import Derived.Laws.FloatArith
import Derived.Laws.Strings
namespace Go.Proofs.Ytebfilljdnhccaa.Plain

theorem wrap_u64 (n : Int) : IntKind.u64.wrap n = n % 18446744073709551616 := by simp [IntKind.wrap, IntKind.bits, IntKind.signed]
theorem bits_gen (k : IntKind) (hk : ∀ n : Int, 0 ≤ n → n < 2 ^ k.bits → k.wrap n = n) (a b : Nat) (ha : a < 2 ^ k.bits) (hb : b < 2 ^ k.bits) :
    Go.bits .xor k a b = ((a ^^^ b : Nat) : Int) ∧ Go.bits .and k a b = ((a &&& b : Nat) : Int) ∧ Go.bits .or k a b = ((a ||| b : Nat) : Int) ∧
      Go.bits .andNot k a b = ((a &&& (2 ^ k.bits - 1 - b) : Nat) : Int) := by
  have ha' : a % 2 ^ k.bits = a := Nat.mod_eq_of_lt ha
  have hb' : b % 2 ^ k.bits = b := Nat.mod_eq_of_lt hb
  have cast : ∀ n : Nat, n < 2 ^ k.bits → ((n : Nat) : Int) < 2 ^ k.bits := fun n h => by exact_mod_cast h
  refine ⟨?_, ?_, ?_, ?_⟩
  · simp only [Go.bits, BitVec.ofInt_natCast, BitVec.toNat_xor, BitVec.toNat_ofNat, ha', hb']
    exact hk _ (Int.natCast_nonneg _) (cast _ (Nat.xor_lt_two_pow ha hb))
  · simp only [Go.bits, BitVec.ofInt_natCast, BitVec.toNat_and, BitVec.toNat_ofNat, ha', hb']
    exact hk _ (Int.natCast_nonneg _) (cast _ (Nat.and_lt_two_pow _ hb))
  · simp only [Go.bits, BitVec.ofInt_natCast, BitVec.toNat_or, BitVec.toNat_ofNat, ha', hb']
    exact hk _ (Int.natCast_nonneg _) (cast _ (Nat.or_lt_two_pow ha hb))
  · simp only [Go.bits, BitVec.ofInt_natCast, BitVec.toNat_and, BitVec.toNat_not, BitVec.toNat_ofNat, ha', hb']
    have hp := Nat.two_pow_pos k.bits
    exact hk _ (Int.natCast_nonneg _) (cast _ (Nat.and_lt_two_pow _ (by omega)))
theorem k_u32 (n : Int) (h0 : 0 ≤ n) (h : n < 2 ^ IntKind.u32.bits) : IntKind.u32.wrap n = n := by
  have h : n < 4294967296 := h
  rw [IntKind.wrap_u32]; omega
theorem k_u64 (n : Int) (h0 : 0 ≤ n) (h : n < 2 ^ IntKind.u64.bits) : IntKind.u64.wrap n = n := by
  have h : n < 18446744073709551616 := h
  rw [wrap_u64]; omega
theorem k_u8 (n : Int) (h0 : 0 ≤ n) (h : n < 2 ^ IntKind.u8.bits) : IntKind.u8.wrap n = n := by
  have h : n < 256 := h
  rw [IntKind.wrap_u8]; omega
section
variable {a b : Nat}
theorem xor_u32 (ha : a < 4294967296) (hb : b < 4294967296) : Go.bits .xor .u32 (a : Int) (b : Int) = ((a ^^^ b : Nat) : Int) := (bits_gen .u32 k_u32 a b ha hb).1
theorem and_u32 (ha : a < 4294967296) (hb : b < 4294967296) : Go.bits .and .u32 (a : Int) (b : Int) = ((a &&& b : Nat) : Int) := (bits_gen .u32 k_u32 a b ha hb).2.1
theorem xor_u64 (ha : a < 18446744073709551616) (hb : b < 18446744073709551616) : Go.bits .xor .u64 (a : Int) (b : Int) = ((a ^^^ b : Nat) : Int) := (bits_gen .u64 k_u64 a b ha hb).1
theorem and_u64 (ha : a < 18446744073709551616) (hb : b < 18446744073709551616) : Go.bits .and .u64 (a : Int) (b : Int) = ((a &&& b : Nat) : Int) := (bits_gen .u64 k_u64 a b ha hb).2.1
theorem or_u64 (ha : a < 18446744073709551616) (hb : b < 18446744073709551616) : Go.bits .or .u64 (a : Int) (b : Int) = ((a ||| b : Nat) : Int) := (bits_gen .u64 k_u64 a b ha hb).2.2.1
theorem andNot_u64 (ha : a < 18446744073709551616) (hb : b < 18446744073709551616) : Go.bits .andNot .u64 (a : Int) (b : Int) = ((a &&& (18446744073709551615 - b) : Nat) : Int) := (bits_gen .u64 k_u64 a b ha hb).2.2.2
theorem xor_u8 (ha : a < 256) (hb : b < 256) : Go.bits .xor .u8 (a : Int) (b : Int) = ((a ^^^ b : Nat) : Int) := (bits_gen .u8 k_u8 a b ha hb).1
end
end Go.Proofs.Ytebfilljdnhccaa.Plain
/- Floats as words of 64 bits: what the machine's comparisons say of them; the one form, the place, the way back, as plain numbers. -/
namespace Go.Proofs.Ytebfilljdnhccaa.Plain

theorem sw : Ieee.double.signWeight = 9223372036854775808 := by decide
theorem inff : Ieee.double.infRung = 9218868437227405312 := by decide
theorem binn : Ieee.double.binade = 4503599627370496 := by decide
theorem leastp : Ieee.double.leastPlace = -1074 := by decide
/-- A word's sign. -/
def sg (x : Nat) : Bool := x / 9223372036854775808 % 2 == 1
theorem read_small (x : Nat) (h : x % 9223372036854775808 < 4503599627370496) : Ieee.double.read x = .number (sg x) (x % 9223372036854775808) (-1074) := by
  unfold Ieee.Format.read sg
  simp only [sw, inff, binn, leastp]
  rw [if_pos h]
theorem read_normal (x : Nat) (h : 4503599627370496 ≤ x % 9223372036854775808) (h2 : x % 9223372036854775808 < 9218868437227405312) :
    Ieee.double.read x = .number (sg x) (4503599627370496 + x % 9223372036854775808 % 4503599627370496) (-1074 + (x % 9223372036854775808 / 4503599627370496 - 1 : Nat)) := by
  unfold Ieee.Format.read sg
  simp only [sw, inff, binn, leastp]
  rw [if_neg (by omega), if_pos h2]
theorem read_inf (x : Nat) (h : x % 9223372036854775808 = 9218868437227405312) : Ieee.double.read x = .infinity (sg x) := by
  unfold Ieee.Format.read sg
  simp only [sw, inff, binn, leastp]
  rw [if_neg (by omega), if_neg (by omega), if_pos h]
theorem read_nan (x : Nat) (h : 9218868437227405312 < x % 9223372036854775808) : Ieee.double.read x = .nan (sg x) (x % 9223372036854775808 - 9218868437227405312) := by
  unfold Ieee.Format.read sg
  simp only [sw, inff, binn, leastp]
  rw [if_neg (by omega), if_neg (by omega), if_neg (by omega)]
theorem read_zero : Ieee.double.read 0 = .number false 0 (-1074) := read_small 0 (by decide)
theorem cmp_self (a : Int) : compare a a = .eq := by simp [compare, compareOfLessAndEq]
theorem ncmp_self (a : Nat) : compare a a = .eq := by simp [compare, compareOfLessAndEq]
theorem order_self (d : Ieee.Datum) (h : d.isNaN = false) : d.order d = some .eq := by
  cases d with
  | nan s t => cases h
  | infinity s => show some (compare s.toNat s.toNat) = some .eq; rw [ncmp_self]
  | number s m e => simp only [Ieee.Datum.order]; rw [cmp_self]
theorem signed_zero (s : Bool) (m k : Nat) : Ieee.signed s m k = 0 ↔ m = 0 := by
  unfold Ieee.signed
  have h : m <<< k = 0 ↔ m = 0 := by
    rw [Nat.shiftLeft_eq]
    constructor
    · intro h
      rcases Nat.mul_eq_zero.1 h with h | h
      · exact h
      · have := Nat.two_pow_pos k; omega
    · intro h; rw [h, Nat.zero_mul]
  cases s
  · show ((m <<< k : Nat) : Int) = 0 ↔ m = 0
    omega
  · show -((m <<< k : Nat) : Int) = 0 ↔ m = 0
    omega
theorem cmp_eq_iff (a b : Int) : compare a b = .eq ↔ a = b := by
  constructor
  · intro h
    have h1 : compareOfLessAndEq a b = .eq := h
    unfold compareOfLessAndEq at h1
    split at h1
    · cases h1
    · split at h1
      · assumption
      · cases h1
  · intro h; rw [h, cmp_self]
/-- 'x != x': x is a NaN. -/
theorem nan_test (x : Nat) : (FloatKind.f64.format.order x x != some .eq) = decide (9218868437227405312 < x % 9223372036854775808) := by
  show ((Ieee.double.read x).order (Ieee.double.read x) != some .eq) = _
  by_cases h : 9218868437227405312 < x % 9223372036854775808
  · rw [decide_eq_true h, read_nan x h]; rfl
  · rw [decide_eq_false h, order_self]; rfl
    rcases Nat.lt_or_ge (x % 9223372036854775808) 4503599627370496 with h1 | h1
    · rw [read_small x h1]; rfl
    · rcases Nat.lt_or_ge (x % 9223372036854775808) 9218868437227405312 with h2 | h2
      · rw [read_normal x h1 h2]; rfl
      · rw [read_inf x (by omega)]; rfl
/-- 'x == 0' of what is no NaN. -/
theorem zero_test (x : Nat) (h : ¬ 9218868437227405312 < x % 9223372036854775808) : (FloatKind.f64.format.order x 0 == some .eq) = decide (x % 9223372036854775808 = 0) := by
  show ((Ieee.double.read x).order (Ieee.double.read 0) == some .eq) = _
  rw [read_zero]
  have key : ∀ (s : Bool) (m : Nat) (e : Int), ((Ieee.Datum.number s m e).order (.number false 0 (-1074)) == some .eq) = decide (m = 0) := by
    intro s m e
    simp only [Ieee.Datum.order]
    have hz : ∀ k, Ieee.signed false 0 k = 0 := fun k => (signed_zero false 0 k).2 rfl
    rw [hz]
    by_cases hm : m = 0
    · rw [decide_eq_true hm, (signed_zero s m _).2 hm, cmp_self]; rfl
    · rw [decide_eq_false hm]
      have : ¬ compare (Ieee.signed s m (e - min e (-1074)).toNat) 0 = .eq := fun hc => hm ((signed_zero s m _).1 ((cmp_eq_iff _ _).1 hc))
      rw [beq_eq_false_iff_ne]
      exact fun hh => this (Option.some.inj hh)
  rcases Nat.lt_or_ge (x % 9223372036854775808) 4503599627370496 with h1 | h1
  · rw [read_small x h1, key]
  · rcases Nat.lt_or_ge (x % 9223372036854775808) 9218868437227405312 with h2 | h2
    · rw [read_normal x h1 h2, key]
      rw [decide_eq_false (by omega), decide_eq_false (by omega)]
    · rw [read_inf x (by omega), decide_eq_false (by omega)]
      cases sg x <;> rfl

/-- The one form of a float. -/
def canon (x : Nat) : Nat := if 9218868437227405312 < x % 9223372036854775808 then 9221120237041090560 else if x = 9223372036854775808 then 0 else x
/-- Its place among floats. -/
def ordr (x : Nat) : Nat := if canon x < 9223372036854775808 then canon x + 9223372036854775808 else 18446744073709551615 - canon x
/-- The float of a place. -/
def unplace (o : Nat) : Nat := if o < 9223372036854775808 then 18446744073709551615 - o else o - 9223372036854775808
def back (o : Nat) : Nat × Bool := if canon (unplace o) = unplace o then (unplace o, true) else (0, false)
theorem canon_lt {x : Nat} (h : x < 18446744073709551616) : canon x < 18446744073709551616 := by
  unfold canon
  split
  · decide
  · split <;> omega
theorem canon_canon (x : Nat) : canon (canon x) = canon x := by
  unfold canon
  by_cases h1 : 9218868437227405312 < x % 9223372036854775808
  · rw [if_pos h1]; rfl
  · rw [if_neg h1]
    by_cases h2 : x = 9223372036854775808
    · rw [if_pos h2]; rfl
    · rw [if_neg h2, if_neg h1, if_neg h2]
theorem ordr_lt (x : Nat) : ordr x < 18446744073709551616 := by unfold ordr; split <;> omega
theorem unplace_lt {x : Nat} (h : x < 18446744073709551616) : unplace x < 18446744073709551616 := by unfold unplace; split <;> omega
theorem unplace_ordr {x : Nat} (h : x < 18446744073709551616) : unplace (ordr x) = canon x := by
  have := canon_lt h
  unfold unplace ordr
  split <;> split <;> omega
theorem back_ordr {x : Nat} (h : x < 18446744073709551616) : back (ordr x) = (canon x, true) := by
  unfold back
  rw [unplace_ordr h, canon_canon, if_pos rfl]
theorem ordr_unplace {o : Nat} (h : o < 18446744073709551616) (hc : canon (unplace o) = unplace o) : ordr (unplace o) = o := by
  unfold ordr
  rw [hc]
  unfold unplace
  split <;> split <;> omega
theorem ordr_inj {a b : Nat} (ha : a < 18446744073709551616) (hb : b < 18446744073709551616) : ordr a = ordr b ↔ canon a = canon b := by
  constructor
  · intro h; rw [← unplace_ordr ha, h, unplace_ordr hb]
  · intro h; unfold ordr; rw [h]

section
variable {x : Nat} (h : x < 18446744073709551616)
include h
theorem and_top : Go.bits .and .u64 (x : Int) 9223372036854775808 = if x < 9223372036854775808 then 0 else 9223372036854775808 := by
  have h1 := and_u64 (b := 9223372036854775808) h (by decide)
  have h5 : Go.bits .and .u64 (x : Int) 9223372036854775808 = ((x &&& 9223372036854775808 : Nat) : Int) := h1
  rw [h5]
  have h2 : ∀ i, Nat.testBit 9223372036854775808 i = decide (63 = i) := fun i => Nat.testBit_two_pow (n := 63) (m := i)
  by_cases hx : x < 9223372036854775808
  · rw [if_pos hx]
    have h3 : x &&& 9223372036854775808 = 0 := by
      apply Nat.eq_of_testBit_eq
      intro i
      rw [Nat.testBit_and, h2, Nat.zero_testBit]
      by_cases hi : 63 = i
      · subst hi
        have : x.testBit 63 = false := Nat.testBit_lt_two_pow hx
        simp [this]
      · simp [hi]
    rw [h3]; rfl
  · rw [if_neg hx]
    have h4 : x.testBit 63 = true := by
      rw [Nat.testBit_eq_decide_div_mod_eq]
      have : (2 : Nat) ^ 63 = 9223372036854775808 := by decide
      rw [this]
      exact decide_eq_true (by omega)
    have h3 : x &&& 9223372036854775808 = 9223372036854775808 := by
      apply Nat.eq_of_testBit_eq
      intro i
      rw [Nat.testBit_and, h2]
      by_cases hi : 63 = i
      · subst hi; simp [h4]
      · simp [hi]
    rw [h3]; rfl
theorem or_top : Go.bits .or .u64 (x : Int) 9223372036854775808 = if x < 9223372036854775808 then (x : Int) + 9223372036854775808 else (x : Int) := by
  have h5 : Go.bits .or .u64 (x : Int) 9223372036854775808 = ((x ||| 9223372036854775808 : Nat) : Int) := or_u64 (b := 9223372036854775808) h (by decide)
  rw [h5]
  by_cases hx : x < 9223372036854775808
  · rw [if_pos hx]
    have h6 := Nat.two_pow_add_eq_or_of_lt (i := 63) hx 1
    have h7 : 9223372036854775808 * 1 + x = 9223372036854775808 * 1 ||| x := h6
    rw [Nat.or_comm]
    have h8 : 9223372036854775808 ||| x = 9223372036854775808 + x := by rw [Nat.mul_one] at h7; exact h7.symm
    rw [h8]; omega
  · rw [if_neg hx]
    have hx' : x - 9223372036854775808 < 9223372036854775808 := by omega
    have h6 := Nat.two_pow_add_eq_or_of_lt (i := 63) hx' 1
    have h7 : 9223372036854775808 * 1 + (x - 9223372036854775808) = 9223372036854775808 * 1 ||| (x - 9223372036854775808) := h6
    rw [Nat.mul_one] at h7
    have h8 : x = 9223372036854775808 ||| (x - 9223372036854775808) := by rw [← h7]; omega
    have h9 : x ||| 9223372036854775808 = x := by
      rw [Nat.or_comm]
      conv => lhs; rw [h8]
      rw [← Nat.or_assoc, Nat.or_self]; exact h8.symm
    rw [h9]
theorem xor_top : Go.bits .xor .u64 (x : Int) 9223372036854775808 = if x < 9223372036854775808 then (x : Int) + 9223372036854775808 else (x : Int) - 9223372036854775808 := by
  have h5 : Go.bits .xor .u64 (x : Int) 9223372036854775808 = ((x ^^^ 9223372036854775808 : Nat) : Int) := xor_u64 (b := 9223372036854775808) h (by decide)
  rw [h5]
  have key : ∀ y, y < 9223372036854775808 → y ^^^ 9223372036854775808 = 9223372036854775808 + y := by
    intro y hy
    have h7 : 9223372036854775808 * 1 + y = 9223372036854775808 * 1 ||| y := Nat.two_pow_add_eq_or_of_lt (i := 63) hy 1
    rw [Nat.mul_one] at h7
    rw [h7, Nat.xor_comm]
    apply Nat.eq_of_testBit_eq
    intro i
    rw [Nat.testBit_xor, Nat.testBit_or]
    have h2 : Nat.testBit 9223372036854775808 i = decide (63 = i) := Nat.testBit_two_pow (n := 63) (m := i)
    rw [h2]
    by_cases hi : 63 = i
    · subst hi
      have : y.testBit 63 = false := Nat.testBit_lt_two_pow hy
      simp [this]
    · simp [hi]
  by_cases hx : x < 9223372036854775808
  · rw [if_pos hx, key x hx]; omega
  · rw [if_neg hx]
    have h1 := key (x - 9223372036854775808) (by omega)
    have h2 : x = (x - 9223372036854775808) ^^^ 9223372036854775808 := by rw [h1]; omega
    have h3 : x ^^^ 9223372036854775808 = x - 9223372036854775808 := by
      conv => lhs; rw [h2]
      rw [Nat.xor_assoc, Nat.xor_self, Nat.xor_zero]
    rw [h3]; omega
theorem xor_all : Go.bits .xor .u64 18446744073709551615 (x : Int) = 18446744073709551615 - (x : Int) := by
  have h5 : Go.bits .xor .u64 18446744073709551615 (x : Int) = ((18446744073709551615 ^^^ x : Nat) : Int) := xor_u64 (a := 18446744073709551615) (by decide) h
  rw [h5]
  have h6 : 18446744073709551615 ^^^ x = 18446744073709551615 - x := by
    have h1 : (BitVec.allOnes 64 ^^^ BitVec.ofNat 64 x).toNat = (~~~ BitVec.ofNat 64 x).toNat := by rw [BitVec.allOnes_xor]
    rw [BitVec.toNat_xor, BitVec.toNat_allOnes, BitVec.toNat_not, BitVec.toNat_ofNat, Nat.mod_eq_of_lt h] at h1
    exact h1
  rw [h6]; omega
theorem andNot_top : Go.bits .andNot .u64 (x : Int) 9223372036854775808 = ((x % 9223372036854775808 : Nat) : Int) := by
  have h5 : Go.bits .andNot .u64 (x : Int) 9223372036854775808 = ((x &&& 9223372036854775807 : Nat) : Int) := andNot_u64 (b := 9223372036854775808) h (by decide)
  have h6 : x &&& 9223372036854775807 = x % 9223372036854775808 := Nat.and_two_pow_sub_one_eq_mod x 63
  rw [h5, h6]
end
end Go.Proofs.Ytebfilljdnhccaa.Plain
/- Values as bytes, in plain lists: which values may be, and the bytes of one that may be. -/
namespace Go.Proofs.Ytebfilljdnhccaa.Plain

/-- Which values may be. -/
def mayB (k n : Int) (f : Nat) (s : List UInt8) : Bool :=
  if k = 0 then decide (n = 0) && (decide (f = 0) && s.isEmpty)
  else if k = 1 then (decide (n = 0) || decide (n = 1)) && (decide (f = 0) && s.isEmpty)
  else if k = 2 then decide (f = 0) && s.isEmpty
  else if k = 3 then decide (n = 0) && (decide (canon f = f) && s.isEmpty)
  else if k = 4 then decide (n = 0) && (decide (f = 0) && decide (s.length ≤ 40))
  else if k = 5 then decide (n = 0) && (decide (f = 0) && decide (s.length ≤ 40))
  else false
/-- A number in eight bytes, the highest first. -/
def be8 (u : Nat) : List UInt8 :=
  [UInt8.ofNat (u / 72057594037927936 % 256), UInt8.ofNat (u / 281474976710656 % 256), UInt8.ofNat (u / 1099511627776 % 256), UInt8.ofNat (u / 4294967296 % 256), UInt8.ofNat (u / 16777216 % 256), UInt8.ofNat (u / 65536 % 256), UInt8.ofNat (u / 256 % 256), UInt8.ofNat (u % 256)]
/-- A text's bytes: a byte 0 is followed by ff. -/
def esc : List UInt8 → List UInt8
  | [] => []
  | b :: r => if b = 0 then 0 :: 255 :: esc r else b :: esc r
/-- The place of a number among int64. -/
def biased (n : Int) : Nat := (n + 9223372036854775808).toNat
/-- The bytes of a value that may be. -/
def encV (k n : Int) (f : Nat) (s : List UInt8) : List UInt8 :=
  if k = 0 then [1]
  else if k = 1 then (if n = 0 then [2] else [3])
  else if k = 2 then 4 :: be8 (biased n)
  else if k = 3 then 5 :: be8 (ordr f)
  else if k = 4 then 6 :: (esc s ++ [0, 1])
  else 7 :: (esc s ++ [0, 1])
/-- The bytes of any value, or an error's number. -/
def putV (k n : Int) (f : Nat) (s : List UInt8) : List UInt8 × Int := if mayB k n f s = true then (encV k n f s, 0) else ([], 1)
theorem esc_append (a b : List UInt8) : esc (a ++ b) = esc a ++ esc b := by
  induction a with
  | nil => rfl
  | cons x a ih =>
    show esc (x :: (a ++ b)) = _
    simp only [esc]
    split <;> simp [ih]
theorem esc_length (a : List UInt8) : (esc a).length ≤ 2 * a.length := by
  induction a with
  | nil => exact Nat.le_refl _
  | cons x a ih => simp only [esc]; split <;> simp <;> omega
end Go.Proofs.Ytebfilljdnhccaa.Plain
/- The order of bytes: texts that end by themselves; values' bytes are in the order of values. -/
namespace Go.Proofs.Ytebfilljdnhccaa.Plain

/-- Below, byte by byte. -/
abbrev less (a b : List UInt8) : Bool := Op.bytesLess a b
theorem u8_irrefl (a : UInt8) : ¬ a < a := UInt8.lt_irrefl a
theorem u8_tri {a b : UInt8} (h : ¬ a < b) (h2 : ¬ a = b) : b < a := by
  rw [UInt8.lt_iff_toNat_lt] at *
  have : ¬ a.toNat = b.toNat := fun e => h2 (UInt8.toNat_inj.1 e)
  omega
theorem u8_asym {a b : UInt8} (h : a < b) : ¬ b < a := by rw [UInt8.lt_iff_toNat_lt] at *; omega
theorem less_nil (a : List UInt8) : less a [] = false := by cases a <;> rfl
theorem less_cons (a b : UInt8) (x y : List UInt8) : less (a :: x) (b :: y) = (decide (a < b) || (a == b && less x y)) := rfl
theorem less_same (a : UInt8) (x y : List UInt8) : less (a :: x) (a :: y) = less x y := by rw [less_cons]; simp
theorem less_unlike {a b : UInt8} (h : ¬ a = b) (x y : List UInt8) : less (a :: x) (b :: y) = decide (a < b) := by rw [less_cons]; simp [h]
theorem less_self (a : List UInt8) : less a a = false := by
  induction a with
  | nil => rfl
  | cons x a ih => rw [less_same, ih]
theorem less_app (p a b : List UInt8) : less (p ++ a) (p ++ b) = less a b := by
  induction p with
  | nil => rfl
  | cons x p ih => simp only [List.cons_append]; rw [less_same, ih]
theorem less_total : ∀ (a b : List UInt8), a ≠ b → less a b = !less b a
  | [], [], h => absurd rfl h
  | [], _ :: _, _ => rfl
  | _ :: _, [], _ => rfl
  | a :: x, b :: y, h => by
    by_cases hab : a = b
    · subst hab
      rw [less_same, less_same]
      exact less_total x y (fun e => h (by rw [e]))
    · rw [less_unlike hab, less_unlike (fun e => hab e.symm)]
      by_cases h1 : a < b
      · rw [decide_eq_true h1, decide_eq_false (u8_asym h1)]; rfl
      · rw [decide_eq_false h1, decide_eq_true (u8_tri h1 hab)]; rfl
theorem less_prefix (p r : List UInt8) (h : r ≠ []) : less p (p ++ r) = true := by
  have := less_app p [] r
  rw [List.append_nil] at this
  rw [this]
  cases r with
  | nil => exact absurd rfl h
  | cons _ _ => rfl
/-- Two texts that end by themselves: what stands behind them counts only where they are the same. -/
def SD (p q : List UInt8) : Prop := ∀ x y, less (p ++ x) (q ++ y) = if p = q then less x y else less p q
theorem SD.cons {p q : List UInt8} (h : SD p q) (c : UInt8) : SD (c :: p) (c :: q) := by
  intro x y
  simp only [List.cons_append]
  rw [less_same, h x y, less_same]
  by_cases e : p = q
  · rw [if_pos e, if_pos (by rw [e])]
  · rw [if_neg e, if_neg (by simpa using e)]
theorem SD.heads {c d : UInt8} (h : ¬ c = d) (p q : List UInt8) : SD (c :: p) (d :: q) := by
  intro x y
  simp only [List.cons_append]
  rw [less_unlike h, less_unlike h, if_neg (by simp [h])]
theorem SD.same_length : ∀ {p q : List UInt8}, p.length = q.length → SD p q
  | [], [], _ => fun x y => by simp
  | a :: p, b :: q, h => by
    by_cases e : a = b
    · subst e; exact (SD.same_length (by simpa using h)).cons a
    · exact SD.heads e p q
/-- .. and neither begins the other one, unless they are the same. -/
theorem SD.begins {p q : List UInt8} (h : SD p q) (x : List UInt8) (e : p ++ x = q) : p = q := by
  by_cases hp : p = q
  · exact hp
  · have h1 := h x []
    rw [e, List.append_nil, less_self, if_neg hp] at h1
    by_cases hx : x = []
    · subst hx; rw [List.append_nil] at e; exact e
    · rw [← e, less_prefix p x hx] at h1; cases h1
theorem esc_zero (r : List UInt8) : esc (0 :: r) = 0 :: 255 :: esc r := rfl
theorem esc_other {b : UInt8} (h : ¬ b = 0) (r : List UInt8) : esc (b :: r) = b :: esc r := by simp only [esc]; rw [if_neg h]
theorem zero_below {b : UInt8} (h : ¬ b = 0) : (0 : UInt8) < b := by
  rw [UInt8.lt_iff_toNat_lt]
  have : ¬ b.toNat = 0 := fun e => h (UInt8.toNat_inj.1 (by simpa using e))
  have h0 : (0 : UInt8).toNat = 0 := rfl
  omega
theorem esc_order : ∀ (s t x y : List UInt8), less (esc s ++ (0 :: 1 :: x)) (esc t ++ (0 :: 1 :: y)) = if s = t then less x y else less s t
  | [], [], x, y => by
    rw [if_pos rfl]
    show less (0 :: 1 :: x) (0 :: 1 :: y) = _
    rw [less_same, less_same]
  | [], b :: t, x, y => by
    have e : (if ([] : List UInt8) = b :: t then less x y else less [] (b :: t)) = true := by rw [if_neg (by simp)]; rfl
    rw [e]
    by_cases hb : b = 0
    · subst hb; rfl
    · rw [esc_other hb]
      show less (0 :: 1 :: x) (b :: (esc t ++ 0 :: 1 :: y)) = true
      rw [less_unlike (fun e => hb e.symm), decide_eq_true (zero_below hb)]
  | a :: s, [], x, y => by
    have e : (if a :: s = ([] : List UInt8) then less x y else less (a :: s) []) = false := by rw [if_neg (by simp)]; rfl
    rw [e]
    by_cases ha : a = 0
    · subst ha; rfl
    · rw [esc_other ha]
      show less (a :: (esc s ++ 0 :: 1 :: x)) (0 :: 1 :: y) = false
      rw [less_unlike ha, decide_eq_false (u8_asym (zero_below ha))]
  | a :: s, b :: t, x, y => by
    have ih := esc_order s t x y
    by_cases hab : a = b
    · subst hab
      have e : (if a :: s = a :: t then less x y else less (a :: s) (a :: t)) = if s = t then less x y else less s t := by
        rw [less_same]; by_cases h : s = t <;> simp [h]
      rw [e]
      by_cases ha : a = 0
      · subst ha
        rw [esc_zero, esc_zero]
        show less (0 :: 255 :: (esc s ++ 0 :: 1 :: x)) (0 :: 255 :: (esc t ++ 0 :: 1 :: y)) = _
        rw [less_same, less_same, ih]
      · rw [esc_other ha, esc_other ha]
        show less (a :: (esc s ++ 0 :: 1 :: x)) (a :: (esc t ++ 0 :: 1 :: y)) = _
        rw [less_same, ih]
    · have e : (if a :: s = b :: t then less x y else less (a :: s) (b :: t)) = decide (a < b) := by rw [if_neg (by simp [hab]), less_unlike hab]
      rw [e]
      by_cases ha : a = 0
      · subst ha
        have hb : ¬ b = 0 := fun h => hab h.symm
        rw [esc_zero, esc_other hb]
        show less (0 :: 255 :: (esc s ++ 0 :: 1 :: x)) (b :: (esc t ++ 0 :: 1 :: y)) = _
        rw [less_unlike hab]
      · rw [esc_other ha]
        by_cases hb : b = 0
        · subst hb
          rw [esc_zero]
          show less (a :: (esc s ++ 0 :: 1 :: x)) (0 :: 255 :: (esc t ++ 0 :: 1 :: y)) = _
          rw [less_unlike hab]
        · rw [esc_other hb]
          show less (a :: (esc s ++ 0 :: 1 :: x)) (b :: (esc t ++ 0 :: 1 :: y)) = _
          rw [less_unlike hab]
theorem esc_inj : ∀ {s t : List UInt8}, esc s ++ [0, 1] = esc t ++ [0, 1] → s = t := by
  intro s t h
  by_cases e : s = t
  · exact e
  · have h1 := esc_order s t [] []
    have h2 := esc_order t s [] []
    rw [if_neg e] at h1
    rw [if_neg (fun h => e h.symm)] at h2
    rw [h, less_self] at h1
    rw [h, less_self] at h2
    have h3 := less_total s t e
    rw [← h1, ← h2] at h3
    cases h3
theorem SD.esc (s t : List UInt8) : SD (esc s ++ [0, 1]) (esc t ++ [0, 1]) := by
  intro x y
  have h1 := esc_order s t x y
  have h2 := esc_order s t [] []
  simp only [List.append_assoc, List.cons_append, List.nil_append]
  rw [h1]
  by_cases e : s = t
  · rw [if_pos e, if_pos (by rw [e])]
  · rw [if_neg e, if_neg (fun h => e (esc_inj h)), h2, if_neg e]
/-- Digits by 256, the highest first. -/
def beN : Nat → Nat → List UInt8
  | 0, _ => []
  | n + 1, u => UInt8.ofNat (u / 256 ^ n % 256) :: beN n u
theorem be8_is (u : Nat) : be8 u = beN 8 u := by
  unfold be8
  simp only [beN]
  simp
theorem u8_ofNat_lt {a b : Nat} (ha : a < 256) (hb : b < 256) : UInt8.ofNat a < UInt8.ofNat b ↔ a < b := by
  rw [UInt8.lt_iff_toNat_lt, UInt8.toNat_ofNat', UInt8.toNat_ofNat']
  omega
theorem u8_ofNat_eq {a b : Nat} (ha : a < 256) (hb : b < 256) : UInt8.ofNat a = UInt8.ofNat b ↔ a = b := by
  rw [← UInt8.toNat_inj, UInt8.toNat_ofNat', UInt8.toNat_ofNat']
  omega
theorem beN_length (n u : Nat) : (beN n u).length = n := by
  induction n with
  | zero => rfl
  | succ n ih => simp only [beN, List.length_cons, ih]
theorem beN_order (n u v : Nat) : (less (beN n u) (beN n v) = true ↔ u % 256 ^ n < v % 256 ^ n) ∧ (beN n u = beN n v ↔ u % 256 ^ n = v % 256 ^ n) := by
  induction n with
  | zero => simp [beN, Nat.mod_one]; rfl
  | succ n ih =>
    obtain ⟨ih1, ih2⟩ := ih
    have hu := Nat.mod_pow_succ (x := u) (b := 256) (k := n)
    have hv := Nat.mod_pow_succ (x := v) (b := 256) (k := n)
    have du : u / 256 ^ n % 256 < 256 := Nat.mod_lt _ (by decide)
    have dv : v / 256 ^ n % 256 < 256 := Nat.mod_lt _ (by decide)
    have hp : 0 < 256 ^ n := Nat.pow_pos (by decide)
    have ru : u % 256 ^ n < 256 ^ n := Nat.mod_lt _ hp
    have rv : v % 256 ^ n < 256 ^ n := Nat.mod_lt _ hp
    simp only [beN]
    rw [hu, hv]
    generalize u / 256 ^ n % 256 = a at *
    generalize v / 256 ^ n % 256 = b at *
    generalize u % 256 ^ n = x at *
    generalize v % 256 ^ n = y at *
    generalize 256 ^ n = p at *
    rcases Nat.lt_trichotomy a b with h | h | h
    · have hne : ¬ UInt8.ofNat a = UInt8.ofNat b := fun e => by have := (u8_ofNat_eq du dv).1 e; omega
      have hm : p * (a + 1) ≤ p * b := Nat.mul_le_mul_left p h
      rw [Nat.mul_add, Nat.mul_one] at hm
      rw [less_unlike hne]
      constructor
      · simp only [decide_eq_true_eq]; rw [u8_ofNat_lt du dv]; omega
      · constructor
        · intro e; exact absurd (List.cons.inj e).1 hne
        · intro e; omega
    · subst h
      rw [less_same]
      constructor
      · rw [ih1]; omega
      · constructor
        · intro e; have := ih2.1 (List.cons.inj e).2; omega
        · intro e; rw [ih2.2 (by omega)]
    · have hne : ¬ UInt8.ofNat a = UInt8.ofNat b := fun e => by have := (u8_ofNat_eq du dv).1 e; omega
      have hm : p * (b + 1) ≤ p * a := Nat.mul_le_mul_left p h
      rw [Nat.mul_add, Nat.mul_one] at hm
      rw [less_unlike hne]
      constructor
      · simp only [decide_eq_true_eq]; rw [u8_ofNat_lt du dv]; omega
      · constructor
        · intro e; exact absurd (List.cons.inj e).1 hne
        · intro e; omega
theorem be8_order {u v : Nat} (hu : u < 18446744073709551616) (hv : v < 18446744073709551616) : less (be8 u) (be8 v) = decide (u < v) := by
  have h := (beN_order 8 u v).1
  rw [Nat.mod_eq_of_lt (show u < 256 ^ 8 from hu), Nat.mod_eq_of_lt (show v < 256 ^ 8 from hv)] at h
  rw [be8_is, be8_is]
  by_cases e : u < v
  · rw [decide_eq_true e]; exact h.2 e
  · rw [decide_eq_false e]
    exact Bool.not_eq_true _ ▸ (fun hh => e (h.1 hh))
theorem be8_inj {u v : Nat} (hu : u < 18446744073709551616) (hv : v < 18446744073709551616) : be8 u = be8 v ↔ u = v := by
  have h := (beN_order 8 u v).2
  rw [Nat.mod_eq_of_lt (show u < 256 ^ 8 from hu), Nat.mod_eq_of_lt (show v < 256 ^ 8 from hv)] at h
  rw [be8_is, be8_is]; exact h
theorem be8_length (u : Nat) : (be8 u).length = 8 := rfl
end Go.Proofs.Ytebfilljdnhccaa.Plain
/- Values that may be, as a plain kind of their own: their bytes end by themselves, tell the value, and are in the order of values. -/
namespace Go.Proofs.Ytebfilljdnhccaa.Plain

inductive V where
  | null
  | bool (b : Bool)
  | int (n : Int)
  | flo (f : Nat)
  | raw (s : List UInt8)
  | text (s : List UInt8)
def V.Ok : V → Prop
  | .null => True
  | .bool _ => True
  | .int n => -9223372036854775808 ≤ n ∧ n ≤ 9223372036854775807
  | .flo f => f < 18446744073709551616 ∧ canon f = f
  | .raw s => s.length ≤ 40
  | .text s => s.length ≤ 40
def V.k : V → Int
  | .null => 0
  | .bool _ => 1
  | .int _ => 2
  | .flo _ => 3
  | .raw _ => 4
  | .text _ => 5
def V.n : V → Int
  | .bool b => if b then 1 else 0
  | .int n => n
  | _ => 0
def V.f : V → Nat
  | .flo f => f
  | _ => 0
def V.s : V → List UInt8
  | .raw s => s
  | .text s => s
  | _ => []
def V.enc : V → List UInt8
  | .null => [1]
  | .bool b => if b then [3] else [2]
  | .int n => 4 :: be8 (biased n)
  | .flo f => 5 :: be8 (ordr f)
  | .raw s => 6 :: (esc s ++ [0, 1])
  | .text s => 7 :: (esc s ++ [0, 1])
theorem V.enc_is (v : V) : encV v.k v.n v.f v.s = v.enc := by
  cases v with
  | bool b => cases b <;> rfl
  | _ => rfl
/-- A value that may be is one of these. -/
theorem view {k n : Int} {f : Nat} {s : List UInt8} (h : mayB k n f s = true) (hn : -9223372036854775808 ≤ n ∧ n ≤ 9223372036854775807) (hf : f < 18446744073709551616) :
    ∃ v : V, v.Ok ∧ k = v.k ∧ n = v.n ∧ f = v.f ∧ s = v.s := by
  unfold mayB at h
  by_cases h0 : k = 0
  · rw [if_pos h0] at h; simp at h; exact ⟨.null, trivial, h0, h.1, h.2.1, h.2.2⟩
  rw [if_neg h0] at h
  by_cases h1 : k = 1
  · rw [if_pos h1] at h; simp at h
    rcases h.1 with hz | hz
    · exact ⟨.bool false, trivial, h1, hz, h.2.1, h.2.2⟩
    · exact ⟨.bool true, trivial, h1, hz, h.2.1, h.2.2⟩
  rw [if_neg h1] at h
  by_cases h2 : k = 2
  · rw [if_pos h2] at h; simp at h; exact ⟨.int n, hn, h2, rfl, h.1, h.2⟩
  rw [if_neg h2] at h
  by_cases h3 : k = 3
  · rw [if_pos h3] at h; simp at h; exact ⟨.flo f, ⟨hf, h.2.1⟩, h3, h.1, rfl, h.2.2⟩
  rw [if_neg h3] at h
  by_cases h4 : k = 4
  · rw [if_pos h4] at h; simp at h; exact ⟨.raw s, h.2.2, h4, h.1, h.2.1, rfl⟩
  rw [if_neg h4] at h
  by_cases h5 : k = 5
  · rw [if_pos h5] at h; simp at h; exact ⟨.text s, h.2.2, h5, h.1, h.2.1, rfl⟩
  rw [if_neg h5] at h; cases h
theorem V.may (v : V) (h : v.Ok) : mayB v.k v.n v.f v.s = true := by
  cases v with
  | null => rfl
  | bool b => cases b <;> rfl
  | int n => rfl
  | flo f => show (decide ((0 : Int) = 0) && (decide (canon f = f) && true)) = true; rw [decide_eq_true h.2]; rfl
  | raw s => show (decide ((0 : Int) = 0) && (decide ((0 : Nat) = 0) && decide (s.length ≤ 40))) = true; rw [decide_eq_true (show s.length ≤ 40 from h)]; rfl
  | text s => show (decide ((0 : Int) = 0) && (decide ((0 : Nat) = 0) && decide (s.length ≤ 40))) = true; rw [decide_eq_true (show s.length ≤ 40 from h)]; rfl
theorem V.fields_inj {a b : V} (h1 : a.k = b.k) (h2 : a.n = b.n) (h3 : a.f = b.f) (h4 : a.s = b.s) : a = b := by
  cases a <;> cases b <;> first | rfl | (simp [V.k] at h1; done) | skip
  · rename_i x y; cases x <;> cases y <;> first | rfl | (simp [V.n] at h2; done)
  · exact congrArg V.int h2
  · exact congrArg V.flo h3
  · exact congrArg V.raw h4
  · exact congrArg V.text h4
theorem V.sd (a b : V) : SD a.enc b.enc := by
  rcases a with _ | (_ | _) | n | f | s | s <;> rcases b with _ | (_ | _) | m | g | t | t <;> first
    | (exact SD.heads (by decide) _ _)
    | (exact SD.cons (SD.esc _ _) _)
    | (exact SD.same_length rfl)
theorem ordr_lt64 (f : Nat) : ordr f < 18446744073709551616 := ordr_lt f
theorem biased_lt {n : Int} (h : -9223372036854775808 ≤ n ∧ n ≤ 9223372036854775807) : biased n < 18446744073709551616 := by unfold biased; omega
theorem V.enc_inj {a b : V} (ha : a.Ok) (hb : b.Ok) (h : a.enc = b.enc) : a = b := by
  rcases a with _ | (_ | _) | n | f | s | s <;> rcases b with _ | (_ | _) | m | g | t | t <;> first
    | rfl
    | (exact absurd (List.cons.inj h).1 (by decide))
    | skip
  · have h1 := (be8_inj (biased_lt ha) (biased_lt hb)).1 (List.cons.inj h).2
    have a1 := ha.1
    have b1 := hb.1
    unfold biased at h1
    exact congrArg V.int (by omega)
  · have h1 := (be8_inj (ordr_lt f) (ordr_lt g)).1 (List.cons.inj h).2
    have h2 := (ordr_inj ha.1 hb.1).1 h1
    rw [ha.2, hb.2] at h2
    exact congrArg V.flo h2
  · exact congrArg V.raw (esc_inj (List.cons.inj h).2)
  · exact congrArg V.text (esc_inj (List.cons.inj h).2)
theorem V.enc_eq {a b : V} (ha : a.Ok) (hb : b.Ok) : a.enc = b.enc ↔ a = b := ⟨V.enc_inj ha hb, fun h => by rw [h]⟩
theorem V.enc_ne (v : V) : v.enc ≠ [] := by cases v <;> first | (simp [V.enc]; done) | (rename_i b; cases b <;> simp [V.enc])
theorem V.enc_length (v : V) (h : v.Ok) : v.enc.length ≤ 83 := by
  cases v with
  | null => decide
  | bool b => cases b <;> decide
  | int n => simp [V.enc, be8_length]
  | flo f => simp [V.enc, be8_length]
  | raw s => have := esc_length s; have h : s.length ≤ 40 := h; simp [V.enc]; omega
  | text s => have := esc_length s; have h : s.length ≤ 40 := h; simp [V.enc]; omega
/-- Behind values' bytes: the order of two of them with whatever stands behind. -/
theorem V.less_app (a b : V) (x y : List UInt8) : less (a.enc ++ x) (b.enc ++ y) = if a.enc = b.enc then less x y else less a.enc b.enc := V.sd a b x y
/-- -1, 0, 1: as a text is below, the same as, above another one. -/
def cmpL (a b : List UInt8) : Int := if less a b = true then -1 else if less b a = true then 1 else 0
theorem cmpL_self (a : List UInt8) : cmpL a a = 0 := by unfold cmpL; rw [less_self]; rfl
theorem cmpL_zero {a b : List UInt8} : cmpL a b = 0 ↔ a = b := by
  constructor
  · intro h
    by_cases e : a = b
    · exact e
    · have := less_total a b e
      unfold cmpL at h
      cases h1 : less a b <;> cases h2 : less b a <;> simp_all
  · intro h; rw [h, cmpL_self]
theorem cmpL_neg {a b : List UInt8} : cmpL a b < 0 ↔ less a b = true := by
  unfold cmpL
  by_cases h : less a b = true
  · rw [if_pos h]; simp [h]
  · rw [if_neg h]
    constructor
    · intro h2; split at h2 <;> omega
    · intro h2; exact absurd h2 h
theorem cmpL_turn (a b : List UInt8) : cmpL b a = -cmpL a b := by
  by_cases e : a = b
  · rw [e, cmpL_self]; rfl
  · have := less_total a b e
    unfold cmpL
    cases h1 : less a b <;> cases h2 : less b a <;> simp_all
end Go.Proofs.Ytebfilljdnhccaa.Plain
