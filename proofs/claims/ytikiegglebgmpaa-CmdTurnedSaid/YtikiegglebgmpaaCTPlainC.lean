/- What Go's & | ^ do to whole numbers without a sign, as Lean's own operations on Nat. -/
import Derived.Laws.BitsLemmas
import Derived.Laws.FloatArith
namespace Go.Proofs.Ytikiegglebgmpaa.Plain

theorem wrap_u64 (n : Int) : IntKind.u64.wrap n = n % 18446744073709551616 := by simp [IntKind.wrap, IntKind.bits, IntKind.signed]
theorem bits_gen (k : IntKind) (hk : ∀ n : Int, 0 ≤ n → n < 2 ^ k.bits → k.wrap n = n) (a b : Nat) (ha : a < 2 ^ k.bits) (hb : b < 2 ^ k.bits) :
    Go.bits .xor k a b = ((a ^^^ b : Nat) : Int) ∧ Go.bits .and k a b = ((a &&& b : Nat) : Int) ∧ Go.bits .or k a b = ((a ||| b : Nat) : Int) ∧
      Go.bits .andNot k a b = ((a &&& (2 ^ k.bits - 1 - b) : Nat) : Int) := by
  have ha' : a % 2 ^ k.bits = a := Nat.mod_eq_of_lt ha
  have hb' : b % 2 ^ k.bits = b := Nat.mod_eq_of_lt hb
  have cast : ∀ n : Nat, n < 2 ^ k.bits → ((n : Nat) : Int) < 2 ^ k.bits := fun n h => by exact_mod_cast h
  refine ⟨?_, ?_, ?_, ?_⟩
  · simp only [Go.bits, BitVec.ofInt_natCast, BitVec.toNat_xor, BitVec.toNat_ofNat, ha', hb']
    exact hk _ (Int.natCast_nonneg _) (cast _ (Nat.xor_lt_two_pow ha hb))
  · simp only [Go.bits, BitVec.ofInt_natCast, BitVec.toNat_and, BitVec.toNat_ofNat, ha', hb']
    exact hk _ (Int.natCast_nonneg _) (cast _ (Nat.and_lt_two_pow _ hb))
  · simp only [Go.bits, BitVec.ofInt_natCast, BitVec.toNat_or, BitVec.toNat_ofNat, ha', hb']
    exact hk _ (Int.natCast_nonneg _) (cast _ (Nat.or_lt_two_pow ha hb))
  · simp only [Go.bits, BitVec.ofInt_natCast, BitVec.toNat_and, BitVec.toNat_not, BitVec.toNat_ofNat, ha', hb']
    have hp := Nat.two_pow_pos k.bits
    exact hk _ (Int.natCast_nonneg _) (cast _ (Nat.and_lt_two_pow _ (by omega)))
theorem k_u32 (n : Int) (h0 : 0 ≤ n) (h : n < 2 ^ IntKind.u32.bits) : IntKind.u32.wrap n = n := by
  have h : n < 4294967296 := h
  rw [IntKind.wrap_u32]; omega
theorem k_u64 (n : Int) (h0 : 0 ≤ n) (h : n < 2 ^ IntKind.u64.bits) : IntKind.u64.wrap n = n := by
  have h : n < 18446744073709551616 := h
  rw [wrap_u64]; omega
theorem k_u8 (n : Int) (h0 : 0 ≤ n) (h : n < 2 ^ IntKind.u8.bits) : IntKind.u8.wrap n = n := by
  have h : n < 256 := h
  rw [IntKind.wrap_u8]; omega
section
variable {a b : Nat}
theorem xor_u32 (ha : a < 4294967296) (hb : b < 4294967296) : Go.bits .xor .u32 (a : Int) (b : Int) = ((a ^^^ b : Nat) : Int) := (bits_gen .u32 k_u32 a b ha hb).1
theorem and_u32 (ha : a < 4294967296) (hb : b < 4294967296) : Go.bits .and .u32 (a : Int) (b : Int) = ((a &&& b : Nat) : Int) := (bits_gen .u32 k_u32 a b ha hb).2.1
theorem or_u64 (ha : a < 18446744073709551616) (hb : b < 18446744073709551616) : Go.bits .or .u64 (a : Int) (b : Int) = ((a ||| b : Nat) : Int) := (bits_gen .u64 k_u64 a b ha hb).2.2.1
end
end Go.Proofs.Ytikiegglebgmpaa.Plain
/- Floats as words of 64 bits: what the machine's comparisons say of them; the one form, the place, the way back, as plain numbers. -/
namespace Go.Proofs.Ytikiegglebgmpaa.Plain

theorem sw : Ieee.double.signWeight = 9223372036854775808 := by decide
theorem inff : Ieee.double.infRung = 9218868437227405312 := by decide
theorem binn : Ieee.double.binade = 4503599627370496 := by decide
theorem leastp : Ieee.double.leastPlace = -1074 := by decide
/-- A word's sign. -/
def sg (x : Nat) : Bool := x / 9223372036854775808 % 2 == 1
theorem read_small (x : Nat) (h : x % 9223372036854775808 < 4503599627370496) : Ieee.double.read x = .number (sg x) (x % 9223372036854775808) (-1074) := by
  unfold Ieee.Format.read sg
  simp only [sw, inff, binn, leastp]
  rw [if_pos h]
theorem read_normal (x : Nat) (h : 4503599627370496 ≤ x % 9223372036854775808) (h2 : x % 9223372036854775808 < 9218868437227405312) :
    Ieee.double.read x = .number (sg x) (4503599627370496 + x % 9223372036854775808 % 4503599627370496) (-1074 + (x % 9223372036854775808 / 4503599627370496 - 1 : Nat)) := by
  unfold Ieee.Format.read sg
  simp only [sw, inff, binn, leastp]
  rw [if_neg (by omega), if_pos h2]
theorem read_inf (x : Nat) (h : x % 9223372036854775808 = 9218868437227405312) : Ieee.double.read x = .infinity (sg x) := by
  unfold Ieee.Format.read sg
  simp only [sw, inff, binn, leastp]
  rw [if_neg (by omega), if_neg (by omega), if_pos h]
theorem read_nan (x : Nat) (h : 9218868437227405312 < x % 9223372036854775808) : Ieee.double.read x = .nan (sg x) (x % 9223372036854775808 - 9218868437227405312) := by
  unfold Ieee.Format.read sg
  simp only [sw, inff, binn, leastp]
  rw [if_neg (by omega), if_neg (by omega), if_neg (by omega)]
theorem read_zero : Ieee.double.read 0 = .number false 0 (-1074) := read_small 0 (by decide)
theorem cmp_self (a : Int) : compare a a = .eq := by simp [compare, compareOfLessAndEq]
theorem ncmp_self (a : Nat) : compare a a = .eq := by simp [compare, compareOfLessAndEq]
theorem order_self (d : Ieee.Datum) (h : d.isNaN = false) : d.order d = some .eq := by
  cases d with
  | nan s t => cases h
  | infinity s => show some (compare s.toNat s.toNat) = some .eq; rw [ncmp_self]
  | number s m e => simp only [Ieee.Datum.order]; rw [cmp_self]
theorem signed_zero (s : Bool) (m k : Nat) : Ieee.signed s m k = 0 ↔ m = 0 := by
  unfold Ieee.signed
  have h : m <<< k = 0 ↔ m = 0 := by
    rw [Nat.shiftLeft_eq]
    constructor
    · intro h
      rcases Nat.mul_eq_zero.1 h with h | h
      · exact h
      · have := Nat.two_pow_pos k; omega
    · intro h; rw [h, Nat.zero_mul]
  cases s
  · show ((m <<< k : Nat) : Int) = 0 ↔ m = 0
    omega
  · show -((m <<< k : Nat) : Int) = 0 ↔ m = 0
    omega
theorem cmp_eq_iff (a b : Int) : compare a b = .eq ↔ a = b := by
  constructor
  · intro h
    have h1 : compareOfLessAndEq a b = .eq := h
    unfold compareOfLessAndEq at h1
    split at h1
    · cases h1
    · split at h1
      · assumption
      · cases h1
  · intro h; rw [h, cmp_self]
/-- 'x != x': x is a NaN. -/
theorem nan_test (x : Nat) : (FloatKind.f64.format.order x x != some .eq) = decide (9218868437227405312 < x % 9223372036854775808) := by
  show ((Ieee.double.read x).order (Ieee.double.read x) != some .eq) = _
  by_cases h : 9218868437227405312 < x % 9223372036854775808
  · rw [decide_eq_true h, read_nan x h]; rfl
  · rw [decide_eq_false h, order_self]; rfl
    rcases Nat.lt_or_ge (x % 9223372036854775808) 4503599627370496 with h1 | h1
    · rw [read_small x h1]; rfl
    · rcases Nat.lt_or_ge (x % 9223372036854775808) 9218868437227405312 with h2 | h2
      · rw [read_normal x h1 h2]; rfl
      · rw [read_inf x (by omega)]; rfl
/-- 'x == 0' of what is no NaN. -/
theorem zero_test (x : Nat) (h : ¬ 9218868437227405312 < x % 9223372036854775808) : (FloatKind.f64.format.order x 0 == some .eq) = decide (x % 9223372036854775808 = 0) := by
  show ((Ieee.double.read x).order (Ieee.double.read 0) == some .eq) = _
  rw [read_zero]
  have key : ∀ (s : Bool) (m : Nat) (e : Int), ((Ieee.Datum.number s m e).order (.number false 0 (-1074)) == some .eq) = decide (m = 0) := by
    intro s m e
    simp only [Ieee.Datum.order]
    have hz : ∀ k, Ieee.signed false 0 k = 0 := fun k => (signed_zero false 0 k).2 rfl
    rw [hz]
    by_cases hm : m = 0
    · rw [decide_eq_true hm, (signed_zero s m _).2 hm, cmp_self]; rfl
    · rw [decide_eq_false hm]
      have : ¬ compare (Ieee.signed s m (e - min e (-1074)).toNat) 0 = .eq := fun hc => hm ((signed_zero s m _).1 ((cmp_eq_iff _ _).1 hc))
      rw [beq_eq_false_iff_ne]
      exact fun hh => this (Option.some.inj hh)
  rcases Nat.lt_or_ge (x % 9223372036854775808) 4503599627370496 with h1 | h1
  · rw [read_small x h1, key]
  · rcases Nat.lt_or_ge (x % 9223372036854775808) 9218868437227405312 with h2 | h2
    · rw [read_normal x h1 h2, key]
      rw [decide_eq_false (by omega), decide_eq_false (by omega)]
    · rw [read_inf x (by omega), decide_eq_false (by omega)]
      cases sg x <;> rfl

/-- The one form of a float. -/
def canon (x : Nat) : Nat := if 9218868437227405312 < x % 9223372036854775808 then 9221120237041090560 else if x = 9223372036854775808 then 0 else x
/-- The float of a place. -/
def unplace (o : Nat) : Nat := if o < 9223372036854775808 then 18446744073709551615 - o else o - 9223372036854775808
def back (o : Nat) : Nat × Bool := if canon (unplace o) = unplace o then (unplace o, true) else (0, false)
section
variable {x : Nat} (h : x < 18446744073709551616)
include h
end
end Go.Proofs.Ytikiegglebgmpaa.Plain
/- Values as bytes, in plain lists: which values may be, and the bytes of one that may be. -/
namespace Go.Proofs.Ytikiegglebgmpaa.Plain

/-- Which values may be. -/
def mayB (k n : Int) (f : Nat) (s : List UInt8) : Bool :=
  if k = 0 then decide (n = 0) && (decide (f = 0) && s.isEmpty)
  else if k = 1 then (decide (n = 0) || decide (n = 1)) && (decide (f = 0) && s.isEmpty)
  else if k = 2 then decide (f = 0) && s.isEmpty
  else if k = 3 then decide (n = 0) && (decide (canon f = f) && s.isEmpty)
  else if k = 4 then decide (n = 0) && (decide (f = 0) && decide (s.length ≤ 40))
  else if k = 5 then decide (n = 0) && (decide (f = 0) && decide (s.length ≤ 40))
  else false
end Go.Proofs.Ytikiegglebgmpaa.Plain
/- The sum over a text, in plain numbers: what the bits of a state do when a byte is gone through. -/
namespace Go.Proofs.Ytikiegglebgmpaa.Plain

def stp (c : Nat) : Nat := if c % 2 = 1 then (c / 2) ^^^ 2197175160 else c / 2
def stps : Nat → Nat → Nat
  | 0, c => c
  | n + 1, c => stps n (stp c)
def byt (c b : Nat) : Nat := stps 8 (c ^^^ b)
def crcFrom (c : Nat) (l : List UInt8) : Nat := l.foldl (fun c b => byt c b.toNat) c
def crc (l : List UInt8) : Nat := 4294967295 ^^^ crcFrom 4294967295 l

theorem stp_lt {c : Nat} (h : c < 4294967296) : stp c < 4294967296 := by
  unfold stp
  split
  · exact Nat.xor_lt_two_pow (n := 32) (by omega) (by decide)
  · omega
theorem stps_lt (n : Nat) : ∀ {c : Nat}, c < 4294967296 → stps n c < 4294967296 := by
  induction n with
  | zero => exact fun h => h
  | succ n ih => exact fun h => ih (stp_lt h)
theorem byt_lt {c b : Nat} (h : c < 4294967296) (hb : b < 4294967296) : byt c b < 4294967296 := stps_lt 8 (Nat.xor_lt_two_pow (n := 32) h hb)
theorem crcFrom_lt (l : List UInt8) : ∀ {c : Nat}, c < 4294967296 → crcFrom c l < 4294967296 := by
  induction l with
  | nil => exact fun h => h
  | cons b l ih => exact fun h => ih (byt_lt h (by have := b.toNat_lt; omega))
theorem crc_lt (l : List UInt8) : crc l < 4294967296 := Nat.xor_lt_two_pow (n := 32) (by decide) (crcFrom_lt l (by decide))

theorem xor_half (a b : Nat) : (a ^^^ b) / 2 = (a / 2) ^^^ (b / 2) := by
  have := Nat.xor_div_two_pow (a := a) (b := b) (n := 1)
  simpa using this
theorem xor_par (a b : Nat) : (a ^^^ b) % 2 = (a % 2 + b % 2) % 2 := by
  have h := Nat.xor_mod_two_pow (a := a) (b := b) (n := 1)
  simp only [Nat.pow_one] at h
  rw [h]
  have ha : a % 2 = 0 ∨ a % 2 = 1 := by omega
  have hb : b % 2 = 0 ∨ b % 2 = 1 := by omega
  rcases ha with ha | ha <;> rcases hb with hb | hb <;> simp [ha, hb]
theorem stp_xor (a b : Nat) : stp (a ^^^ b) = stp a ^^^ stp b := by
  unfold stp
  rw [xor_par, xor_half]
  have ha : a % 2 = 0 ∨ a % 2 = 1 := by omega
  have hb : b % 2 = 0 ∨ b % 2 = 1 := by omega
  rcases ha with ha | ha <;> rcases hb with hb | hb <;> simp [ha, hb]
  · rw [Nat.xor_assoc]
  · rw [Nat.xor_assoc, Nat.xor_assoc]; congr 1; rw [Nat.xor_comm]
  · have : (a / 2 ^^^ 2197175160) ^^^ (b / 2 ^^^ 2197175160) = a / 2 ^^^ b / 2 ^^^ (2197175160 ^^^ 2197175160) := by
      ac_rfl
    rw [this, Nat.xor_self, Nat.xor_zero]
theorem stps_xor (n : Nat) : ∀ a b : Nat, stps n (a ^^^ b) = stps n a ^^^ stps n b := by
  induction n with
  | zero => exact fun _ _ => rfl
  | succ n ih => intro a b; simp only [stps]; rw [stp_xor, ih]
theorem xor_eq_zero {a b : Nat} (h : a ^^^ b = 0) : a = b := by
  have := congrArg (· ^^^ b) h
  simpa [Nat.xor_assoc] using this
theorem stp_zero {c : Nat} (hc : c < 4294967296) (h : stp c = 0) : c = 0 := by
  unfold stp at h
  split at h
  · have := xor_eq_zero h; omega
  · omega
theorem stps_zero (n : Nat) : ∀ {c : Nat}, c < 4294967296 → stps n c = 0 → c = 0 := by
  induction n with
  | zero => exact fun _ h => h
  | succ n ih => exact fun hc h => stp_zero hc (ih (stp_lt hc) h)
/-- A difference of states goes on by itself. -/
theorem crcFrom_xor (l : List UInt8) : ∀ c d : Nat, crcFrom (c ^^^ d) l = crcFrom c l ^^^ stps (8 * l.length) d := by
  induction l with
  | nil => exact fun _ _ => rfl
  | cons b l ih =>
    intro c d
    have h1 : byt (c ^^^ d) b.toNat = byt c b.toNat ^^^ stps 8 d := by
      unfold byt
      rw [← stps_xor]; congr 1; ac_rfl
    have h2 : ∀ m e, stps (8 * m) (stps 8 e) = stps (8 * (m + 1)) e := by
      have hadd : ∀ p q e, stps p (stps q e) = stps (q + p) e := by
        intro p q
        induction q with
        | zero => intro e; rw [Nat.zero_add]; rfl
        | succ q ihq => intro e; rw [Nat.succ_add]; simp only [stps]; exact ihq _
      intro m e
      rw [hadd]; congr 1; omega
    show crcFrom (byt (c ^^^ d) b.toNat) l = crcFrom (byt c b.toNat) l ^^^ _
    rw [h1, ih, h2]; rfl
theorem crcFrom_append (a b : List UInt8) (c : Nat) : crcFrom c (a ++ b) = crcFrom (crcFrom c a) b := List.foldl_append

/-- One byte that is turned turns the state. -/
theorem byt_xor (c b d : Nat) : byt c (b ^^^ d) = byt c b ^^^ stps 8 d := by
  unfold byt
  rw [← stps_xor]; congr 1; ac_rfl
theorem xor_ne {a d : Nat} (hd : d ≠ 0) : a ^^^ d ≠ a := by
  intro h
  apply hd
  have := congrArg (a ^^^ ·) h
  simpa [← Nat.xor_assoc] using this
/-- Texts that part in one byte have sums that part. -/
theorem crc_one (pre post : List UInt8) (b x : UInt8) (hn : x ≠ b) : crc (pre ++ (x :: post)) ≠ crc (pre ++ (b :: post)) := by
  unfold crc
  intro h
  have h' : crcFrom 4294967295 (pre ++ (x :: post)) = crcFrom 4294967295 (pre ++ (b :: post)) := by
    have := congrArg (4294967295 ^^^ ·) h
    simpa [← Nat.xor_assoc] using this
  rw [crcFrom_append, crcFrom_append] at h'
  have e : x.toNat = b.toNat ^^^ (b.toNat ^^^ x.toNat) := by rw [← Nat.xor_assoc, Nat.xor_self, Nat.zero_xor]
  have hd : b.toNat ^^^ x.toNat ≠ 0 := fun hz => hn (UInt8.toNat_inj.1 (xor_eq_zero hz).symm)
  have hl : b.toNat ^^^ x.toNat < 256 := Nat.xor_lt_two_pow (n := 8) b.toNat_lt x.toNat_lt
  have h2 : crcFrom (byt (crcFrom 4294967295 pre) x.toNat) post = crcFrom (byt (crcFrom 4294967295 pre) b.toNat) post := h'
  rw [e, byt_xor, crcFrom_xor] at h2
  refine xor_ne ?_ h2
  intro hz
  exact hd (stps_zero 8 (by omega) (stps_zero _ (stps_lt 8 (by omega)) hz))
end Go.Proofs.Ytikiegglebgmpaa.Plain
