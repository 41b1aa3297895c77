/- Floats rounded: the rung nearest to a number, a word's number in units of 2^-1074, sums and orders of finite words. -/
import Derived.Test.YtijdengicjjebaaFlo
namespace Go.Proofs.Ytijdengicjjebaa.Plain
set_option exponentiation.threshold 4000
/-- A number's whole part in units of 2^d, rounded to the nearest, between two to the even one. -/
def rnd (v d : Nat) : Nat := v / 2 ^ d + if 2 ^ d < 2 * (v % 2 ^ d) ∨ (2 ^ d = 2 * (v % 2 ^ d) ∧ v / 2 ^ d % 2 = 1) then 1 else 0
/-- The rung nearest to v units of 2^-1074, infinity not heeded. -/
def near (v : Nat) : Nat := (v.log2 - 52) * 4503599627370496 + rnd v (v.log2 - 52)
/-- A rung's number in units of 2^-1074. -/
def un (r : Nat) : Nat := if r < 4503599627370496 then r else (4503599627370496 + r % 4503599627370496) * 2 ^ (r / 4503599627370496 - 1)
def wordOf (s : Bool) (r : Nat) : Nat := if s then 9223372036854775808 + r else r
theorem word_is (s : Bool) (r : Nat) : Ieee.double.word s r = wordOf s r := by
  unfold Ieee.Format.word wordOf; rw [sw]
theorem cut_rnd (s : Bool) (n d : Nat) (h : d ≤ n.log2 + 2) : Ieee.Toward.even.cut s n d = rnd n d := by
  unfold Ieee.Toward.cut rnd
  dsimp only
  rw [Nat.min_eq_left h, Nat.shiftLeft_eq, Nat.one_mul]
  congr 1
  by_cases h1 : 2 ^ d < 2 * (n % 2 ^ d)
  · rw [if_pos (Or.inl h1)]; simp [h1]
  · by_cases h2 : 2 ^ d = 2 * (n % 2 ^ d) ∧ n / 2 ^ d % 2 = 1
    · rw [if_pos (Or.inr h2)]
      obtain ⟨h3, h4⟩ := h2
      have e1 : (2 ^ d == 2 * (n % 2 ^ d)) = true := beq_iff_eq.2 h3
      have e2 : (n / 2 ^ d % 2 == 1) = true := beq_iff_eq.2 h4
      rw [e1, e2]; simp
    · rw [if_neg (by intro h3; exact h3.elim h1 h2)]
      by_cases h3 : 2 ^ d = 2 * (n % 2 ^ d)
      · have e2 : (n / 2 ^ d % 2 == 1) = false := beq_eq_false_iff_ne.2 fun h4 => h2 ⟨h3, h4⟩
        rw [e2]; simp [h1]
      · have e1 : (2 ^ d == 2 * (n % 2 ^ d)) = false := beq_eq_false_iff_ne.2 h3
        rw [e1]; simp [h1]
theorem rnd_zero (v : Nat) : rnd v 0 = v := by
  unfold rnd
  rw [Nat.pow_zero, Nat.mod_one, Nat.div_one, if_neg (by omega), Nat.add_zero]
theorem rnd_exact (m d : Nat) : rnd (m * 2 ^ d) d = m := by
  unfold rnd
  have hp := Nat.two_pow_pos d
  rw [Nat.mul_mod_left, Nat.mul_div_cancel _ hp, if_neg (by omega), Nat.add_zero]
theorem rnd_scale (m p d : Nat) : rnd (m * 2 ^ p) (d + p) = rnd m d := by
  unfold rnd
  have hp := Nat.two_pow_pos p
  rw [Nat.pow_add, Nat.mul_div_mul_right _ _ hp, Nat.mul_mod_mul_right]
  congr 1
  have h1 : (2 ^ d * 2 ^ p < 2 * (m % 2 ^ d * 2 ^ p)) ↔ 2 ^ d < 2 * (m % 2 ^ d) := by
    rw [← Nat.mul_assoc]; exact Nat.mul_lt_mul_right hp
  have h2 : (2 ^ d * 2 ^ p = 2 * (m % 2 ^ d * 2 ^ p)) ↔ 2 ^ d = 2 * (m % 2 ^ d) := by
    rw [← Nat.mul_assoc]; exact ⟨fun h => Nat.eq_of_mul_eq_mul_right hp h, fun h => by
      have := congrArg (· * 2 ^ p) h
      exact this⟩
  simp only [h1, h2]
theorem log2_scale (m p : Nat) (h : m ≠ 0) : (m * 2 ^ p).log2 = m.log2 + p := by
  have hp := Nat.two_pow_pos p
  have hm : m * 2 ^ p ≠ 0 := by
    intro hh; rcases Nat.mul_eq_zero.1 hh with h1 | h1 <;> omega
  apply (Nat.log2_eq_iff hm).2
  have := (Nat.log2_eq_iff h).1 rfl
  rw [show m.log2 + p + 1 = m.log2 + 1 + p by omega, Nat.pow_add, Nat.pow_add]
  exact ⟨Nat.mul_le_mul_right _ this.1, (Nat.mul_lt_mul_right hp).2 this.2⟩
theorem nearest_is (s : Bool) (m : Nat) (e : Int) (h : -1074 ≤ e) :
    Ieee.double.nearest s m e = wordOf s (min (near (m * 2 ^ (e + 1074).toNat)) 9218868437227405312) := by
  obtain ⟨p, rfl⟩ : ∃ p : Nat, e = (p : Int) - 1074 := ⟨(e + 1074).toNat, by omega⟩
  rw [show ((p : Int) - 1074 + 1074).toNat = p by omega]
  unfold Ieee.Format.nearest
  by_cases hm : m = 0
  · rw [if_pos hm, hm, word_is, Nat.zero_mul]
    have : near 0 = 0 := by decide
    rw [this]; rfl
  · rw [if_neg hm]
    simp only [leastp, binn, inff, word_is, show Ieee.double.fractionBits = 52 from rfl]
    unfold near
    rw [log2_scale m p hm]
    refine congrArg (fun z => wordOf s (min z 9218868437227405312)) ?_
    by_cases h1 : 52 ≤ m.log2 + p
    · obtain ⟨d, hd⟩ : ∃ d, m.log2 + p = d + 52 := ⟨m.log2 + p - 52, by omega⟩
      have e1 : max ((p : Int) - 1074 + (m.log2 : Int) - ((52 : Nat) : Int)) (-1074) = (d : Int) - 1074 := by omega
      rw [e1, hd, show ((d : Int) - 1074 - -1074).toNat = d by omega, show d + 52 - 52 = d by omega]
      refine congrArg (d * 4503599627370496 + ·) ?_
      by_cases h2 : d ≤ p
      · rw [show ((p : Int) - 1074 - ((d : Int) - 1074)).toNat = p - d by omega, show ((d : Int) - 1074 - ((p : Int) - 1074)).toNat = 0 by omega, cut_rnd _ _ _ (by omega), rnd_zero, Nat.shiftLeft_eq]
        rw [show m * 2 ^ p = (m * 2 ^ (p - d)) * 2 ^ d by rw [Nat.mul_assoc, ← Nat.pow_add]; congr 2; omega, rnd_exact]
      · rw [show ((p : Int) - 1074 - ((d : Int) - 1074)).toNat = 0 by omega, show ((d : Int) - 1074 - ((p : Int) - 1074)).toNat = d - p by omega, Nat.shiftLeft_zero, cut_rnd _ _ _ (by omega)]
        have := rnd_scale m p (d - p)
        rw [show d - p + p = d by omega] at this
        exact this.symm
    · have e1 : max ((p : Int) - 1074 + (m.log2 : Int) - ((52 : Nat) : Int)) (-1074) = -1074 := by omega
      rw [e1, show m.log2 + p - 52 = 0 by omega, show ((-1074 : Int) - -1074).toNat = 0 by omega]
      refine congrArg (0 * 4503599627370496 + ·) ?_
      rw [show ((p : Int) - 1074 - (-1074)).toNat = p by omega, show ((-1074 : Int) - ((p : Int) - 1074)).toNat = 0 by omega, cut_rnd _ _ _ (by omega), rnd_zero, rnd_zero, Nat.shiftLeft_eq]
theorem log2_lt53 {v : Nat} (h : v < 9007199254740992) : v.log2 ≤ 52 := by
  by_cases h0 : v = 0
  · rw [h0]; decide
  · have := (Nat.log2_lt h0 (k := 53)).2 (by simpa using h)
    omega
theorem near_small {v : Nat} (h : v < 9007199254740992) : near v = v := by
  unfold near
  have := log2_lt53 h
  rw [show v.log2 - 52 = 0 by omega, rnd_zero]; omega
theorem near_exact (m d : Nat) (h1 : 4503599627370496 ≤ m) (h2 : m < 9007199254740992) : near (m * 2 ^ d) = d * 4503599627370496 + m := by
  unfold near
  have hm : m ≠ 0 := by omega
  have : m.log2 = 52 := (Nat.log2_eq_iff hm).2 ⟨by simpa using h1, by simpa using h2⟩
  rw [log2_scale m d hm, this, show 52 + d - 52 = d by omega, rnd_exact]
/-- A rung is nearest to its own number. -/
theorem near_un (r : Nat) : near (un r) = r := by
  unfold un
  by_cases h : r < 4503599627370496
  · rw [if_pos h, near_small (by omega)]
  · rw [if_neg h, near_exact _ _ (by omega) (by omega)]
    omega
theorem un_small {v : Nat} (h : v < 9007199254740992) : un v = v := by
  unfold un
  by_cases h1 : v < 4503599627370496
  · rw [if_pos h1]
  · rw [if_neg h1, show v / 4503599627370496 - 1 = 0 by omega]; omega
theorem un_succ (r : Nat) : un r < un (r + 1) := by
  by_cases h : r + 1 < 9007199254740992
  · rw [un_small h, un_small (by omega)]; omega
  · unfold un
    rw [if_neg (by omega), if_neg (by omega)]
    obtain ⟨q, t, hr, ht⟩ : ∃ q t, r = (q + 1) * 4503599627370496 + t ∧ t < 4503599627370496 := ⟨r / 4503599627370496 - 1, r % 4503599627370496, by omega, by omega⟩
    subst hr
    have hp := Nat.two_pow_pos q
    rw [show ((q + 1) * 4503599627370496 + t) % 4503599627370496 = t by omega, show ((q + 1) * 4503599627370496 + t) / 4503599627370496 - 1 = q by omega]
    by_cases h2 : t + 1 < 4503599627370496
    · rw [show ((q + 1) * 4503599627370496 + t + 1) % 4503599627370496 = t + 1 by omega, show ((q + 1) * 4503599627370496 + t + 1) / 4503599627370496 - 1 = q by omega]
      exact (Nat.mul_lt_mul_right hp).2 (by omega)
    · rw [show ((q + 1) * 4503599627370496 + t + 1) % 4503599627370496 = 0 by omega, show ((q + 1) * 4503599627370496 + t + 1) / 4503599627370496 - 1 = q + 1 by omega, Nat.pow_succ]
      have : (4503599627370496 + t) * 2 ^ q < 9007199254740992 * 2 ^ q := (Nat.mul_lt_mul_right hp).2 (by omega)
      omega
theorem un_mono {a b : Nat} (h : a < b) : un a < un b := by
  induction b with
  | zero => omega
  | succ b ih =>
    rcases Nat.lt_or_ge a b with h1 | h1
    · exact Nat.lt_trans (ih h1) (un_succ b)
    · rw [show a = b by omega]; exact un_succ b
theorem un_inj {a b : Nat} (h : un a = un b) : a = b := by
  rcases Nat.lt_trichotomy a b with h1 | h1 | h1
  · have := un_mono h1; omega
  · exact h1
  · have := un_mono h1; omega
theorem un_lt_iff {a b : Nat} : un a < un b ↔ a < b := by
  constructor
  · intro h
    rcases Nat.lt_trichotomy a b with h1 | h1 | h1
    · exact h1
    · rw [h1] at h; omega
    · have := un_mono h1; omega
  · exact un_mono
theorem un_zero : un 0 = 0 := un_small (by decide)
/-- What needs no more than 53 digits is a rung's number. -/
theorem un_near (m d : Nat) (h : m < 9007199254740992) : un (near (m * 2 ^ d)) = m * 2 ^ d := by
  by_cases h0 : m = 0
  · rw [h0, Nat.zero_mul, near_small (by decide), un_zero]
  · have hl := log2_lt53 h
    have hp := (Nat.log2_eq_iff h0).1 rfl
    by_cases h1 : m.log2 + d ≤ 52
    · have hv : m * 2 ^ d < 9007199254740992 := by
        have h2 : m * 2 ^ d < 2 ^ (m.log2 + 1) * 2 ^ d := (Nat.mul_lt_mul_right (Nat.two_pow_pos d)).2 hp.2
        rw [← Nat.pow_add] at h2
        have h3 : 2 ^ (m.log2 + 1 + d) ≤ 2 ^ 53 := Nat.pow_le_pow_right (by decide) (by omega)
        have h4 : (2 : Nat) ^ 53 = 9007199254740992 := by decide
        omega
      rw [near_small hv, un_small hv]
    · obtain ⟨z, hz⟩ : ∃ z, m.log2 + z = 52 := ⟨52 - m.log2, by omega⟩
      obtain ⟨q, hq⟩ : ∃ q, d = z + (q + 1) := ⟨d - z - 1, by omega⟩
      have e1 : m * 2 ^ d = (m * 2 ^ z) * 2 ^ (q + 1) := by rw [hq, Nat.pow_add, Nat.mul_assoc]
      have b1 : 4503599627370496 ≤ m * 2 ^ z := by
        have h2 : 2 ^ m.log2 * 2 ^ z ≤ m * 2 ^ z := Nat.mul_le_mul_right _ hp.1
        rw [← Nat.pow_add, hz] at h2
        have h4 : (2 : Nat) ^ 52 = 4503599627370496 := by decide
        omega
      have b2 : m * 2 ^ z < 9007199254740992 := by
        have h2 : m * 2 ^ z < 2 ^ (m.log2 + 1) * 2 ^ z := (Nat.mul_lt_mul_right (Nat.two_pow_pos z)).2 hp.2
        rw [← Nat.pow_add, show m.log2 + 1 + z = 53 by omega] at h2
        have h4 : (2 : Nat) ^ 53 = 9007199254740992 := by decide
        omega
      rw [e1, near_exact _ _ b1 b2]
      generalize m * 2 ^ z = y at *
      unfold un
      rw [if_neg (by omega), show ((q + 1) * 4503599627370496 + y) % 4503599627370496 = y - 4503599627370496 by omega, show ((q + 1) * 4503599627370496 + y) / 4503599627370496 - 1 = q + 1 by omega]
      rw [show 4503599627370496 + (y - 4503599627370496) = y by omega]
theorem un_inf : un 9218868437227405312 = 2 ^ 52 * 2 ^ 2046 := by
  unfold un
  rw [if_neg (by decide), show 9218868437227405312 % 4503599627370496 = 0 by decide, show 9218868437227405312 / 4503599627370496 - 1 = 2046 by decide]
theorem near_lt (m : Nat) (h : m < 9007199254740992) : near (m * 2 ^ 1074) < 9218868437227405312 := by
  rw [← un_lt_iff, un_near m 1074 h, un_inf]
  have h1 : m * 2 ^ 1074 < 2 ^ 53 * 2 ^ 1074 := (Nat.mul_lt_mul_right (Nat.two_pow_pos _)).2 h
  rw [← Nat.pow_add] at h1 ⊢
  exact Nat.lt_of_lt_of_le h1 (Nat.pow_le_pow_right (by decide) (by decide))
/-- A finite word's number in units of 2^-1074. -/
def sv (x : Nat) : Int := if sg x then -(un (x % 9223372036854775808) : Int) else (un (x % 9223372036854775808) : Int)
theorem read_fin (x : Nat) (h : x % 9223372036854775808 < 9218868437227405312) :
    ∃ m p : Nat, Ieee.double.read x = .number (sg x) m ((p : Int) - 1074) ∧ m * 2 ^ p = un (x % 9223372036854775808) := by
  rcases Nat.lt_or_ge (x % 9223372036854775808) 4503599627370496 with h1 | h1
  · refine ⟨x % 9223372036854775808, 0, read_small x h1, ?_⟩
    unfold un; rw [if_pos h1]; omega
  · refine ⟨4503599627370496 + x % 9223372036854775808 % 4503599627370496, x % 9223372036854775808 / 4503599627370496 - 1, ?_, ?_⟩
    · rw [read_normal x h1 h]
      rw [show (-1074 + ((x % 9223372036854775808 / 4503599627370496 - 1 : Nat) : Int)) = ((x % 9223372036854775808 / 4503599627370496 - 1 : Nat) : Int) - 1074 by omega]
    · unfold un; rw [if_neg (by omega)]
theorem signed_is (s : Bool) (m k : Nat) : Ieee.signed s m k = if s then -((m * 2 ^ k : Nat) : Int) else ((m * 2 ^ k : Nat) : Int) := by
  unfold Ieee.signed; rw [Nat.shiftLeft_eq]
theorem signed_scale (s : Bool) (m p b : Nat) (h : b ≤ p) : Ieee.signed s m (p - b) * ((2 ^ b : Nat) : Int) = if s then -((m * 2 ^ p : Nat) : Int) else ((m * 2 ^ p : Nat) : Int) := by
  rw [signed_is]
  have : m * 2 ^ p = m * 2 ^ (p - b) * 2 ^ b := by rw [Nat.mul_assoc, ← Nat.pow_add]; congr 2; omega
  rw [this]
  cases s
  · simp
  · simp [Int.neg_mul]
/-- The sum of two finite words. -/
def sumW (x y : Nat) : Nat := wordOf (if sv x + sv y = 0 then sg x && sg y else decide (sv x + sv y < 0)) (min (near (sv x + sv y).natAbs) 9218868437227405312)
theorem add_fin (x y : Nat) (hx : x % 9223372036854775808 < 9218868437227405312) (hy : y % 9223372036854775808 < 9218868437227405312) :
    Ieee.double.add x y = some (sumW x y) := by
  obtain ⟨m, p, e1, v1⟩ := read_fin x hx
  obtain ⟨n, q, e2, v2⟩ := read_fin y hy
  unfold Ieee.Format.add
  rw [e1, e2]
  unfold Ieee.Datum.sum
  simp only [Option.map_some]
  obtain ⟨b, hb, hbp, hbq⟩ : ∃ b : Nat, min ((p : Int) - 1074) ((q : Int) - 1074) = (b : Int) - 1074 ∧ b ≤ p ∧ b ≤ q := ⟨min p q, by omega, by omega, by omega⟩
  rw [hb, show ((p : Int) - 1074 - ((b : Int) - 1074)).toNat = p - b by omega, show ((q : Int) - 1074 - ((b : Int) - 1074)).toNat = q - b by omega]
  have t1 := signed_scale (sg x) m p b hbp
  have t2 := signed_scale (sg y) n q b hbq
  rw [v1] at t1
  rw [v2] at t2
  have t1' : Ieee.signed (sg x) m (p - b) * ((2 ^ b : Nat) : Int) = sv x := t1
  have t2' : Ieee.signed (sg y) n (q - b) * ((2 ^ b : Nat) : Int) = sv y := t2
  generalize Ieee.signed (sg x) m (p - b) = A at *
  generalize Ieee.signed (sg y) n (q - b) = B at *
  have hs : (A + B) * ((2 ^ b : Nat) : Int) = sv x + sv y := by rw [Int.add_mul, t1', t2']
  have hpos : (0 : Int) < ((2 ^ b : Nat) : Int) := by have := Nat.two_pow_pos b; omega
  unfold Ieee.Format.write
  simp only
  rw [nearest_is _ _ _ (by omega), show ((b : Int) - 1074 + 1074).toNat = b by omega]
  have habs : (A + B).natAbs * 2 ^ b = (sv x + sv y).natAbs := by rw [← hs, Int.natAbs_mul, Int.natAbs_natCast]
  rw [habs]
  unfold sumW
  have z1 : (A + B = 0) ↔ (sv x + sv y = 0) := by
    rw [← hs]
    constructor
    · intro h; rw [h, Int.zero_mul]
    · intro h; rcases Int.mul_eq_zero.1 h with h | h <;> omega
  have z2 : (A + B < 0) ↔ (sv x + sv y < 0) := by
    rw [← hs]
    constructor
    · intro h; exact Int.mul_neg_of_neg_of_pos h hpos
    · intro h
      by_cases h1 : A + B < 0
      · exact h1
      · have := Int.mul_nonneg (show 0 ≤ A + B by omega) (Int.le_of_lt hpos); omega
  have : (if A + B = 0 then (sg x && sg y) else decide (A + B < 0)) = (if sv x + sv y = 0 then (sg x && sg y) else decide (sv x + sv y < 0)) := by
    by_cases hz : A + B = 0
    · rw [if_pos hz, if_pos (z1.1 hz)]
    · rw [if_neg hz, if_neg (fun h => hz (z1.2 h))]
      exact decide_eq_decide.2 z2
  rw [this]
theorem order_fin (x y : Nat) (hx : x % 9223372036854775808 < 9218868437227405312) (hy : y % 9223372036854775808 < 9218868437227405312) :
    FloatKind.f64.format.order x y = some (compare (sv x) (sv y)) := by
  show Ieee.Datum.order (Ieee.double.read x) (Ieee.double.read y) = _
  obtain ⟨m, p, e1, v1⟩ := read_fin x hx
  obtain ⟨n, q, e2, v2⟩ := read_fin y hy
  rw [e1, e2]
  simp only [Ieee.Datum.order]
  obtain ⟨b, hb, hbp, hbq⟩ : ∃ b : Nat, min ((p : Int) - 1074) ((q : Int) - 1074) = (b : Int) - 1074 ∧ b ≤ p ∧ b ≤ q := ⟨min p q, by omega, by omega, by omega⟩
  rw [hb, show ((p : Int) - 1074 - ((b : Int) - 1074)).toNat = p - b by omega, show ((q : Int) - 1074 - ((b : Int) - 1074)).toNat = q - b by omega]
  have t1 := signed_scale (sg x) m p b hbp
  have t2 := signed_scale (sg y) n q b hbq
  rw [v1] at t1
  rw [v2] at t2
  have t1' : Ieee.signed (sg x) m (p - b) * ((2 ^ b : Nat) : Int) = sv x := t1
  have t2' : Ieee.signed (sg y) n (q - b) * ((2 ^ b : Nat) : Int) = sv y := t2
  generalize Ieee.signed (sg x) m (p - b) = A at *
  generalize Ieee.signed (sg y) n (q - b) = B at *
  have hpos : (0 : Int) < ((2 ^ b : Nat) : Int) := by have := Nat.two_pow_pos b; omega
  rw [← t1', ← t2']
  refine congrArg some ?_
  have hlt : A < B ↔ A * ((2 ^ b : Nat) : Int) < B * ((2 ^ b : Nat) : Int) := ⟨fun h => Int.mul_lt_mul_of_pos_right h hpos, fun h => Int.lt_of_mul_lt_mul_right h (Int.le_of_lt hpos)⟩
  have heq : A = B ↔ A * ((2 ^ b : Nat) : Int) = B * ((2 ^ b : Nat) : Int) := ⟨fun h => by rw [h], fun h => Int.eq_of_mul_eq_mul_right (by omega) h⟩
  show compareOfLessAndEq A B = compareOfLessAndEq _ _
  unfold compareOfLessAndEq
  by_cases h1 : A < B
  · rw [if_pos h1, if_pos (hlt.1 h1)]
  · rw [if_neg h1, if_neg (fun h => h1 (hlt.2 h))]
    by_cases h2 : A = B
    · rw [if_pos h2, if_pos (heq.1 h2)]
    · rw [if_neg h2, if_neg (fun h => h2 (heq.2 h))]
end Go.Proofs.Ytijdengicjjebaa.Plain
