/- The sum over a text, in plain numbers: what the bits of a state do when a byte is gone through. -/
import Derived.Laws.BitsLemmas
namespace Go.Proofs.Ytjdgmbikaholoaa.Plain

def stp (c : Nat) : Nat := if c % 2 = 1 then (c / 2) ^^^ 2197175160 else c / 2
def stps : Nat → Nat → Nat
  | 0, c => c
  | n + 1, c => stps n (stp c)
def byt (c b : Nat) : Nat := stps 8 (c ^^^ b)
def crcFrom (c : Nat) (l : List UInt8) : Nat := l.foldl (fun c b => byt c b.toNat) c
def crc (l : List UInt8) : Nat := 4294967295 ^^^ crcFrom 4294967295 l

theorem stp_lt {c : Nat} (h : c < 4294967296) : stp c < 4294967296 := by
  unfold stp
  split
  · exact Nat.xor_lt_two_pow (n := 32) (by omega) (by decide)
  · omega
theorem stps_lt (n : Nat) : ∀ {c : Nat}, c < 4294967296 → stps n c < 4294967296 := by
  induction n with
  | zero => exact fun h => h
  | succ n ih => exact fun h => ih (stp_lt h)
theorem byt_lt {c b : Nat} (h : c < 4294967296) (hb : b < 4294967296) : byt c b < 4294967296 := stps_lt 8 (Nat.xor_lt_two_pow (n := 32) h hb)
theorem crcFrom_lt (l : List UInt8) : ∀ {c : Nat}, c < 4294967296 → crcFrom c l < 4294967296 := by
  induction l with
  | nil => exact fun h => h
  | cons b l ih => exact fun h => ih (byt_lt h (by have := b.toNat_lt; omega))
theorem crc_lt (l : List UInt8) : crc l < 4294967296 := Nat.xor_lt_two_pow (n := 32) (by decide) (crcFrom_lt l (by decide))

theorem xor_half (a b : Nat) : (a ^^^ b) / 2 = (a / 2) ^^^ (b / 2) := by
  have := Nat.xor_div_two_pow (a := a) (b := b) (n := 1)
  simpa using this
theorem xor_par (a b : Nat) : (a ^^^ b) % 2 = (a % 2 + b % 2) % 2 := by
  have h := Nat.xor_mod_two_pow (a := a) (b := b) (n := 1)
  simp only [Nat.pow_one] at h
  rw [h]
  have ha : a % 2 = 0 ∨ a % 2 = 1 := by omega
  have hb : b % 2 = 0 ∨ b % 2 = 1 := by omega
  rcases ha with ha | ha <;> rcases hb with hb | hb <;> simp [ha, hb]
theorem stp_xor (a b : Nat) : stp (a ^^^ b) = stp a ^^^ stp b := by
  unfold stp
  rw [xor_par, xor_half]
  have ha : a % 2 = 0 ∨ a % 2 = 1 := by omega
  have hb : b % 2 = 0 ∨ b % 2 = 1 := by omega
  rcases ha with ha | ha <;> rcases hb with hb | hb <;> simp [ha, hb]
  · rw [Nat.xor_assoc]
  · rw [Nat.xor_assoc, Nat.xor_assoc]; congr 1; rw [Nat.xor_comm]
  · have : (a / 2 ^^^ 2197175160) ^^^ (b / 2 ^^^ 2197175160) = a / 2 ^^^ b / 2 ^^^ (2197175160 ^^^ 2197175160) := by
      ac_rfl
    rw [this, Nat.xor_self, Nat.xor_zero]
theorem stps_xor (n : Nat) : ∀ a b : Nat, stps n (a ^^^ b) = stps n a ^^^ stps n b := by
  induction n with
  | zero => exact fun _ _ => rfl
  | succ n ih => intro a b; simp only [stps]; rw [stp_xor, ih]
theorem xor_eq_zero {a b : Nat} (h : a ^^^ b = 0) : a = b := by
  have := congrArg (· ^^^ b) h
  simpa [Nat.xor_assoc] using this
theorem stp_zero {c : Nat} (hc : c < 4294967296) (h : stp c = 0) : c = 0 := by
  unfold stp at h
  split at h
  · have := xor_eq_zero h; omega
  · omega
theorem stps_zero (n : Nat) : ∀ {c : Nat}, c < 4294967296 → stps n c = 0 → c = 0 := by
  induction n with
  | zero => exact fun _ h => h
  | succ n ih => exact fun hc h => stp_zero hc (ih (stp_lt hc) h)
theorem stps_nought (n : Nat) : stps n 0 = 0 := by
  induction n with
  | zero => rfl
  | succ n ih => simp only [stps]; exact ih
/-- A difference of states goes on by itself. -/
theorem crcFrom_xor (l : List UInt8) : ∀ c d : Nat, crcFrom (c ^^^ d) l = crcFrom c l ^^^ stps (8 * l.length) d := by
  induction l with
  | nil => exact fun _ _ => rfl
  | cons b l ih =>
    intro c d
    have h1 : byt (c ^^^ d) b.toNat = byt c b.toNat ^^^ stps 8 d := by
      unfold byt
      rw [← stps_xor]; congr 1; ac_rfl
    have h2 : ∀ m e, stps (8 * m) (stps 8 e) = stps (8 * (m + 1)) e := by
      have hadd : ∀ p q e, stps p (stps q e) = stps (q + p) e := by
        intro p q
        induction q with
        | zero => intro e; rw [Nat.zero_add]; rfl
        | succ q ihq => intro e; rw [Nat.succ_add]; simp only [stps]; exact ihq _
      intro m e
      rw [hadd]; congr 1; omega
    show crcFrom (byt (c ^^^ d) b.toNat) l = crcFrom (byt c b.toNat) l ^^^ _
    rw [h1, ih, h2]; rfl
theorem crcFrom_append (a b : List UInt8) (c : Nat) : crcFrom c (a ++ b) = crcFrom (crcFrom c a) b := List.foldl_append

theorem stps_eight (y : Nat) : stps 8 (256 * y) = y := by
  have h : ∀ z, stp (2 * z) = z := fun z => by unfold stp; rw [if_neg (by omega)]; omega
  have e : 256 * y = 2 * (2 * (2 * (2 * (2 * (2 * (2 * (2 * y))))))) := by omega
  rw [e]; simp only [stps, h]
theorem xor_add {d : Nat} (hd : d < 256) (y : Nat) : d ^^^ (256 * y) = d + 256 * y := by
  have h := Nat.two_pow_add_eq_or_of_lt (i := 8) hd y
  rw [Nat.add_comm, h, Nat.or_comm]
  apply Nat.eq_of_testBit_eq
  intro i
  rw [Nat.testBit_xor, Nat.testBit_or]
  by_cases hi : i < 8
  · have : (2 ^ 8 * y).testBit i = false := by rw [Nat.testBit_two_pow_mul]; simp; omega
    simp [this]
  · have : d.testBit i = false := Nat.testBit_lt_two_pow (Nat.lt_of_lt_of_le hd (Nat.pow_le_pow_right (n := 2) (by decide) (by omega : 8 ≤ i)))
    simp [this]
/-- One byte that is turned turns the state. -/
theorem byt_xor (c b d : Nat) : byt c (b ^^^ d) = byt c b ^^^ stps 8 d := by
  unfold byt
  rw [← stps_xor]; congr 1; ac_rfl
theorem byt_xor2 (c e b d : Nat) : byt (c ^^^ e) (b ^^^ d) = byt c b ^^^ stps 8 (e ^^^ d) := by
  unfold byt
  rw [← stps_xor]; congr 1; ac_rfl
/-- Four bytes turned by the four bytes of a number turn the state by what 32 steps make of that number. -/
theorem four_turned (c b0 b1 b2 b3 d0 d1 d2 d3 : Nat) (h0 : d0 < 256) (h1 : d1 < 256) (h2 : d2 < 256) :
    byt (byt (byt (byt c (b0 ^^^ d0)) (b1 ^^^ d1)) (b2 ^^^ d2)) (b3 ^^^ d3) =
      byt (byt (byt (byt c b0) b1) b2) b3 ^^^ stps 8 (stps 8 (stps 8 (stps 8 (d0 + 256 * (d1 + 256 * (d2 + 256 * d3)))))) := by
  rw [byt_xor c b0 d0, byt_xor2 _ _ b1, byt_xor2 _ _ b2, byt_xor2 _ _ b3]
  have e0 : stps 8 (d0 + 256 * (d1 + 256 * (d2 + 256 * d3))) = stps 8 d0 ^^^ (d1 + 256 * (d2 + 256 * d3)) := by rw [← xor_add h0, stps_xor, stps_eight]
  have e1 : stps 8 (stps 8 d0 ^^^ (d1 + 256 * (d2 + 256 * d3))) = stps 8 (stps 8 d0 ^^^ d1) ^^^ (d2 + 256 * d3) := by
    rw [← xor_add h1, ← Nat.xor_assoc, stps_xor, stps_eight]
  have e2 : stps 8 (stps 8 (stps 8 d0 ^^^ d1) ^^^ (d2 + 256 * d3)) = stps 8 (stps 8 (stps 8 d0 ^^^ d1) ^^^ d2) ^^^ d3 := by
    rw [← xor_add h2, ← Nat.xor_assoc, stps_xor, stps_eight]
  rw [e0, e1, e2]
theorem xor_ne {a d : Nat} (hd : d ≠ 0) : a ^^^ d ≠ a := by
  intro h
  apply hd
  have := congrArg (a ^^^ ·) h
  simpa [← Nat.xor_assoc] using this
/-- Texts that part in four bytes by a number that is not 0 have sums that part. -/
theorem crc_four (pre post : List UInt8) (b0 b1 b2 b3 x0 x1 x2 x3 : UInt8) (d0 d1 d2 d3 : Nat) (h0 : d0 < 256) (h1 : d1 < 256) (h2 : d2 < 256) (h3 : d3 < 256)
    (hn : d0 + 256 * (d1 + 256 * (d2 + 256 * d3)) ≠ 0) (e0 : x0.toNat = b0.toNat ^^^ d0) (e1 : x1.toNat = b1.toNat ^^^ d1) (e2 : x2.toNat = b2.toNat ^^^ d2) (e3 : x3.toNat = b3.toNat ^^^ d3) :
    crc (pre ++ ([x0, x1, x2, x3] ++ post)) ≠ crc (pre ++ ([b0, b1, b2, b3] ++ post)) := by
  unfold crc
  intro h
  have h' : crcFrom 4294967295 (pre ++ ([x0, x1, x2, x3] ++ post)) = crcFrom 4294967295 (pre ++ ([b0, b1, b2, b3] ++ post)) := by
    have := congrArg (4294967295 ^^^ ·) h
    simpa [← Nat.xor_assoc] using this
  rw [crcFrom_append, crcFrom_append, crcFrom_append, crcFrom_append] at h'
  simp only [crcFrom, List.foldl_cons, List.foldl_nil, e0, e1, e2, e3] at h'
  rw [four_turned _ _ _ _ _ _ _ _ _ h0 h1 h2] at h'
  have := crcFrom_xor post
  simp only [crcFrom] at this
  rw [this] at h'
  refine xor_ne ?_ h'
  intro hz
  have l0 : d0 + 256 * (d1 + 256 * (d2 + 256 * d3)) < 4294967296 := by omega
  have l1 := stps_lt 8 l0
  have l2 := stps_lt 8 l1
  have l3 := stps_lt 8 l2
  have l4 := stps_lt 8 l3
  exact hn (stps_zero 8 l0 (stps_zero 8 l1 (stps_zero 8 l2 (stps_zero 8 l3 (stps_zero _ l4 hz)))))
/-- Texts that part in one byte have sums that part. -/
theorem crc_one (pre post : List UInt8) (b x : UInt8) (hn : x ≠ b) : crc (pre ++ (x :: post)) ≠ crc (pre ++ (b :: post)) := by
  unfold crc
  intro h
  have h' : crcFrom 4294967295 (pre ++ (x :: post)) = crcFrom 4294967295 (pre ++ (b :: post)) := by
    have := congrArg (4294967295 ^^^ ·) h
    simpa [← Nat.xor_assoc] using this
  rw [crcFrom_append, crcFrom_append] at h'
  have e : x.toNat = b.toNat ^^^ (b.toNat ^^^ x.toNat) := by rw [← Nat.xor_assoc, Nat.xor_self, Nat.zero_xor]
  have hd : b.toNat ^^^ x.toNat ≠ 0 := fun hz => hn (UInt8.toNat_inj.1 (xor_eq_zero hz).symm)
  have hl : b.toNat ^^^ x.toNat < 256 := Nat.xor_lt_two_pow (n := 8) b.toNat_lt x.toNat_lt
  have h2 : crcFrom (byt (crcFrom 4294967295 pre) x.toNat) post = crcFrom (byt (crcFrom 4294967295 pre) b.toNat) post := h'
  rw [e, byt_xor, crcFrom_xor] at h2
  refine xor_ne ?_ h2
  intro hz
  exact hd (stps_zero 8 (by omega) (stps_zero _ (stps_lt 8 (by omega)) hz))
end Go.Proofs.Ytjdgmbikaholoaa.Plain
