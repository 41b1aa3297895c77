/- What Go's & | ^ do to whole numbers without a sign, as Lean's own operations on Nat. -/
import Derived.Laws.BitsLemmas
namespace Go.Proofs.Ytijdengicjjebaa.Plain

theorem wrap_u64 (n : Int) : IntKind.u64.wrap n = n % 18446744073709551616 := by simp [IntKind.wrap, IntKind.bits, IntKind.signed]
theorem bits_gen (k : IntKind) (hk : ∀ n : Int, 0 ≤ n → n < 2 ^ k.bits → k.wrap n = n) (a b : Nat) (ha : a < 2 ^ k.bits) (hb : b < 2 ^ k.bits) :
    Go.bits .xor k a b = ((a ^^^ b : Nat) : Int) ∧ Go.bits .and k a b = ((a &&& b : Nat) : Int) ∧ Go.bits .or k a b = ((a ||| b : Nat) : Int) ∧
      Go.bits .andNot k a b = ((a &&& (2 ^ k.bits - 1 - b) : Nat) : Int) := by
  have ha' : a % 2 ^ k.bits = a := Nat.mod_eq_of_lt ha
  have hb' : b % 2 ^ k.bits = b := Nat.mod_eq_of_lt hb
  have cast : ∀ n : Nat, n < 2 ^ k.bits → ((n : Nat) : Int) < 2 ^ k.bits := fun n h => by exact_mod_cast h
  refine ⟨?_, ?_, ?_, ?_⟩
  · simp only [Go.bits, BitVec.ofInt_natCast, BitVec.toNat_xor, BitVec.toNat_ofNat, ha', hb']
    exact hk _ (Int.natCast_nonneg _) (cast _ (Nat.xor_lt_two_pow ha hb))
  · simp only [Go.bits, BitVec.ofInt_natCast, BitVec.toNat_and, BitVec.toNat_ofNat, ha', hb']
    exact hk _ (Int.natCast_nonneg _) (cast _ (Nat.and_lt_two_pow _ hb))
  · simp only [Go.bits, BitVec.ofInt_natCast, BitVec.toNat_or, BitVec.toNat_ofNat, ha', hb']
    exact hk _ (Int.natCast_nonneg _) (cast _ (Nat.or_lt_two_pow ha hb))
  · simp only [Go.bits, BitVec.ofInt_natCast, BitVec.toNat_and, BitVec.toNat_not, BitVec.toNat_ofNat, ha', hb']
    have hp := Nat.two_pow_pos k.bits
    exact hk _ (Int.natCast_nonneg _) (cast _ (Nat.and_lt_two_pow _ (by omega)))
theorem k_u32 (n : Int) (h0 : 0 ≤ n) (h : n < 2 ^ IntKind.u32.bits) : IntKind.u32.wrap n = n := by
  have h : n < 4294967296 := h
  rw [IntKind.wrap_u32]; omega
theorem k_u64 (n : Int) (h0 : 0 ≤ n) (h : n < 2 ^ IntKind.u64.bits) : IntKind.u64.wrap n = n := by
  have h : n < 18446744073709551616 := h
  rw [wrap_u64]; omega
theorem k_u8 (n : Int) (h0 : 0 ≤ n) (h : n < 2 ^ IntKind.u8.bits) : IntKind.u8.wrap n = n := by
  have h : n < 256 := h
  rw [IntKind.wrap_u8]; omega
section
variable {a b : Nat}
theorem xor_u32 (ha : a < 4294967296) (hb : b < 4294967296) : Go.bits .xor .u32 (a : Int) (b : Int) = ((a ^^^ b : Nat) : Int) := (bits_gen .u32 k_u32 a b ha hb).1
theorem and_u32 (ha : a < 4294967296) (hb : b < 4294967296) : Go.bits .and .u32 (a : Int) (b : Int) = ((a &&& b : Nat) : Int) := (bits_gen .u32 k_u32 a b ha hb).2.1
theorem xor_u64 (ha : a < 18446744073709551616) (hb : b < 18446744073709551616) : Go.bits .xor .u64 (a : Int) (b : Int) = ((a ^^^ b : Nat) : Int) := (bits_gen .u64 k_u64 a b ha hb).1
theorem and_u64 (ha : a < 18446744073709551616) (hb : b < 18446744073709551616) : Go.bits .and .u64 (a : Int) (b : Int) = ((a &&& b : Nat) : Int) := (bits_gen .u64 k_u64 a b ha hb).2.1
theorem or_u64 (ha : a < 18446744073709551616) (hb : b < 18446744073709551616) : Go.bits .or .u64 (a : Int) (b : Int) = ((a ||| b : Nat) : Int) := (bits_gen .u64 k_u64 a b ha hb).2.2.1
theorem andNot_u64 (ha : a < 18446744073709551616) (hb : b < 18446744073709551616) : Go.bits .andNot .u64 (a : Int) (b : Int) = ((a &&& (18446744073709551615 - b) : Nat) : Int) := (bits_gen .u64 k_u64 a b ha hb).2.2.2
theorem xor_u8 (ha : a < 256) (hb : b < 256) : Go.bits .xor .u8 (a : Int) (b : Int) = ((a ^^^ b : Nat) : Int) := (bits_gen .u8 k_u8 a b ha hb).1
end
end Go.Proofs.Ytijdengicjjebaa.Plain
