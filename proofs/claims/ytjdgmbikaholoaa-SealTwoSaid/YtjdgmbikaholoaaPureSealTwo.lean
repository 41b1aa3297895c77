/- Two texts of one length that differ in some bits close together have unlike sums: for any text of at most 20000 bytes; of longer ones nothing is asked. -/
import Derived.Test.YtjdgmbikaholoaaPAx2
import Derived.Test.YtjdgmbikaholoaaSealTurn
namespace Go.Proofs.Ytjdgmbikaholoaa.Pure
open Go.RowKit Go.Proofs.Ytjdgmbikaholoaa.PA Go.Proofs.YtjdgmbikaholoaaW.PrintWords Go.Proofs.YtjdgmbikaholoaaW.PrintLast Go.Proofs.Ytjdgmbikaholoaa.Plain

theorem u32_bounds {n : Int} (hn : (Lit.int .u32 n).wf = true) : 0 ≤ n ∧ n ≤ 4294967295 := by
  have h1 : IntKind.u32.min ≤ n ∧ n ≤ IntKind.u32.max := by simpa [Lit.wf] using hn
  have h2 : IntKind.u32.min = 0 := by decide
  have h3 : IntKind.u32.max = 4294967295 := by decide
  rw [h2, h3] at h1
  exact h1
theorem mid_four (l : List UInt8) (m : Nat) (h : m + 4 ≤ l.length) : ∃ pre b0 b1 b2 b3 post, l = pre ++ ([b0, b1, b2, b3] ++ post) ∧ pre.length = m := by
  refine ⟨l.take m, l[m], l[m + 1], l[m + 2], l[m + 3], l.drop (m + 4), ?_, by rw [List.length_take]; omega⟩
  have e0 := List.drop_eq_getElem_cons (l := l) (i := m) (by omega)
  have e1 := List.drop_eq_getElem_cons (l := l) (i := m + 1) (by omega)
  have e2 := List.drop_eq_getElem_cons (l := l) (i := m + 1 + 1) (by omega)
  have e3 := List.drop_eq_getElem_cons (l := l) (i := m + 1 + 1 + 1) (by omega)
  have : l.take m ++ l.drop m = l := List.take_append_drop m l
  rw [e0, e1, e2, e3] at this
  exact this.symm
theorem SealTwo (s : ByteArray) (at_ bits : Int) (_ : s.size ≤ maxLen) (_ : (Lit.int .i64 at_).wf = true) (h2 : (Lit.int .u32 bits).wf = true) : ∃ k, falseworklaw5_SealTwo.f k s at_ bits = some true := by
  obtain ⟨c0, c1⟩ := u32_bounds h2
  refine ⟨10 * s.size + 300, ?_⟩
  unfold falseworklaw5_SealTwo.f falseworklaw5_SealTwo.g
  rw [awake_true _ (by omega)]
  by_cases h4 : (s.size : Int) < 4
  · rw [if_pos h4]
  by_cases h : (s.size : Int) > 20000
  · rw [if_neg h4, if_pos h]
  by_cases hz : bits = 0
  · rw [if_neg h4, if_neg h, if_pos hz]
  rw [if_neg h4, if_neg h, if_neg hz, if_pos c0, if_pos c1]
  have hm0 := Int.emod_nonneg (at_ % 18446744073709551616) (show (s.size : Int) - 3 ≠ 0 by omega)
  have hm1 := Int.emod_lt_of_pos (at_ % 18446744073709551616) (show 0 < (s.size : Int) - 3 by omega)
  generalize (at_ % 18446744073709551616) % ((s.size : Int) - 3) = q at *
  obtain ⟨m, rfl⟩ : ∃ m : Nat, q = (m : Int) := ⟨q.toNat, by omega⟩
  have hlen : s.data.toList.length = s.size := by rw [Array.length_toList]; rfl
  obtain ⟨pre, b0, b1, b2, b3, post, hl, hp⟩ := mid_four s.data.toList m (by omega)
  obtain ⟨n, rfl⟩ : ∃ n : Nat, bits = (n : Int) := ⟨bits.toNat, by omega⟩
  have l0 := b0.toNat_lt
  have l1 := b1.toNat_lt
  have l2 := b2.toNat_lt
  have l3 := b3.toNat_lt
  have hrow : falseworklaw5_SealTwo.row (bytesOf s) (m : Int) (n : Int) 4 = (pre ++ ([UInt8.ofNat (b0.toNat ^^^ (n % 256)), UInt8.ofNat (b1.toNat ^^^ (n / 256 % 256)), UInt8.ofNat (b2.toNat ^^^ (n / 65536 % 256)), UInt8.ofNat (b3.toNat ^^^ (n / 16777216))] ++ post)).map fun b => (b.toNat : Int) := by
    have hb : bytesOf s = pre.map (fun b => (b.toNat : Int)) ++ (b0.toNat : Int) :: (b1.toNat : Int) :: (b2.toNat : Int) :: (b3.toNat : Int) :: post.map (fun b => (b.toNat : Int)) := by
      unfold bytesOf
      rw [hl]; simp
    have e0 : (n : Int) % 256 = ((n % 256 : Nat) : Int) := by omega
    have e1 : (n : Int) / 256 % 256 = ((n / 256 % 256 : Nat) : Int) := by omega
    have e2 : (n : Int) / 65536 % 256 = ((n / 65536 % 256 : Nat) : Int) := by omega
    have e3 : (n : Int) / 16777216 = ((n / 16777216 : Nat) : Int) := by omega
    have x0 : b0.toNat ^^^ (n % 256) < 256 := Nat.xor_lt_two_pow (n := 8) l0 (by omega)
    have x1 : b1.toNat ^^^ (n / 256 % 256) < 256 := Nat.xor_lt_two_pow (n := 8) l1 (by omega)
    have x2 : b2.toNat ^^^ (n / 65536 % 256) < 256 := Nat.xor_lt_two_pow (n := 8) l2 (by omega)
    have x3 : b3.toNat ^^^ (n / 16777216) < 256 := Nat.xor_lt_two_pow (n := 8) l3 (by omega)
    rw [hb, row_mid _ _ _ _ _ _ _ _ (by rw [List.length_map, hp]), e0, e1, e2, e3, xor_byte8 l0 (by omega), xor_byte8 l1 (by omega), xor_byte8 l2 (by omega), xor_byte8 l3 (by omega)]
    simp only [List.map_append, List.map_cons, UInt8.toNat_ofNat', List.cons_append, List.nil_append]
    rw [Nat.mod_eq_of_lt (a := b0.toNat ^^^ (n % 256)) x0, Nat.mod_eq_of_lt (a := b1.toNat ^^^ (n / 256 % 256)) x1, Nat.mod_eq_of_lt (a := b2.toNat ^^^ (n / 65536 % 256)) x2, Nat.mod_eq_of_lt (a := b3.toNat ^^^ (n / 16777216)) x3]
  have hS : (strOfNums (falseworklaw5_SealTwo.row (bytesOf s) (m : Int) (n : Int) 4)).data.toList = pre ++ ([UInt8.ofNat (b0.toNat ^^^ (n % 256)), UInt8.ofNat (b1.toNat ^^^ (n / 256 % 256)), UInt8.ofNat (b2.toNat ^^^ (n / 65536 % 256)), UInt8.ofNat (b3.toNat ^^^ (n / 16777216))] ++ post) := by
    rw [hrow, str_data, bytes_back]
  generalize strOfNums (falseworklaw5_SealTwo.row (bytesOf s) (m : Int) (n : Int) 4) = S at *
  have hSz : S.size = s.size := by
    have e : S.data.toList.length = S.size := by rw [Array.length_toList]; rfl
    rw [hS] at e
    rw [hl] at hlen
    simp at e hlen
    omega
  rw [sum_is S (by omega) _ (by omega), Option.bind_some, sum_is s (by omega) _ (by omega), Option.bind_some]
  have x0 : b0.toNat ^^^ (n % 256) < 256 := Nat.xor_lt_two_pow (n := 8) l0 (by omega)
  have x1 : b1.toNat ^^^ (n / 256 % 256) < 256 := Nat.xor_lt_two_pow (n := 8) l1 (by omega)
  have x2 : b2.toNat ^^^ (n / 65536 % 256) < 256 := Nat.xor_lt_two_pow (n := 8) l2 (by omega)
  have x3 : b3.toNat ^^^ (n / 16777216) < 256 := Nat.xor_lt_two_pow (n := 8) l3 (by omega)
  have hne := crc_four pre post b0 b1 b2 b3 (UInt8.ofNat (b0.toNat ^^^ (n % 256))) (UInt8.ofNat (b1.toNat ^^^ (n / 256 % 256))) (UInt8.ofNat (b2.toNat ^^^ (n / 65536 % 256))) (UInt8.ofNat (b3.toNat ^^^ (n / 16777216))) (n % 256) (n / 256 % 256) (n / 65536 % 256) (n / 16777216) (by omega) (by omega) (by omega) (by omega) (by omega)
    (by rw [UInt8.toNat_ofNat', Nat.mod_eq_of_lt x0]) (by rw [UInt8.toNat_ofNat', Nat.mod_eq_of_lt x1]) (by rw [UInt8.toNat_ofNat', Nat.mod_eq_of_lt x2]) (by rw [UInt8.toNat_ofNat', Nat.mod_eq_of_lt x3])
  rw [← hS, ← hl] at hne
  rw [if_neg (by omega)]
end Go.Proofs.Ytjdgmbikaholoaa.Pure
