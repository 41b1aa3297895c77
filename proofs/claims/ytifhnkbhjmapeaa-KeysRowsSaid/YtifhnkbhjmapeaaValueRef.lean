/- The document's bytes of values; the document's examples. -/
import Derived.Test.YtifhnkbhjmapeaaPAx6
import Derived.Test.YtifhnkbhjmapeaaPAx8
import Derived.Test.YtifhnkbhjmapeaaValuePut
namespace Go.Proofs.Ytifhnkbhjmapeaa.PA
open Go.RowKit Go.Proofs.YtifhnkbhjmapeaaW.PrintWords Go.Proofs.YtifhnkbhjmapeaaW.PrintLast Go.Proofs.Ytifhnkbhjmapeaa.Plain

theorem ref_eight_is (u : Nat) (k : Nat) (hk : 9 ≤ k) : falseworkref2_eight.f k (u : Int) = some (txt (be8 u)) := by
  obtain ⟨k, rfl⟩ : ∃ m, k = m + 9 := ⟨k - 9, by omega⟩
  unfold falseworkref2_eight.f
  rw [if_pos (by decide)]
  have step : ∀ (i m x : Nat) (l : List Int), i ≤ 7 → l.length = 8 → falseworkref2_eight.l0 (m + 1) (x : Int) l (i : Int) = falseworkref2_eight.l0 m ((x / 256 : Nat) : Int) (l.set i ((x : Int) % 256)) ((i : Int) - 1) := by
    intro i m x l hi hl
    simp only [falseworkref2_eight.l0]
    rw [if_pos (by omega), if_pos (by omega), if_pos (by omega), Int.toNat_natCast]
    rw [show ((x : Int) / 256) = ((x / 256 : Nat) : Int) by omega, show wrap64 ((i : Int) - 1) = (i : Int) - 1 by unfold wrap64; omega]
  have hr : (List.replicate 8 (0 : Int)) = [0, 0, 0, 0, 0, 0, 0, 0] := rfl
  rw [hr]
  show falseworkref2_eight.l0 (k + 9) (u : Int) [0, 0, 0, 0, 0, 0, 0, 0] ((7 : Nat) : Int) = _
  rw [step 7 (k + 8) _ _ (by decide) rfl]
  show falseworkref2_eight.l0 (k + 8) _ _ ((6 : Nat) : Int) = _
  rw [step 6 (k + 7) _ _ (by decide) rfl]
  show falseworkref2_eight.l0 (k + 7) _ _ ((5 : Nat) : Int) = _
  rw [step 5 (k + 6) _ _ (by decide) rfl]
  show falseworkref2_eight.l0 (k + 6) _ _ ((4 : Nat) : Int) = _
  rw [step 4 (k + 5) _ _ (by decide) rfl]
  show falseworkref2_eight.l0 (k + 5) _ _ ((3 : Nat) : Int) = _
  rw [step 3 (k + 4) _ _ (by decide) rfl]
  show falseworkref2_eight.l0 (k + 4) _ _ ((2 : Nat) : Int) = _
  rw [step 2 (k + 3) _ _ (by decide) rfl]
  show falseworkref2_eight.l0 (k + 3) _ _ ((1 : Nat) : Int) = _
  rw [step 1 (k + 2) _ _ (by decide) rfl]
  show falseworkref2_eight.l0 (k + 2) _ _ ((0 : Nat) : Int) = _
  rw [step 0 (k + 1) _ _ (by decide) rfl]
  simp only [falseworkref2_eight.l0]
  rw [if_neg (by omega)]
  have e : [(u : Int) / 72057594037927936 % 256, (u : Int) / 281474976710656 % 256, (u : Int) / 1099511627776 % 256, (u : Int) / 4294967296 % 256, (u : Int) / 16777216 % 256, (u : Int) / 65536 % 256, (u : Int) / 256 % 256, (u : Int) % 256] = bytesI (be8 u) := (bytesI_be8 u).symm
  have e2 : ((((((((([0, 0, 0, 0, 0, 0, 0, 0] : List Int).set 7 ((u : Int) % 256)).set 6 (((u / 256 : Nat) : Int) % 256)).set 5 (((u / 256 / 256 : Nat) : Int) % 256)).set 4 (((u / 256 / 256 / 256 : Nat) : Int) % 256)).set 3 (((u / 256 / 256 / 256 / 256 : Nat) : Int) % 256)).set 2 (((u / 256 / 256 / 256 / 256 / 256 : Nat) : Int) % 256)).set 1 (((u / 256 / 256 / 256 / 256 / 256 / 256 : Nat) : Int) % 256)).set 0 (((u / 256 / 256 / 256 / 256 / 256 / 256 / 256 : Nat) : Int) % 256)) = bytesI (be8 u) := by
    rw [← e]
    simp only [List.set_cons_zero, List.set_cons_succ, Nat.div_div_eq_div_mul, Int.natCast_ediv]
    rfl
  rw [e2, str_bytesI]; rfl
theorem ref_esc_from (a b c : Int) (s : ByteArray) (hs : s.size ≤ 1000000) (d : Nat) : ∀ (k i : Nat) (acc : List UInt8), i + d = s.size → d < k → acc.length ≤ 10 + 2 * i →
    falseworkref2_Put.l0 k (bytesI acc) (i : Int) a b c s = some (txt (acc ++ (esc (s.data.toList.drop i) ++ [0, 1])), 0) := by
  induction d with
  | zero =>
    intro k i acc hi hk hl
    obtain ⟨k, rfl⟩ : ∃ m, k = m + 1 := ⟨k - 1, by omega⟩
    simp only [falseworkref2_Put.l0, Option.bind_some]
    rw [if_neg (by omega), if_pos (by rw [bytesI_length]; show acc.length + 2 < _; omega), List.drop_eq_nil_of_le (by rw [← size_data]; omega)]
    have e : bytesI acc ++ ([0, 1] : List Int) = bytesI (acc ++ [0, 1]) := by rw [bytesI_append]; rfl
    rw [e, str_bytesI]; rfl
  | succ d ih =>
    intro k i acc hi hk hl
    obtain ⟨k, rfl⟩ : ∃ m, k = m + 1 := ⟨k - 1, by omega⟩
    obtain ⟨x, hb, hd⟩ := bt_data s i (by omega)
    have hw : wrap64 ((i : Int) + 1) = ((i + 1 : Nat) : Int) := by unfold wrap64; omega
    simp only [falseworkref2_Put.l0, Option.bind_some]
    rw [if_pos (by omega), if_pos (by omega), if_pos (by rw [bytesI_length]; omega), hb, hw, hd]
    have e1 : bytesI acc ++ [((x.toNat : Nat) : Int)] = bytesI (acc ++ [x]) := by rw [bytesI_append]; rfl
    rw [e1]
    simp only [esc]
    by_cases h0 : x = 0
    · rw [if_pos ((byte_zero x).2 h0), if_pos (by rw [bytesI_length, List.length_append]; show acc.length + 1 < _; omega), if_pos h0]
      have e2 : bytesI (acc ++ [x]) ++ [255] = bytesI (acc ++ [x] ++ [255]) := by rw [bytesI_append (acc ++ [x])]; rfl
      rw [e2, ih k (i + 1) _ (by omega) (by omega) (by simp; omega), h0]
      simp
    · rw [if_neg (fun h => h0 ((byte_zero x).1 h)), if_neg h0, ih k (i + 1) _ (by omega) (by omega) (by simp; omega)]
      simp
/-- What the document's Put comes to. -/
theorem ref_put_is {k n : Int} {f : Nat} (hn : (Lit.int .i64 n).wf = true) (hf : f < 18446744073709551616) (s : ByteArray) (K : Nat) (hK : 50 ≤ K) :
    falseworkref2_Put.f K k n (f : Int) s = some (txt (putV k n f s.data.toList).1, (putV k n f s.data.toList).2) := by
  obtain ⟨n0, n1⟩ := i64_bounds hn
  unfold falseworkref2_Put.f putV
  rw [ref_may_is k n hf s, Option.bind_some]
  by_cases hm : mayB k n f s.data.toList = true
  · rw [if_pos hm, if_pos hm]
    unfold encV
    by_cases h0 : k = 0
    · rw [if_pos h0, if_pos h0]; rfl
    rw [if_neg h0, if_neg h0]
    by_cases h1 : k = 1
    · rw [if_pos h1, if_pos h1]
      by_cases hn0 : n = 0
      · rw [if_pos hn0, if_pos hn0]; rfl
      · rw [if_neg hn0, if_neg hn0]; rfl
    rw [if_neg h1, if_neg h1]
    by_cases h2 : k = 2
    · rw [if_pos h2, if_pos h2, biased_is n0 n1, ref_eight_is _ K (by omega)]
      simp only [Option.bind_some]
      rw [if_pos (by rw [txt_size]; show 1 + 8 ≤ _; omega)]
      show some (txt [4] ++ txt (be8 (biased n)), (0 : Int)) = _
      rw [txt_append]; rfl
    rw [if_neg h2, if_neg h2]
    by_cases h3 : k = 3
    · rw [if_pos h3, if_pos h3, ref_order_is hf]
      simp only [Option.bind_some]
      rw [ref_eight_is _ K (by omega)]
      simp only [Option.bind_some]
      rw [if_pos (by rw [txt_size]; show 1 + 8 ≤ _; omega)]
      show some (txt [5] ++ txt (be8 (ordr f)), (0 : Int)) = _
      rw [txt_append]; rfl
    rw [if_neg h3, if_neg h3]
    have hl : s.size ≤ 40 ∧ (k = 4 ∨ k = 5) := by
      rw [size_data]
      unfold mayB at hm
      rw [if_neg h0, if_neg h1, if_neg h2, if_neg h3] at hm
      by_cases h4 : k = 4
      · rw [if_pos h4] at hm; simp at hm; exact ⟨by simpa using hm.2.2, .inl h4⟩
      · rw [if_neg h4] at hm
        by_cases h5 : k = 5
        · rw [if_pos h5] at hm; simp at hm; exact ⟨by simpa using hm.2.2, .inr h5⟩
        · rw [if_neg h5] at hm; cases hm
    by_cases h4 : k = 4
    · rw [if_pos h4, h4]
      have := ref_esc_from 4 n f s (by omega) s.size K 0 [6] (by omega) (by omega) (by show 1 ≤ _; omega)
      rw [List.drop_zero] at this
      rw [show wrap64 ((4 : Int) + 2) % 256 = 6 by unfold wrap64; omega]
      exact this
    · rw [if_neg h4, show k = 5 by omega]
      have := ref_esc_from 5 n f s (by omega) s.size K 0 [7] (by omega) (by omega) (by show 1 ≤ _; omega)
      rw [List.drop_zero] at this
      rw [show wrap64 ((5 : Int) + 2) % 256 = 7 by unfold wrap64; omega]
      exact this
  · rw [if_neg hm, if_neg hm]; rfl
end Go.Proofs.Ytifhnkbhjmapeaa.PA
