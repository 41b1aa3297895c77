/- What the two sums over a text come to: the plain sum of Crc. -/
import Derived.Test.YtjdgmbikaholoaaPAx1
import Derived.Test.YtjdgmbikaholoaaCrc
import Derived.Test.YtjdgmbikaholoaaBits
namespace Go.Proofs.Ytjdgmbikaholoaa.PA
open Go.RowKit Go.Proofs.YtjdgmbikaholoaaW.PrintWords Go.Proofs.YtjdgmbikaholoaaW.PrintLast Go.Proofs.Ytjdgmbikaholoaa.Plain

theorem w64 {i : Int} (h0 : 0 ≤ i) (h : i < 140737488360000) : wrap64 (i + 1) = i + 1 := by unfold wrap64; omega
theorem bt_lt (s : ByteArray) (i : Int) : ∃ b : Nat, bt s i = (b : Int) ∧ b < 256 := by
  obtain ⟨h0, h1⟩ := bt_range s i
  exact ⟨(bt s i).toNat, by omega, by omega⟩
theorem and_one {c : Nat} (hc : c < 4294967296) : Go.bits .and .u32 (c : Int) 1 = ((c % 2 : Nat) : Int) := by
  have h := and_u32 (b := 1) hc (by decide)
  rw [Nat.and_one_is_mod] at h
  exact h
theorem stp_some {c : Nat} (hc : c < 4294967296) : (Go.bits .and .u32 (c : Int) 1 = 1 → Go.bits .xor .u32 ((c : Int) / 2) 2197175160 = (stp c : Int)) ∧ (¬ Go.bits .and .u32 (c : Int) 1 = 1 → (c : Int) / 2 = (stp c : Int)) := by
  rw [and_one hc]
  constructor
  · intro h
    have h1 : c % 2 = 1 := by omega
    have h2 := xor_u32 (a := c / 2) (b := 2197175160) (by omega) (by decide)
    unfold stp; rw [if_pos h1]
    rw [← h2]; rfl
  · intro h
    have h1 : ¬ c % 2 = 1 := by omega
    unfold stp; rw [if_neg h1]; omega
theorem sum_inner (s : ByteArray) (n i : Int) (m : Nat) : ∀ (k : Nat) (c : Nat) (j : Int), c < 4294967296 → 0 ≤ j → j + m = 8 →
    seal_Sum.l1 (k + m + 1) s c n i j = seal_Sum.l0 k s (stps m c) n (wrap64 (i + 1)) := by
  induction m with
  | zero => intro k c j hc h0 h; simp only [seal_Sum.l1, stps]; rw [if_neg (by omega)]
  | succ m ih =>
    intro k c j hc h0 h
    obtain ⟨h1, h2⟩ := stp_some hc
    have e : k + (m + 1) + 1 = (k + m + 1) + 1 := by omega
    rw [e]; simp only [seal_Sum.l1, stps]; rw [if_pos (by omega), w64 h0 (by omega)]
    by_cases hb : Go.bits .and .u32 (c : Int) 1 = 1
    · rw [if_pos hb, h1 hb]; exact ih k _ _ (stp_lt hc) (by omega) (by omega)
    · rw [if_neg hb, h2 hb]; exact ih k _ _ (stp_lt hc) (by omega) (by omega)
theorem not_u32 {c : Nat} (hc : c < 4294967296) : Go.bits .xor .u32 4294967295 (c : Int) = ((4294967295 ^^^ c : Nat) : Int) := xor_u32 (a := 4294967295) (by decide) hc
theorem xor_byte {c b : Nat} (hc : c < 4294967296) (hb : b < 256) : Go.bits .xor .u32 (c : Int) ((b : Int) % 4294967296) = ((c ^^^ b : Nat) : Int) := by
  have : (b : Int) % 4294967296 = (b : Int) := by omega
  rw [this]; exact xor_u32 hc (by omega)
theorem drop_bt (s : ByteArray) (i : Nat) (h : i < s.size) : ∃ b : UInt8, bt s i = ((b.toNat : Nat) : Int) ∧ s.data.toList.drop i = b :: s.data.toList.drop (i + 1) := by
  refine ⟨s[i], ?_, ?_⟩
  · unfold bt; simp [h]
  · rw [List.drop_eq_getElem_cons (by simpa using h)]; rfl
theorem sum_outer (s : ByteArray) (hn : s.size ≤ 140737488351232) (d : Nat) : ∀ (k c i : Nat), c < 4294967296 → i + d = s.size → 10 * d < k →
    seal_Sum.l0 k s c (s.size : Int) i = some ((4294967295 ^^^ crcFrom c (s.data.toList.drop i) : Nat) : Int) := by
  induction d with
  | zero =>
    intro k c i hc hi hk
    obtain ⟨k, rfl⟩ : ∃ m, k = m + 1 := ⟨k - 1, by omega⟩
    simp only [seal_Sum.l0]; rw [if_neg (by omega), not_u32 hc]
    rw [List.drop_eq_nil_of_le (by simp; omega)]; rfl
  | succ d ih =>
    intro k c i hc hi hk
    obtain ⟨k, rfl⟩ : ∃ m, k = (m + 8 + 1) + 1 := ⟨k - 10, by omega⟩
    obtain ⟨b, hb, hd⟩ := drop_bt s i (by omega)
    have hb2 := b.toNat_lt
    simp only [seal_Sum.l0]; rw [if_pos (by omega), if_pos (by omega), if_pos (by omega), hb, xor_byte hc (by omega)]
    rw [sum_inner s _ _ 8 k _ 0 (Nat.xor_lt_two_pow (n := 32) hc (by omega)) (by omega) (by omega), w64 (by omega) (by omega)]
    have := ih k (stps 8 (c ^^^ b.toNat)) (i + 1) (byt_lt hc (by omega)) (by omega) (by omega)
    rw [show ((i : Int) + 1) = ((i + 1 : Nat) : Int) by omega, this, hd]; rfl
/-- The program's sum over a text is the plain sum. -/
theorem sum_is (s : ByteArray) (hn : s.size ≤ 140737488351232) (k : Nat) (hk : 10 * s.size < k) : seal_Sum.f k s = some ((crc s.data.toList : Nat) : Int) := by
  unfold seal_Sum.f
  have := sum_outer s hn s.size k 4294967295 0 (by decide) (by omega) hk
  rw [List.drop_zero] at this
  exact this
theorem ref_inner (s : ByteArray) (i : Int) (m : Nat) : ∀ (k : Nat) (c : Nat) (j : Int), c < 4294967296 → 0 ≤ j → j + m = 8 →
    falseworkref4_Sum.l1 (k + m + 1) s c i j = falseworkref4_Sum.l0 k s (stps m c) (wrap64 (i + 1)) := by
  induction m with
  | zero => intro k c j hc h0 h; simp only [falseworkref4_Sum.l1, stps]; rw [if_neg (by omega)]
  | succ m ih =>
    intro k c j hc h0 h
    obtain ⟨h1, h2⟩ := stp_some hc
    have e : k + (m + 1) + 1 = (k + m + 1) + 1 := by omega
    rw [e]; simp only [falseworkref4_Sum.l1, stps]; rw [if_pos (by omega), w64 h0 (by omega)]
    by_cases hb : Go.bits .and .u32 (c : Int) 1 = 1
    · rw [if_pos hb, h1 hb]; exact ih k _ _ (stp_lt hc) (by omega) (by omega)
    · rw [if_neg hb, h2 hb]; exact ih k _ _ (stp_lt hc) (by omega) (by omega)
theorem ref_outer (s : ByteArray) (hn : s.size ≤ 140737488351232) (d : Nat) : ∀ (k c i : Nat), c < 4294967296 → i + d = s.size → 10 * d < k →
    falseworkref4_Sum.l0 k s c i = some ((4294967295 ^^^ crcFrom c (s.data.toList.drop i) : Nat) : Int) := by
  induction d with
  | zero =>
    intro k c i hc hi hk
    obtain ⟨k, rfl⟩ : ∃ m, k = m + 1 := ⟨k - 1, by omega⟩
    simp only [falseworkref4_Sum.l0]; rw [if_neg (by omega), not_u32 hc]
    rw [List.drop_eq_nil_of_le (by simp; omega)]; rfl
  | succ d ih =>
    intro k c i hc hi hk
    obtain ⟨k, rfl⟩ : ∃ m, k = (m + 8 + 1) + 1 := ⟨k - 10, by omega⟩
    obtain ⟨b, hb, hd⟩ := drop_bt s i (by omega)
    have hb2 := b.toNat_lt
    simp only [falseworkref4_Sum.l0]; rw [if_pos (by omega), if_pos (by omega), hb, xor_byte hc (by omega)]
    rw [ref_inner s _ 8 k _ 0 (Nat.xor_lt_two_pow (n := 32) hc (by omega)) (by omega) (by omega), w64 (by omega) (by omega)]
    have := ih k (stps 8 (c ^^^ b.toNat)) (i + 1) (byt_lt hc (by omega)) (by omega) (by omega)
    rw [show ((i : Int) + 1) = ((i + 1 : Nat) : Int) by omega, this, hd]; rfl
/-- The document's sum over a text is the plain sum. -/
theorem ref_is (s : ByteArray) (hn : s.size ≤ 140737488351232) (k : Nat) (hk : 10 * s.size < k) : falseworkref4_Sum.f k s = some ((crc s.data.toList : Nat) : Int) := by
  unfold falseworkref4_Sum.f
  have := ref_outer s hn s.size k 4294967295 0 (by decide) (by omega) hk
  rw [List.drop_zero] at this
  exact this
/-- The document's examples. -/
theorem awake_true (k : Nat) (hk : 90 < k) : falseworklaw5_awake.f k = some true := by
  unfold falseworklaw5_awake.f
  rw [sum_is _ (by decide) k (by exact hk), sum_is _ (by decide) k (Nat.lt_of_le_of_lt (Nat.zero_le _) hk)]
  have e1 : crc (⟨#[49, 50, 51, 52, 53, 54, 55, 56, 57]⟩ : ByteArray).data.toList = 3808858755 := by decide +kernel
  have e2 : crc (⟨#[]⟩ : ByteArray).data.toList = 0 := by decide +kernel
  rw [e1, e2]; rfl
end Go.Proofs.Ytjdgmbikaholoaa.PA
