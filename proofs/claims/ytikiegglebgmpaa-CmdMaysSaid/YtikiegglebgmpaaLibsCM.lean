/- What the functions of layer 1 come to on words of 64 bits: the one form, the place, the way back, the order. -/
import Derived.Test.YtikiegglebgmpaaCMx0
import Derived.Test.YtikiegglebgmpaaCMx2
import Derived.Test.YtikiegglebgmpaaCMx3
import Derived.Test.YtikiegglebgmpaaCMx7
import Derived.Test.YtikiegglebgmpaaCMx11
import Derived.Test.YtikiegglebgmpaaPlainC
namespace Go.Proofs.Ytikiegglebgmpaa.PA
open Go.RowKit Go.Proofs.YtikiegglebgmpaaW.PrintWords Go.Proofs.YtikiegglebgmpaaW.PrintLast Go.Proofs.Ytikiegglebgmpaa.Plain

theorem u64_nat {a : Int} (h : (Lit.int .u64 a).wf = true) : ∃ x : Nat, a = (x : Int) ∧ x < 18446744073709551616 := by
  have h1 : IntKind.u64.min ≤ a ∧ a ≤ IntKind.u64.max := by simpa [Lit.wf] using h
  have h2 : IntKind.u64.min = 0 := by decide
  have h3 : IntKind.u64.max = 18446744073709551615 := by decide
  rw [h2, h3] at h1
  exact ⟨a.toNat, by omega, by omega⟩
theorem flo_canon_is {x : Nat} (h : x < 18446744073709551616) : flo_Canon.f (x : Int) = some ((canon x : Nat) : Int) := by
  unfold flo_Canon.f fcmp canon
  rw [Int.toNat_natCast, show Int.toNat 0 = 0 from rfl, nan_test]
  by_cases h1 : 9218868437227405312 < x % 9223372036854775808
  · rw [if_pos (decide_eq_true h1), if_pos h1]; rfl
  · rw [if_neg (by simp [h1]), if_neg h1, zero_test x h1]
    by_cases h2 : x % 9223372036854775808 = 0
    · rw [if_pos (decide_eq_true h2)]
      by_cases h3 : x = 9223372036854775808
      · rw [if_pos h3]; rfl
      · rw [if_neg h3]
        have : x = 0 := by omega
        rw [this]; rfl
    · rw [if_neg (by simp [h2]), if_neg (by omega)]
/-- Which of two numbers is below. -/
def cmpN (a b : Nat) : Int := if a < b then -1 else if b < a then 1 else 0
theorem ref_canon_is {x : Nat} (h : x < 18446744073709551616) : falseworkref1_Canon.f (x : Int) = some ((canon x : Nat) : Int) := by
  unfold falseworkref1_Canon.f canon
  rw [andNot_top h]
  by_cases h1 : 9218868437227405312 < x % 9223372036854775808
  · rw [if_pos (by omega), if_pos h1]; rfl
  · rw [if_neg (by omega), if_neg h1]
    by_cases h3 : x = 9223372036854775808
    · rw [if_pos (by omega), if_pos h3]; rfl
    · rw [if_neg (by omega), if_neg h3]
end Go.Proofs.Ytikiegglebgmpaa.PA
/- Which values may be: what the program's and the document's functions come to. -/
namespace Go.Proofs.Ytikiegglebgmpaa.PA
open Go.RowKit Go.Proofs.YtikiegglebgmpaaW.PrintWords Go.Proofs.YtikiegglebgmpaaW.PrintLast Go.Proofs.Ytikiegglebgmpaa.Plain

theorem toList_data (s : ByteArray) : s.toList = s.data.toList := ByteArray.toList_eq s
theorem size_data (s : ByteArray) : s.size = s.data.toList.length := by rw [Array.length_toList]; rfl
theorem dec_beq (a b : Int) : (a == b) = decide (a = b) := by
  by_cases h : a = b
  · rw [h, decide_eq_true rfl]; simp
  · rw [decide_eq_false h]; simpa using h
theorem dec_cast (f : Nat) : decide ((f : Int) = 0) = decide (f = 0) := by
  by_cases h : f = 0
  · rw [h]; rfl
  · rw [decide_eq_false h, decide_eq_false (by omega)]
theorem isE (l : List UInt8) : (l == ([] : List UInt8)) = l.isEmpty := by cases l <;> rfl
theorem value_may_is (k n : Int) {f : Nat} (hf : f < 18446744073709551616) (s : ByteArray) : value_May.f k n (f : Int) s = some (mayB k n f s.data.toList) := by
  unfold value_May.f mayB
  rw [toList_data, size_data]
  by_cases h0 : k = 0
  · rw [if_pos h0, if_pos h0, dec_beq, dec_beq, dec_cast]
  rw [if_neg h0, if_neg h0]
  by_cases h1 : k = 1
  · rw [if_pos h1, if_pos h1, dec_beq, dec_cast]
    by_cases n0 : n = 0
    · rw [if_pos n0, n0]; rfl
    · rw [if_neg n0]
      by_cases n1 : n = 1
      · rw [if_pos n1, n1]; rfl
      · rw [if_neg n1, decide_eq_false n0, decide_eq_false n1]; rfl
  rw [if_neg h1, if_neg h1]
  by_cases h2 : k = 2
  · rw [if_pos h2, if_pos h2, dec_beq, dec_cast]
  rw [if_neg h2, if_neg h2]
  by_cases h3 : k = 3
  · rw [if_pos h3, if_pos h3, flo_canon_is hf, Option.bind_some, dec_beq]
    by_cases hc : canon f = f
    · rw [if_pos (by omega), decide_eq_true hc, Bool.true_and]
    · rw [if_neg (by omega), decide_eq_false hc, Bool.false_and, Bool.and_false]
  rw [if_neg h3, if_neg h3]
  have key : (if ((s.data.toList.length : Nat) : Int) > 40 then some false else some (n == 0 && (f : Int) == 0)) = some (decide (n = 0) && (decide (f = 0) && decide (s.data.toList.length ≤ 40))) := by
    rw [dec_beq, dec_beq, dec_cast]
    by_cases hl : s.data.toList.length ≤ 40
    · rw [if_neg (by omega), decide_eq_true hl, Bool.and_true]
    · rw [if_pos (by omega), decide_eq_false hl, Bool.and_false, Bool.and_false]
  by_cases h4 : k = 4
  · rw [if_pos h4, if_pos h4, key]
  rw [if_neg h4, if_neg h4]
  by_cases h5 : k = 5
  · rw [if_pos h5, if_pos h5, key]
  rw [if_neg h5, if_neg h5]
theorem ref_may_is (k n : Int) {f : Nat} (hf : f < 18446744073709551616) (s : ByteArray) : falseworkref2_May.f k n (f : Int) s = some (mayB k n f s.data.toList) := by
  unfold falseworkref2_May.f mayB
  rw [toList_data, size_data, isE]
  have c0 : ((f : Int) = 0) = (f = 0) := by apply propext; omega
  have kE : (if s.data.toList = ([] : List UInt8) then True else False) = (s.data.toList.isEmpty = true) := by
    cases s.data.toList <;> simp
  by_cases h0 : k = 0
  · rw [if_pos h0, if_pos h0]
    by_cases hn : n = 0 <;> by_cases hz : f = 0 <;> simp [hn, hz]
  rw [if_neg h0, if_neg h0]
  by_cases h1 : k = 1
  · rw [if_pos h1, if_pos h1]
    by_cases hn : n = 0
    · by_cases hz : f = 0 <;> simp [hn, hz]
    · by_cases hn1 : n = 1 <;> by_cases hz : f = 0 <;> simp [hn, hn1, hz]
  rw [if_neg h1, if_neg h1]
  by_cases h2 : k = 2
  · rw [if_pos h2, if_pos h2]
    by_cases hz : f = 0 <;> simp [hz]
  rw [if_neg h2, if_neg h2]
  by_cases h3 : k = 3
  · rw [if_pos h3, if_pos h3, ref_canon_is hf, Option.bind_some, dec_beq]
    have hcd : decide (((canon f : Nat) : Int) = (f : Int)) = decide (canon f = f) := by
      by_cases hc : canon f = f
      · rw [decide_eq_true hc, decide_eq_true (by omega)]
      · rw [decide_eq_false hc, decide_eq_false (by omega)]
    rw [hcd]
    by_cases hn : n = 0
    · rw [if_pos hn, decide_eq_true hn, Bool.true_and]
      cases hl : s.data.toList with
      | nil => rw [if_pos rfl]; simp
      | cons a r => rw [if_neg (by simp)]; simp
    · rw [if_neg hn, decide_eq_false hn, Bool.false_and]
  rw [if_neg h3, if_neg h3]
  have key : (if n = 0 then (if (f : Int) = 0 then some (decide (((s.data.toList.length : Nat) : Int) ≤ 40)) else some false) else some false) = some (decide (n = 0) && (decide (f = 0) && decide (s.data.toList.length ≤ 40))) := by
    have hl : decide (((s.data.toList.length : Nat) : Int) ≤ 40) = decide (s.data.toList.length ≤ 40) := by
      by_cases h : s.data.toList.length ≤ 40
      · rw [decide_eq_true h, decide_eq_true (by omega)]
      · rw [decide_eq_false h, decide_eq_false (by omega)]
    rw [hl]
    by_cases hn : n = 0 <;> by_cases hz : f = 0 <;> simp [hn, hz]
  by_cases h4 : k = 4
  · rw [if_pos h4, if_pos h4, key]
  rw [if_neg h4, if_neg h4]
  by_cases h5 : k = 5
  · rw [if_pos h5, if_pos h5, key]
  rw [if_neg h5, if_neg h5]
end Go.Proofs.Ytikiegglebgmpaa.PA
/- What the two sums over a text come to: the plain sum of Crc. -/
namespace Go.Proofs.Ytikiegglebgmpaa.PA
open Go.RowKit Go.Proofs.YtikiegglebgmpaaW.PrintWords Go.Proofs.YtikiegglebgmpaaW.PrintLast Go.Proofs.Ytikiegglebgmpaa.Plain

theorem w64 {i : Int} (h0 : 0 ≤ i) (h : i < 140737488360000) : wrap64 (i + 1) = i + 1 := by unfold wrap64; omega
theorem bt_lt (s : ByteArray) (i : Int) : ∃ b : Nat, bt s i = (b : Int) ∧ b < 256 := by
  obtain ⟨h0, h1⟩ := bt_range s i
  exact ⟨(bt s i).toNat, by omega, by omega⟩
theorem and_one {c : Nat} (hc : c < 4294967296) : Go.bits .and .u32 (c : Int) 1 = ((c % 2 : Nat) : Int) := by
  have h := and_u32 (b := 1) hc (by decide)
  rw [Nat.and_one_is_mod] at h
  exact h
theorem stp_some {c : Nat} (hc : c < 4294967296) : (Go.bits .and .u32 (c : Int) 1 = 1 → Go.bits .xor .u32 ((c : Int) / 2) 2197175160 = (stp c : Int)) ∧ (¬ Go.bits .and .u32 (c : Int) 1 = 1 → (c : Int) / 2 = (stp c : Int)) := by
  rw [and_one hc]
  constructor
  · intro h
    have h1 : c % 2 = 1 := by omega
    have h2 := xor_u32 (a := c / 2) (b := 2197175160) (by omega) (by decide)
    unfold stp; rw [if_pos h1]
    rw [← h2]; rfl
  · intro h
    have h1 : ¬ c % 2 = 1 := by omega
    unfold stp; rw [if_neg h1]; omega
theorem sum_inner (s : ByteArray) (n i : Int) (m : Nat) : ∀ (k : Nat) (c : Nat) (j : Int), c < 4294967296 → 0 ≤ j → j + m = 8 →
    seal_Sum.l1 (k + m + 1) s c n i j = seal_Sum.l0 k s (stps m c) n (wrap64 (i + 1)) := by
  induction m with
  | zero => intro k c j hc h0 h; simp only [seal_Sum.l1, stps]; rw [if_neg (by omega)]
  | succ m ih =>
    intro k c j hc h0 h
    obtain ⟨h1, h2⟩ := stp_some hc
    have e : k + (m + 1) + 1 = (k + m + 1) + 1 := by omega
    rw [e]; simp only [seal_Sum.l1, stps]; rw [if_pos (by omega), w64 h0 (by omega)]
    by_cases hb : Go.bits .and .u32 (c : Int) 1 = 1
    · rw [if_pos hb, h1 hb]; exact ih k _ _ (stp_lt hc) (by omega) (by omega)
    · rw [if_neg hb, h2 hb]; exact ih k _ _ (stp_lt hc) (by omega) (by omega)
theorem not_u32 {c : Nat} (hc : c < 4294967296) : Go.bits .xor .u32 4294967295 (c : Int) = ((4294967295 ^^^ c : Nat) : Int) := xor_u32 (a := 4294967295) (by decide) hc
theorem xor_byte {c b : Nat} (hc : c < 4294967296) (hb : b < 256) : Go.bits .xor .u32 (c : Int) ((b : Int) % 4294967296) = ((c ^^^ b : Nat) : Int) := by
  have : (b : Int) % 4294967296 = (b : Int) := by omega
  rw [this]; exact xor_u32 hc (by omega)
theorem drop_bt (s : ByteArray) (i : Nat) (h : i < s.size) : ∃ b : UInt8, bt s i = ((b.toNat : Nat) : Int) ∧ s.data.toList.drop i = b :: s.data.toList.drop (i + 1) := by
  refine ⟨s[i], ?_, ?_⟩
  · unfold bt; simp [h]
  · rw [List.drop_eq_getElem_cons (by simpa using h)]; rfl
theorem sum_outer (s : ByteArray) (hn : s.size ≤ 140737488351232) (d : Nat) : ∀ (k c i : Nat), c < 4294967296 → i + d = s.size → 10 * d < k →
    seal_Sum.l0 k s c (s.size : Int) i = some ((4294967295 ^^^ crcFrom c (s.data.toList.drop i) : Nat) : Int) := by
  induction d with
  | zero =>
    intro k c i hc hi hk
    obtain ⟨k, rfl⟩ : ∃ m, k = m + 1 := ⟨k - 1, by omega⟩
    simp only [seal_Sum.l0]; rw [if_neg (by omega), not_u32 hc]
    rw [List.drop_eq_nil_of_le (by simp; omega)]; rfl
  | succ d ih =>
    intro k c i hc hi hk
    obtain ⟨k, rfl⟩ : ∃ m, k = (m + 8 + 1) + 1 := ⟨k - 10, by omega⟩
    obtain ⟨b, hb, hd⟩ := drop_bt s i (by omega)
    have hb2 := b.toNat_lt
    simp only [seal_Sum.l0]; rw [if_pos (by omega), if_pos (by omega), if_pos (by omega), hb, xor_byte hc (by omega)]
    rw [sum_inner s _ _ 8 k _ 0 (Nat.xor_lt_two_pow (n := 32) hc (by omega)) (by omega) (by omega), w64 (by omega) (by omega)]
    have := ih k (stps 8 (c ^^^ b.toNat)) (i + 1) (byt_lt hc (by omega)) (by omega) (by omega)
    rw [show ((i : Int) + 1) = ((i + 1 : Nat) : Int) by omega, this, hd]; rfl
/-- The program's sum over a text is the plain sum. -/
theorem sum_is (s : ByteArray) (hn : s.size ≤ 140737488351232) (k : Nat) (hk : 10 * s.size < k) : seal_Sum.f k s = some ((crc s.data.toList : Nat) : Int) := by
  unfold seal_Sum.f
  have := sum_outer s hn s.size k 4294967295 0 (by decide) (by omega) hk
  rw [List.drop_zero] at this
  exact this
end Go.Proofs.Ytikiegglebgmpaa.PA
/- A text with its sum, and what is ahead of a sum: what the program's and the document's functions come to, in plain lists of bytes. -/
namespace Go.Proofs.Ytikiegglebgmpaa.PA
open Go.RowKit Go.Proofs.YtikiegglebgmpaaW.PrintWords Go.Proofs.YtikiegglebgmpaaW.PrintLast Go.Proofs.Ytikiegglebgmpaa.Plain

/-- A sum in four bytes, the highest first. -/
def be4 (c : Nat) : List UInt8 := [UInt8.ofNat (c / 16777216 % 256), UInt8.ofNat (c / 65536 % 256), UInt8.ofNat (c / 256 % 256), UInt8.ofNat (c % 256)]
def sealed (s : ByteArray) : ByteArray := s ++ ⟨(be4 (crc s.data.toList)).toArray⟩
theorem nums_be4 (c : Nat) : strOfNums ([((c : Int) / 16777216) % 256, ((c : Int) / 65536) % 256, ((c : Int) / 256) % 256, ((c : Int)) % 256] : List Int) = ⟨(be4 c).toArray⟩ := by
  unfold strOfNums be4
  simp only [List.map_cons, List.map_nil]
  have e : ∀ d : Nat, ((c : Int) / (d : Int) % 256).toNat = c / d % 256 := fun d => by
    rw [show ((c : Int) / (d : Int) % 256) = ((c / d % 256 : Nat) : Int) by omega, Int.toNat_natCast]
  have e1 := e 16777216
  have e2 := e 65536
  have e3 := e 256
  have e4 : ((c : Int) % 256).toNat = c % 256 := by omega
  rw [show ((16777216 : Nat) : Int) = 16777216 from rfl] at e1
  rw [show ((65536 : Nat) : Int) = 65536 from rfl] at e2
  rw [show ((256 : Nat) : Int) = 256 from rfl] at e3
  rw [e1, e2, e3, e4]
theorem size_be4 (c : Nat) : (⟨(be4 c).toArray⟩ : ByteArray).size = 4 := rfl
theorem put_is (s : ByteArray) (hn : s.size ≤ 140737488351232) (k : Nat) (hk : 10 * s.size < k) : seal_Put.f k s = some (sealed s) := by
  unfold seal_Put.f
  rw [sum_is s hn k hk]
  simp only [Option.bind_some]
  rw [nums_be4, size_be4, if_pos (by omega)]; rfl
theorem size_sealed (s : ByteArray) : (sealed s).size = s.size + 4 := by unfold sealed; rw [ByteArray.size_append, size_be4]
/-- What is ahead of a sum, and the error's number. -/
def opened (s : ByteArray) : ByteArray × Int := if s.size < 4 then (⟨#[]⟩, 3) else if sealed (s.extract 0 (s.size - 4)) = s then (s.extract 0 (s.size - 4), 0) else (⟨#[]⟩, 3)
theorem bytes_ext {a b : ByteArray} (h : a.toList = b.toList) : a = b := by
  rw [ByteArray.toList_eq, ByteArray.toList_eq] at h
  exact ByteArray.ext (by rw [← Array.toList_inj]; exact h)
theorem bytes_iff {a b : ByteArray} : a.toList = b.toList ↔ a = b := ⟨bytes_ext, fun h => by rw [h]⟩
theorem size_cut (s : ByteArray) (n : Nat) (h : n ≤ s.size) : (s.extract 0 n).size = n := by rw [ByteArray.size_extract]; omega
theorem cut_sealed (s : ByteArray) : (sealed s).extract 0 ((sealed s).size - 4) = s := by
  rw [size_sealed, Nat.add_sub_cancel]
  unfold sealed
  apply ByteArray.ext
  rw [ByteArray.data_extract, ByteArray.data_append, Array.extract_append]
  have h : s.data.size = s.size := rfl
  rw [← h]
  simp
theorem opened_sealed (s : ByteArray) : opened (sealed s) = (s, 0) := by
  unfold opened
  rw [if_neg (by rw [size_sealed]; omega), cut_sealed, if_pos rfl]
end Go.Proofs.Ytikiegglebgmpaa.PA
/- Whether a command has more parts than a statement goes through. -/
namespace Go.Proofs.Ytikiegglebgmpaa.PA
open Go.RowKit Go.Proofs.YtikiegglebgmpaaW.PrintWords Go.Proofs.YtikiegglebgmpaaW.PrintLast Go.Proofs.Ytikiegglebgmpaa.Plain

abbrev Vx := S45
abbrev Rx := S50
abbrev Wx := S41
/-- From some number of rounds on, a truth is told. -/
def Says (F : Nat → Option Bool) (Q : Prop) : Prop := ∃ (K : Nat) (b : Bool), (b = true ↔ Q) ∧ ∀ k, K ≤ k → F k = some b
/-- From some number of rounds on something is told; if it is no, this holds. -/
def Nays (F : Nat → Option Bool) (Q : Prop) : Prop := ∃ (K : Nat) (b : Bool), (b = false → Q) ∧ ∀ k, K ≤ k → F k = some b
theorem Nays.step {F G : Nat → Option Bool} {Q : Prop} (h : Nays G Q) (e : ∀ k, F (k + 1) = G k) : Nays F Q := by
  obtain ⟨K, b, h1, h2⟩ := h
  refine ⟨K + 1, b, h1, fun k hk => ?_⟩
  obtain ⟨m, rfl⟩ : ∃ m, k = m + 1 := ⟨k - 1, by omega⟩
  rw [e, h2 m (by omega)]
theorem Nays.imp {F : Nat → Option Bool} {Q R : Prop} (h : Nays F Q) (e : Q → R) : Nays F R := by
  obtain ⟨K, b, h1, h2⟩ := h
  exact ⟨K, b, fun hb => e (h1 hb), h2⟩
theorem Nays.yes {F : Nat → Option Bool} {Q : Prop} (e : ∀ k, F (k + 1) = some true) : Nays F Q :=
  ⟨1, true, fun h => absurd h (by decide), fun k hk => by obtain ⟨m, rfl⟩ : ∃ m, k = m + 1 := ⟨k - 1, by omega⟩; exact e m⟩
theorem Nays.const {F : Nat → Option Bool} {Q : Prop} {b : Bool} (e : ∀ k, F (k + 1) = some b) (h : b = false → Q) : Nays F Q :=
  ⟨1, b, h, fun k hk => by obtain ⟨m, rfl⟩ : ∃ m, k = m + 1 := ⟨k - 1, by omega⟩; exact e m⟩
def gs (s : ByteArray) : Nat := min s.size 60000
def gk : List ByteArray → Nat
  | [] => 0
  | s :: r => 1 + gs s + gk r
def gr : List Rx → Nat
  | [] => 0
  | s :: r => 1 + gs s.f0 + gs s.f1 + gr r
def gw : List Wx → Nat
  | [] => 0
  | s :: r => 1 + gs s.f0 + gs s.f1 + gw r
def gvs : List Vx → Nat
  | [] => 0
  | s :: r => 1 + gs s.f3 + gvs r
def gv : List (List Vx) → Nat
  | [] => 0
  | s :: r => 1 + gvs s + gv r
theorem mn_gs (s : ByteArray) : mn (s.size : Int) 60000 = (gs s : Int) := by
  unfold mn gs
  split <;> omega
theorem gs_le (s : ByteArray) : gs s ≤ 60000 := Nat.min_le_right _ _
theorem dropD {α : Type} {l : List α} {n : Nat} (h : n < l.length) (d : α) : l.drop n = l.getD n d :: l.drop (n + 1) := by
  rw [List.drop_eq_getElem_cons h, List.getD_eq_getElem?_getD, List.getElem?_eq_getElem h, Option.getD_some]
theorem w2 {a b : Nat} (h : a ≤ 1000000) (h2 : b ≤ 1000000) : wrap64 (wrap64 ((a : Int) + 1) + (b : Int)) = ((a + 1 + b : Nat) : Int) := by
  have e : wrap64 ((a : Int) + 1) = (a : Int) + 1 := by unfold wrap64; omega
  rw [e]; unfold wrap64; omega
theorem w3 {a b c : Nat} (h : a ≤ 1000000) (h2 : b ≤ 1000000) (h3 : c ≤ 1000000) : wrap64 (wrap64 (wrap64 ((a : Int) + 1) + (b : Int)) + (c : Int)) = ((a + 1 + b + c : Nat) : Int) := by
  rw [w2 h h2]; unfold wrap64; omega
theorem wi {i n : Nat} (h : i < n) (hn : n ≤ maxLen) : wrap64 ((i : Int) + 1) = ((i + 1 : Nat) : Int) := by
  unfold maxLen at hn; unfold wrap64; omega
theorem w1 {a : Nat} (h : a ≤ 1000000) : wrap64 ((a : Int) + 1) = ((a + 1 : Nat) : Int) := by unfold wrap64; omega
section
variable (a0 a1 a2 a3 : Int) (l4 : List ByteArray) (l5 : List Rx) (l6 : List Wx) (a7 a8 a9 : Int) (a10 : ByteArray) (a11 : Int) (l12 : List (List Vx))
theorem great_rows (hl : l12.length ≤ maxLen) (hr : ∀ r ∈ l12, r.length ≤ maxLen) (d : Nat) : ∀ n : Nat, 60001 ≤ n + d → n ≤ 200000 →
    (∀ i : Nat, i ≤ l12.length → Nays (fun k => falseworklaw13_Great.l3 k (n : Int) (i : Int) a0 a1 a2 a3 l4 l5 l6 a7 a8 a9 a10 a11 l12) (n + gv (l12.drop i) ≤ 60000 ∧ a10.size ≤ 60000)) ∧
    (∀ i e : Nat, i < l12.length → e ≤ (l12.getD i []).length → Nays (fun k => falseworklaw13_Great.l4 k (n : Int) (i : Int) (e : Int) a0 a1 a2 a3 l4 l5 l6 a7 a8 a9 a10 a11 l12) (n + gvs ((l12.getD i []).drop e) + gv (l12.drop (i + 1)) ≤ 60000 ∧ a10.size ≤ 60000)) := by
  induction d with
  | zero =>
    intro n hn hm
    have c3 : ∀ i : Nat, i ≤ l12.length → Nays (fun k => falseworklaw13_Great.l3 k (n : Int) (i : Int) a0 a1 a2 a3 l4 l5 l6 a7 a8 a9 a10 a11 l12) (n + gv (l12.drop i) ≤ 60000 ∧ a10.size ≤ 60000) := by
      intro i hi
      have j : Nays (fun k => falseworklaw13_Great.j7 k (n : Int) (i : Int) false a0 a1 a2 a3 l4 l5 l6 a7 a8 a9 a10 a11 l12) (n + gv (l12.drop i) ≤ 60000 ∧ a10.size ≤ 60000) :=
        Nays.yes (fun k => by simp only [falseworklaw13_Great.j7]; rw [if_neg (by decide), if_pos (by omega)])
      refine j.step (fun k => ?_)
      simp only [falseworklaw13_Great.l3]
      have hd : decide ((n : Int) ≤ 60000) = false := decide_eq_false (by omega)
      rw [hd, ite_self]
    refine ⟨c3, fun i e hi he => ?_⟩
    refine ((c3 (i + 1) (by omega)).imp (fun h => absurd h.1 (by omega))).step (fun k => ?_)
    simp only [falseworklaw13_Great.l4]
    rw [if_pos (by omega), if_pos (by omega), if_neg (show ¬ ((n : Int) ≤ 60000) by omega), ite_self, wi hi hl]
  | succ d ih =>
    intro n hn hm
    by_cases hb : n ≤ 60000
    · have c3 : ∀ i : Nat, i ≤ l12.length → Nays (fun k => falseworklaw13_Great.l3 k (n : Int) (i : Int) a0 a1 a2 a3 l4 l5 l6 a7 a8 a9 a10 a11 l12) (n + gv (l12.drop i) ≤ 60000 ∧ a10.size ≤ 60000) := by
        intro i hi
        by_cases hlt : i < l12.length
        · have h4 := (ih (n + 1) (by omega) (by omega)).2 i 0 hlt (Nat.zero_le _)
          have j : Nays (fun k => falseworklaw13_Great.j7 k (n : Int) (i : Int) true a0 a1 a2 a3 l4 l5 l6 a7 a8 a9 a10 a11 l12) (n + gv (l12.drop i) ≤ 60000 ∧ a10.size ≤ 60000) := by
            refine (h4.imp (fun h => ?_)).step (fun k => ?_)
            · rw [dropD hlt ([] : List Vx)]
              rw [List.drop_zero] at h
              show n + (1 + _ + _) ≤ _ ∧ _
              refine ⟨?_, h.2⟩
              have := h.1
              omega
            · simp only [falseworklaw13_Great.j7]
              rw [if_pos trivial, w1 (by omega)]
              rfl
          refine j.step (fun k => ?_)
          simp only [falseworklaw13_Great.l3]
          rw [if_pos (by omega), decide_eq_true (show (n : Int) ≤ 60000 by omega)]
        · have hi2 : i = l12.length := by omega
          have j : Nays (fun k => falseworklaw13_Great.j7 k (n : Int) (i : Int) false a0 a1 a2 a3 l4 l5 l6 a7 a8 a9 a10 a11 l12) (n + gv (l12.drop i) ≤ 60000 ∧ a10.size ≤ 60000) := by
            refine Nays.const (b := decide ((a10.size : Int) > 60000)) (fun k => ?_) (fun h => ?_)
            · simp only [falseworklaw13_Great.j7]
              rw [if_neg (by decide), if_neg (by omega)]
            · rw [hi2, List.drop_length]
              have := of_decide_eq_false h
              exact ⟨by show n + 0 ≤ _; omega, by omega⟩
          refine j.step (fun k => ?_)
          simp only [falseworklaw13_Great.l3]
          rw [if_neg (by omega)]
      refine ⟨c3, fun i e hi he => ?_⟩
      have hrow : rd_L7 l12 (i : Int) = l12.getD i [] := by unfold rd_L7; rw [Int.toNat_natCast]
      have hrl : (l12.getD i []).length ≤ maxLen := by
        rw [List.getD_eq_getElem?_getD, List.getElem?_eq_getElem hi, Option.getD_some]
        exact hr _ (List.getElem_mem hi)
      by_cases hlt : e < (l12.getD i []).length
      · have hv : rd_T45 (l12.getD i []) (e : Int) = (l12.getD i []).getD e z45 := by unfold rd_T45; rw [Int.toNat_natCast]
        have hg := gs_le ((l12.getD i []).getD e z45).f3
        have h4 := (ih (n + 1 + gs ((l12.getD i []).getD e z45).f3) (by omega) (by omega)).2 i (e + 1) hi (by omega)
        refine (h4.imp (fun h => ?_)).step (fun k => ?_)
        · rw [dropD hlt z45]
          show n + (1 + _ + _) + _ ≤ _ ∧ _
          exact ⟨by have := h.1; omega, h.2⟩
        · simp only [falseworklaw13_Great.l4]
          rw [hrow, if_pos (by omega), if_pos (by omega), if_pos (by omega), if_pos (by omega), if_pos (by omega), hv, mn_gs, w2 (by omega) (by omega), wi hlt hrl]
      · refine ((c3 (i + 1) (by omega)).imp (fun h => ?_)).step (fun k => ?_)
        · rw [List.drop_eq_nil_of_le (by omega)]
          exact ⟨by have := h.1; show n + 0 + _ ≤ _; omega, h.2⟩
        · simp only [falseworklaw13_Great.l4]
          rw [hrow, if_pos (by omega), if_pos (by omega), if_neg (by omega), wi hi hl]
    · have ih0 := ih n (by omega) hm
      exact ih0
theorem great_writes (hl : l12.length ≤ maxLen) (hr : ∀ r ∈ l12, r.length ≤ maxLen) (h6 : l6.length ≤ maxLen) (d : Nat) : ∀ n : Nat, 60001 ≤ n + d → n ≤ 200000 →
    ∀ i : Nat, i ≤ l6.length → Nays (fun k => falseworklaw13_Great.l2 k (n : Int) (i : Int) a0 a1 a2 a3 l4 l5 l6 a7 a8 a9 a10 a11 l12) (n + gw (l6.drop i) + gv l12 ≤ 60000 ∧ a10.size ≤ 60000) := by
  have hj : ∀ n : Nat, n ≤ 200000 → Nays (fun k => falseworklaw13_Great.j5 k (n : Int) a0 a1 a2 a3 l4 l5 l6 a7 a8 a9 a10 a11 l12) (n + gv l12 ≤ 60000 ∧ a10.size ≤ 60000) := by
    intro n hn
    refine ((great_rows a0 a1 a2 a3 l4 l5 l6 a7 a8 a9 a10 a11 l12 hl hr 60001 n (by omega) hn).1 0 (Nat.zero_le _)).step (fun k => ?_)
    simp only [falseworklaw13_Great.j5]
    rfl
  induction d with
  | zero =>
    intro n hn hm i hi
    refine ((hj n hm).imp (fun h => absurd h.1 (by omega))).step (fun k => ?_)
    simp only [falseworklaw13_Great.l2]
    rw [if_neg (show ¬ ((n : Int) ≤ 60000) by omega), ite_self]
  | succ d ih =>
    intro n hn hm i hi
    by_cases hlt : i < l6.length
    · by_cases hb : n ≤ 60000
      · have hv : rd_T41 l6 (i : Int) = l6.getD i z41 := by unfold rd_T41; rw [Int.toNat_natCast]
        have hg := gs_le (l6.getD i z41).f0
        have hg1 := gs_le (l6.getD i z41).f1
        refine ((ih (n + 1 + gs (l6.getD i z41).f0 + gs (l6.getD i z41).f1) (by omega) (by omega) (i + 1) (by omega)).imp (fun h => ?_)).step (fun k => ?_)
        · rw [dropD hlt z41]
          show n + (1 + _ + _ + _) + _ ≤ _ ∧ _
          exact ⟨by have := h.1; omega, h.2⟩
        · simp only [falseworklaw13_Great.l2]
          rw [if_pos (by omega), if_pos (by omega), if_pos (by omega), hv, mn_gs, mn_gs, w3 (by omega) (by omega) (by omega), wi hlt h6]
      · refine ((hj n hm).imp (fun h => absurd h.1 (by omega))).step (fun k => ?_)
        simp only [falseworklaw13_Great.l2]
        rw [if_neg (show ¬ ((n : Int) ≤ 60000) by omega), ite_self]
    · refine ((hj n hm).imp (fun h => ?_)).step (fun k => ?_)
      · rw [List.drop_eq_nil_of_le (by omega)]
        exact ⟨by have := h.1; show n + 0 + _ ≤ _; omega, h.2⟩
      · simp only [falseworklaw13_Great.l2]
        rw [if_neg (by omega)]
theorem great_ranges (hl : l12.length ≤ maxLen) (hr : ∀ r ∈ l12, r.length ≤ maxLen) (h6 : l6.length ≤ maxLen) (h5 : l5.length ≤ maxLen) (d : Nat) : ∀ n : Nat, 60001 ≤ n + d → n ≤ 200000 →
    ∀ i : Nat, i ≤ l5.length → Nays (fun k => falseworklaw13_Great.l1 k (n : Int) (i : Int) a0 a1 a2 a3 l4 l5 l6 a7 a8 a9 a10 a11 l12) (n + gr (l5.drop i) + gw l6 + gv l12 ≤ 60000 ∧ a10.size ≤ 60000) := by
  have hj : ∀ n : Nat, n ≤ 200000 → Nays (fun k => falseworklaw13_Great.j3 k (n : Int) a0 a1 a2 a3 l4 l5 l6 a7 a8 a9 a10 a11 l12) (n + gw l6 + gv l12 ≤ 60000 ∧ a10.size ≤ 60000) := by
    intro n hn
    refine ((great_writes a0 a1 a2 a3 l4 l5 l6 a7 a8 a9 a10 a11 l12 hl hr h6 60001 n (by omega) hn) 0 (Nat.zero_le _)).step (fun k => ?_)
    simp only [falseworklaw13_Great.j3]
    rfl
  induction d with
  | zero =>
    intro n hn hm i hi
    refine ((hj n hm).imp (fun h => absurd h.1 (by omega))).step (fun k => ?_)
    simp only [falseworklaw13_Great.l1]
    rw [if_neg (show ¬ ((n : Int) ≤ 60000) by omega), ite_self]
  | succ d ih =>
    intro n hn hm i hi
    by_cases hlt : i < l5.length
    · by_cases hb : n ≤ 60000
      · have hv : rd_T50 l5 (i : Int) = l5.getD i z50 := by unfold rd_T50; rw [Int.toNat_natCast]
        have hg := gs_le (l5.getD i z50).f0
        have hg1 := gs_le (l5.getD i z50).f1
        refine ((ih (n + 1 + gs (l5.getD i z50).f0 + gs (l5.getD i z50).f1) (by omega) (by omega) (i + 1) (by omega)).imp (fun h => ?_)).step (fun k => ?_)
        · rw [dropD hlt z50]
          show n + (1 + _ + _ + _) + _ + _ ≤ _ ∧ _
          exact ⟨by have := h.1; omega, h.2⟩
        · simp only [falseworklaw13_Great.l1]
          rw [if_pos (by omega), if_pos (by omega), if_pos (by omega), hv, mn_gs, mn_gs, w3 (by omega) (by omega) (by omega), wi hlt h5]
      · refine ((hj n hm).imp (fun h => absurd h.1 (by omega))).step (fun k => ?_)
        simp only [falseworklaw13_Great.l1]
        rw [if_neg (show ¬ ((n : Int) ≤ 60000) by omega), ite_self]
    · refine ((hj n hm).imp (fun h => ?_)).step (fun k => ?_)
      · rw [List.drop_eq_nil_of_le (by omega)]
        exact ⟨by have := h.1; show n + 0 + _ + _ ≤ _; omega, h.2⟩
      · simp only [falseworklaw13_Great.l1]
        rw [if_neg (by omega)]
theorem great_keys (hl : l12.length ≤ maxLen) (hr : ∀ r ∈ l12, r.length ≤ maxLen) (h6 : l6.length ≤ maxLen) (h5 : l5.length ≤ maxLen) (h4 : l4.length ≤ maxLen) (d : Nat) : ∀ n : Nat, 60001 ≤ n + d → n ≤ 200000 →
    ∀ i : Nat, i ≤ l4.length → Nays (fun k => falseworklaw13_Great.l0 k (n : Int) (i : Int) a0 a1 a2 a3 l4 l5 l6 a7 a8 a9 a10 a11 l12) (n + gk (l4.drop i) + gr l5 + gw l6 + gv l12 ≤ 60000 ∧ a10.size ≤ 60000) := by
  have hj : ∀ n : Nat, n ≤ 200000 → Nays (fun k => falseworklaw13_Great.j1 k (n : Int) a0 a1 a2 a3 l4 l5 l6 a7 a8 a9 a10 a11 l12) (n + gr l5 + gw l6 + gv l12 ≤ 60000 ∧ a10.size ≤ 60000) := by
    intro n hn
    refine ((great_ranges a0 a1 a2 a3 l4 l5 l6 a7 a8 a9 a10 a11 l12 hl hr h6 h5 60001 n (by omega) hn) 0 (Nat.zero_le _)).step (fun k => ?_)
    simp only [falseworklaw13_Great.j1]
    rfl
  induction d with
  | zero =>
    intro n hn hm i hi
    refine ((hj n hm).imp (fun h => absurd h.1 (by omega))).step (fun k => ?_)
    simp only [falseworklaw13_Great.l0]
    rw [if_neg (show ¬ ((n : Int) ≤ 60000) by omega), ite_self]
  | succ d ih =>
    intro n hn hm i hi
    by_cases hlt : i < l4.length
    · by_cases hb : n ≤ 60000
      · have hv : rdOf ByteArray.empty l4 (i : Int) = l4.getD i ByteArray.empty := by unfold rdOf; rw [Int.toNat_natCast]
        have hg := gs_le (l4.getD i ByteArray.empty)
        refine ((ih (n + 1 + gs (l4.getD i ByteArray.empty)) (by omega) (by omega) (i + 1) (by omega)).imp (fun h => ?_)).step (fun k => ?_)
        · rw [dropD hlt ByteArray.empty]
          show n + (1 + _ + _) + _ + _ + _ ≤ _ ∧ _
          exact ⟨by have := h.1; omega, h.2⟩
        · simp only [falseworklaw13_Great.l0]
          rw [if_pos (by omega), if_pos (by omega), if_pos (by omega), hv, mn_gs, w2 (by omega) (by omega), wi hlt h4]
      · refine ((hj n hm).imp (fun h => absurd h.1 (by omega))).step (fun k => ?_)
        simp only [falseworklaw13_Great.l0]
        rw [if_neg (show ¬ ((n : Int) ≤ 60000) by omega), ite_self]
    · refine ((hj n hm).imp (fun h => ?_)).step (fun k => ?_)
      · rw [List.drop_eq_nil_of_le (by omega)]
        exact ⟨by have := h.1; show n + 0 + _ + _ + _ ≤ _; omega, h.2⟩
      · simp only [falseworklaw13_Great.l0]
        rw [if_neg (by omega)]
theorem great_is (hl : l12.length ≤ maxLen) (hr : ∀ r ∈ l12, r.length ≤ maxLen) (h6 : l6.length ≤ maxLen) (h5 : l5.length ≤ maxLen) (h4 : l4.length ≤ maxLen) :
    Nays (fun k => falseworklaw13_Great.f k a0 a1 a2 a3 l4 l5 l6 a7 a8 a9 a10 a11 l12) (gk l4 + gr l5 + gw l6 + gv l12 ≤ 60000 ∧ a10.size ≤ 60000) := by
  refine ((great_keys a0 a1 a2 a3 l4 l5 l6 a7 a8 a9 a10 a11 l12 hl hr h6 h5 h4 60001 0 (by omega) (by omega) 0 (Nat.zero_le _)).imp (fun h => ?_))
  rw [List.drop_zero] at h
  exact ⟨by have := h.1; omega, h.2⟩
end
theorem gk_len : ∀ l : List ByteArray, l.length ≤ gk l
  | [] => Nat.le_refl _
  | s :: r => by have := gk_len r; show r.length + 1 ≤ 1 + gs s + gk r; omega
theorem gr_len : ∀ l : List Rx, l.length ≤ gr l
  | [] => Nat.le_refl _
  | s :: r => by have := gr_len r; show r.length + 1 ≤ 1 + gs s.f0 + gs s.f1 + gr r; omega
theorem gw_len : ∀ l : List Wx, l.length ≤ gw l
  | [] => Nat.le_refl _
  | s :: r => by have := gw_len r; show r.length + 1 ≤ 1 + gs s.f0 + gs s.f1 + gw r; omega
theorem gvs_len : ∀ l : List Vx, l.length ≤ gvs l
  | [] => Nat.le_refl _
  | s :: r => by have := gvs_len r; show r.length + 1 ≤ 1 + gs s.f3 + gvs r; omega
theorem gv_len : ∀ l : List (List Vx), l.length ≤ gv l
  | [] => Nat.le_refl _
  | s :: r => by have := gv_len r; show r.length + 1 ≤ 1 + gvs s + gv r; omega
end Go.Proofs.Ytikiegglebgmpaa.PA
