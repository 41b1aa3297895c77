/- What the functions of layer 1 come to on words of 64 bits: the one form, the place, the way back, the order. -/
import Derived.Test.YtikiegglebgmpaaCTx0
import Derived.Test.YtikiegglebgmpaaCTx4
import Derived.Test.YtikiegglebgmpaaCTx5
import Derived.Test.YtikiegglebgmpaaCTx6
import Derived.Test.YtikiegglebgmpaaCTx7
import Derived.Test.YtikiegglebgmpaaCTx8
import Derived.Test.YtikiegglebgmpaaCTx9
import Derived.Test.YtikiegglebgmpaaCTx10
import Derived.Test.YtikiegglebgmpaaCTx11
import Derived.Test.YtikiegglebgmpaaCTx12
import Derived.Test.YtikiegglebgmpaaCTx13
import Derived.Test.YtikiegglebgmpaaCTx14
import Derived.Test.YtikiegglebgmpaaCTx15
import Derived.Test.YtikiegglebgmpaaCTx16
import Derived.Test.YtikiegglebgmpaaCTPlainC
namespace Go.Proofs.Ytikiegglebgmpaa.PA
open Go.RowKit Go.Proofs.YtikiegglebgmpaaW.PrintWords Go.Proofs.YtikiegglebgmpaaW.PrintLast Go.Proofs.Ytikiegglebgmpaa.Plain

theorem u64_nat {a : Int} (h : (Lit.int .u64 a).wf = true) : ∃ x : Nat, a = (x : Int) ∧ x < 18446744073709551616 := by
  have h1 : IntKind.u64.min ≤ a ∧ a ≤ IntKind.u64.max := by simpa [Lit.wf] using h
  have h2 : IntKind.u64.min = 0 := by decide
  have h3 : IntKind.u64.max = 18446744073709551615 := by decide
  rw [h2, h3] at h1
  exact ⟨a.toNat, by omega, by omega⟩
theorem flo_canon_is {x : Nat} (h : x < 18446744073709551616) : flo_Canon.f (x : Int) = some ((canon x : Nat) : Int) := by
  unfold flo_Canon.f fcmp canon
  rw [Int.toNat_natCast, show Int.toNat 0 = 0 from rfl, nan_test]
  by_cases h1 : 9218868437227405312 < x % 9223372036854775808
  · rw [if_pos (decide_eq_true h1), if_pos h1]; rfl
  · rw [if_neg (by simp [h1]), if_neg h1, zero_test x h1]
    by_cases h2 : x % 9223372036854775808 = 0
    · rw [if_pos (decide_eq_true h2)]
      by_cases h3 : x = 9223372036854775808
      · rw [if_pos h3]; rfl
      · rw [if_neg h3]
        have : x = 0 := by omega
        rw [this]; rfl
    · rw [if_neg (by simp [h2]), if_neg (by omega)]
end Go.Proofs.Ytikiegglebgmpaa.PA
/- Which values may be: what the program's and the document's functions come to. -/
namespace Go.Proofs.Ytikiegglebgmpaa.PA
open Go.RowKit Go.Proofs.YtikiegglebgmpaaW.PrintWords Go.Proofs.YtikiegglebgmpaaW.PrintLast Go.Proofs.Ytikiegglebgmpaa.Plain

theorem toList_data (s : ByteArray) : s.toList = s.data.toList := ByteArray.toList_eq s
theorem size_data (s : ByteArray) : s.size = s.data.toList.length := by rw [Array.length_toList]; rfl
theorem dec_beq (a b : Int) : (a == b) = decide (a = b) := by
  by_cases h : a = b
  · rw [h, decide_eq_true rfl]; simp
  · rw [decide_eq_false h]; simpa using h
theorem dec_cast (f : Nat) : decide ((f : Int) = 0) = decide (f = 0) := by
  by_cases h : f = 0
  · rw [h]; rfl
  · rw [decide_eq_false h, decide_eq_false (by omega)]
theorem value_may_is (k n : Int) {f : Nat} (hf : f < 18446744073709551616) (s : ByteArray) : value_May.f k n (f : Int) s = some (mayB k n f s.data.toList) := by
  unfold value_May.f mayB
  rw [toList_data, size_data]
  by_cases h0 : k = 0
  · rw [if_pos h0, if_pos h0, dec_beq, dec_beq, dec_cast]
  rw [if_neg h0, if_neg h0]
  by_cases h1 : k = 1
  · rw [if_pos h1, if_pos h1, dec_beq, dec_cast]
    by_cases n0 : n = 0
    · rw [if_pos n0, n0]; rfl
    · rw [if_neg n0]
      by_cases n1 : n = 1
      · rw [if_pos n1, n1]; rfl
      · rw [if_neg n1, decide_eq_false n0, decide_eq_false n1]; rfl
  rw [if_neg h1, if_neg h1]
  by_cases h2 : k = 2
  · rw [if_pos h2, if_pos h2, dec_beq, dec_cast]
  rw [if_neg h2, if_neg h2]
  by_cases h3 : k = 3
  · rw [if_pos h3, if_pos h3, flo_canon_is hf, Option.bind_some, dec_beq]
    by_cases hc : canon f = f
    · rw [if_pos (by omega), decide_eq_true hc, Bool.true_and]
    · rw [if_neg (by omega), decide_eq_false hc, Bool.false_and, Bool.and_false]
  rw [if_neg h3, if_neg h3]
  have key : (if ((s.data.toList.length : Nat) : Int) > 40 then some false else some (n == 0 && (f : Int) == 0)) = some (decide (n = 0) && (decide (f = 0) && decide (s.data.toList.length ≤ 40))) := by
    rw [dec_beq, dec_beq, dec_cast]
    by_cases hl : s.data.toList.length ≤ 40
    · rw [if_neg (by omega), decide_eq_true hl, Bool.and_true]
    · rw [if_pos (by omega), decide_eq_false hl, Bool.and_false, Bool.and_false]
  by_cases h4 : k = 4
  · rw [if_pos h4, if_pos h4, key]
  rw [if_neg h4, if_neg h4]
  by_cases h5 : k = 5
  · rw [if_pos h5, if_pos h5, key]
  rw [if_neg h5, if_neg h5]
end Go.Proofs.Ytikiegglebgmpaa.PA
/- What the two sums over a text come to: the plain sum of Crc. -/
namespace Go.Proofs.Ytikiegglebgmpaa.PA
open Go.RowKit Go.Proofs.YtikiegglebgmpaaW.PrintWords Go.Proofs.YtikiegglebgmpaaW.PrintLast Go.Proofs.Ytikiegglebgmpaa.Plain

theorem w64 {i : Int} (h0 : 0 ≤ i) (h : i < 140737488360000) : wrap64 (i + 1) = i + 1 := by unfold wrap64; omega
theorem and_one {c : Nat} (hc : c < 4294967296) : Go.bits .and .u32 (c : Int) 1 = ((c % 2 : Nat) : Int) := by
  have h := and_u32 (b := 1) hc (by decide)
  rw [Nat.and_one_is_mod] at h
  exact h
theorem stp_some {c : Nat} (hc : c < 4294967296) : (Go.bits .and .u32 (c : Int) 1 = 1 → Go.bits .xor .u32 ((c : Int) / 2) 2197175160 = (stp c : Int)) ∧ (¬ Go.bits .and .u32 (c : Int) 1 = 1 → (c : Int) / 2 = (stp c : Int)) := by
  rw [and_one hc]
  constructor
  · intro h
    have h1 : c % 2 = 1 := by omega
    have h2 := xor_u32 (a := c / 2) (b := 2197175160) (by omega) (by decide)
    unfold stp; rw [if_pos h1]
    rw [← h2]; rfl
  · intro h
    have h1 : ¬ c % 2 = 1 := by omega
    unfold stp; rw [if_neg h1]; omega
theorem sum_inner (s : ByteArray) (n i : Int) (m : Nat) : ∀ (k : Nat) (c : Nat) (j : Int), c < 4294967296 → 0 ≤ j → j + m = 8 →
    seal_Sum.l1 (k + m + 1) s c n i j = seal_Sum.l0 k s (stps m c) n (wrap64 (i + 1)) := by
  induction m with
  | zero => intro k c j hc h0 h; simp only [seal_Sum.l1, stps]; rw [if_neg (by omega)]
  | succ m ih =>
    intro k c j hc h0 h
    obtain ⟨h1, h2⟩ := stp_some hc
    have e : k + (m + 1) + 1 = (k + m + 1) + 1 := by omega
    rw [e]; simp only [seal_Sum.l1, stps]; rw [if_pos (by omega), w64 h0 (by omega)]
    by_cases hb : Go.bits .and .u32 (c : Int) 1 = 1
    · rw [if_pos hb, h1 hb]; exact ih k _ _ (stp_lt hc) (by omega) (by omega)
    · rw [if_neg hb, h2 hb]; exact ih k _ _ (stp_lt hc) (by omega) (by omega)
theorem not_u32 {c : Nat} (hc : c < 4294967296) : Go.bits .xor .u32 4294967295 (c : Int) = ((4294967295 ^^^ c : Nat) : Int) := xor_u32 (a := 4294967295) (by decide) hc
theorem xor_byte {c b : Nat} (hc : c < 4294967296) (hb : b < 256) : Go.bits .xor .u32 (c : Int) ((b : Int) % 4294967296) = ((c ^^^ b : Nat) : Int) := by
  have : (b : Int) % 4294967296 = (b : Int) := by omega
  rw [this]; exact xor_u32 hc (by omega)
theorem drop_bt (s : ByteArray) (i : Nat) (h : i < s.size) : ∃ b : UInt8, bt s i = ((b.toNat : Nat) : Int) ∧ s.data.toList.drop i = b :: s.data.toList.drop (i + 1) := by
  refine ⟨s[i], ?_, ?_⟩
  · unfold bt; simp [h]
  · rw [List.drop_eq_getElem_cons (by simpa using h)]; rfl
theorem sum_outer (s : ByteArray) (hn : s.size ≤ 140737488351232) (d : Nat) : ∀ (k c i : Nat), c < 4294967296 → i + d = s.size → 10 * d < k →
    seal_Sum.l0 k s c (s.size : Int) i = some ((4294967295 ^^^ crcFrom c (s.data.toList.drop i) : Nat) : Int) := by
  induction d with
  | zero =>
    intro k c i hc hi hk
    obtain ⟨k, rfl⟩ : ∃ m, k = m + 1 := ⟨k - 1, by omega⟩
    simp only [seal_Sum.l0]; rw [if_neg (by omega), not_u32 hc]
    rw [List.drop_eq_nil_of_le (by simp; omega)]; rfl
  | succ d ih =>
    intro k c i hc hi hk
    obtain ⟨k, rfl⟩ : ∃ m, k = (m + 8 + 1) + 1 := ⟨k - 10, by omega⟩
    obtain ⟨b, hb, hd⟩ := drop_bt s i (by omega)
    have hb2 := b.toNat_lt
    simp only [seal_Sum.l0]; rw [if_pos (by omega), if_pos (by omega), if_pos (by omega), hb, xor_byte hc (by omega)]
    rw [sum_inner s _ _ 8 k _ 0 (Nat.xor_lt_two_pow (n := 32) hc (by omega)) (by omega) (by omega), w64 (by omega) (by omega)]
    have := ih k (stps 8 (c ^^^ b.toNat)) (i + 1) (byt_lt hc (by omega)) (by omega) (by omega)
    rw [show ((i : Int) + 1) = ((i + 1 : Nat) : Int) by omega, this, hd]; rfl
/-- The program's sum over a text is the plain sum. -/
theorem sum_is (s : ByteArray) (hn : s.size ≤ 140737488351232) (k : Nat) (hk : 10 * s.size < k) : seal_Sum.f k s = some ((crc s.data.toList : Nat) : Int) := by
  unfold seal_Sum.f
  have := sum_outer s hn s.size k 4294967295 0 (by decide) (by omega) hk
  rw [List.drop_zero] at this
  exact this
end Go.Proofs.Ytikiegglebgmpaa.PA
/- A text with its sum, and what is ahead of a sum: what the program's and the document's functions come to, in plain lists of bytes. -/
namespace Go.Proofs.Ytikiegglebgmpaa.PA
open Go.RowKit Go.Proofs.YtikiegglebgmpaaW.PrintWords Go.Proofs.YtikiegglebgmpaaW.PrintLast Go.Proofs.Ytikiegglebgmpaa.Plain

/-- A sum in four bytes, the highest first. -/
def be4 (c : Nat) : List UInt8 := [UInt8.ofNat (c / 16777216 % 256), UInt8.ofNat (c / 65536 % 256), UInt8.ofNat (c / 256 % 256), UInt8.ofNat (c % 256)]
def sealed (s : ByteArray) : ByteArray := s ++ ⟨(be4 (crc s.data.toList)).toArray⟩
theorem nums_be4 (c : Nat) : strOfNums ([((c : Int) / 16777216) % 256, ((c : Int) / 65536) % 256, ((c : Int) / 256) % 256, ((c : Int)) % 256] : List Int) = ⟨(be4 c).toArray⟩ := by
  unfold strOfNums be4
  simp only [List.map_cons, List.map_nil]
  have e : ∀ d : Nat, ((c : Int) / (d : Int) % 256).toNat = c / d % 256 := fun d => by
    rw [show ((c : Int) / (d : Int) % 256) = ((c / d % 256 : Nat) : Int) by omega, Int.toNat_natCast]
  have e1 := e 16777216
  have e2 := e 65536
  have e3 := e 256
  have e4 : ((c : Int) % 256).toNat = c % 256 := by omega
  rw [show ((16777216 : Nat) : Int) = 16777216 from rfl] at e1
  rw [show ((65536 : Nat) : Int) = 65536 from rfl] at e2
  rw [show ((256 : Nat) : Int) = 256 from rfl] at e3
  rw [e1, e2, e3, e4]
theorem size_be4 (c : Nat) : (⟨(be4 c).toArray⟩ : ByteArray).size = 4 := rfl
theorem put_is (s : ByteArray) (hn : s.size ≤ 140737488351232) (k : Nat) (hk : 10 * s.size < k) : seal_Put.f k s = some (sealed s) := by
  unfold seal_Put.f
  rw [sum_is s hn k hk]
  simp only [Option.bind_some]
  rw [nums_be4, size_be4, if_pos (by omega)]; rfl
theorem size_sealed (s : ByteArray) : (sealed s).size = s.size + 4 := by unfold sealed; rw [ByteArray.size_append, size_be4]
/-- What is ahead of a sum, and the error's number. -/
def opened (s : ByteArray) : ByteArray × Int := if s.size < 4 then (⟨#[]⟩, 3) else if sealed (s.extract 0 (s.size - 4)) = s then (s.extract 0 (s.size - 4), 0) else (⟨#[]⟩, 3)
theorem bytes_ext {a b : ByteArray} (h : a.toList = b.toList) : a = b := by
  rw [ByteArray.toList_eq, ByteArray.toList_eq] at h
  exact ByteArray.ext (by rw [← Array.toList_inj]; exact h)
theorem bytes_iff {a b : ByteArray} : a.toList = b.toList ↔ a = b := ⟨bytes_ext, fun h => by rw [h]⟩
theorem size_cut (s : ByteArray) (n : Nat) (h : n ≤ s.size) : (s.extract 0 n).size = n := by rw [ByteArray.size_extract]; omega
theorem get_is (s : ByteArray) (hn : s.size ≤ 140737488351232) (k : Nat) (hk : 10 * s.size < k) : seal_Get.f k s = some (opened s) := by
  unfold seal_Get.f opened
  have hw : wrap64 ((s.size : Int) - 4) = (s.size : Int) - 4 := by unfold wrap64; omega
  rw [hw]
  by_cases h : s.size < 4
  · rw [if_pos (by omega), if_pos h]
  · have ht : ((s.size : Int) - 4).toNat = s.size - 4 := by omega
    have hc := size_cut s (s.size - 4) (by omega)
    rw [if_neg (by omega), if_neg h, if_pos (by omega), if_pos (by omega), ht, put_is _ (by omega) k (by omega)]
    simp only [Option.bind_some, bytes_iff]
    by_cases e : sealed (s.extract 0 (s.size - 4)) = s
    · rw [if_pos e, if_pos e]
    · rw [if_neg e, if_neg e]
end Go.Proofs.Ytikiegglebgmpaa.PA
/- Whether a command has more parts than a statement goes through. -/
namespace Go.Proofs.Ytikiegglebgmpaa.PA
open Go.RowKit Go.Proofs.YtikiegglebgmpaaW.PrintWords Go.Proofs.YtikiegglebgmpaaW.PrintLast Go.Proofs.Ytikiegglebgmpaa.Plain

abbrev Vx := S45
abbrev Rx := S50
abbrev Wx := S41
/-- From some number of rounds on something is told; if it is no, this holds. -/
def Nays (F : Nat → Option Bool) (Q : Prop) : Prop := ∃ (K : Nat) (b : Bool), (b = false → Q) ∧ ∀ k, K ≤ k → F k = some b
theorem Nays.step {F G : Nat → Option Bool} {Q : Prop} (h : Nays G Q) (e : ∀ k, F (k + 1) = G k) : Nays F Q := by
  obtain ⟨K, b, h1, h2⟩ := h
  refine ⟨K + 1, b, h1, fun k hk => ?_⟩
  obtain ⟨m, rfl⟩ : ∃ m, k = m + 1 := ⟨k - 1, by omega⟩
  rw [e, h2 m (by omega)]
theorem Nays.imp {F : Nat → Option Bool} {Q R : Prop} (h : Nays F Q) (e : Q → R) : Nays F R := by
  obtain ⟨K, b, h1, h2⟩ := h
  exact ⟨K, b, fun hb => e (h1 hb), h2⟩
theorem Nays.yes {F : Nat → Option Bool} {Q : Prop} (e : ∀ k, F (k + 1) = some true) : Nays F Q :=
  ⟨1, true, fun h => absurd h (by decide), fun k hk => by obtain ⟨m, rfl⟩ : ∃ m, k = m + 1 := ⟨k - 1, by omega⟩; exact e m⟩
theorem Nays.const {F : Nat → Option Bool} {Q : Prop} {b : Bool} (e : ∀ k, F (k + 1) = some b) (h : b = false → Q) : Nays F Q :=
  ⟨1, b, h, fun k hk => by obtain ⟨m, rfl⟩ : ∃ m, k = m + 1 := ⟨k - 1, by omega⟩; exact e m⟩
def gs (s : ByteArray) : Nat := min s.size 60000
def gk : List ByteArray → Nat
  | [] => 0
  | s :: r => 1 + gs s + gk r
def gr : List Rx → Nat
  | [] => 0
  | s :: r => 1 + gs s.f0 + gs s.f1 + gr r
def gw : List Wx → Nat
  | [] => 0
  | s :: r => 1 + gs s.f0 + gs s.f1 + gw r
def gvs : List Vx → Nat
  | [] => 0
  | s :: r => 1 + gs s.f3 + gvs r
def gv : List (List Vx) → Nat
  | [] => 0
  | s :: r => 1 + gvs s + gv r
theorem mn_gs (s : ByteArray) : mn (s.size : Int) 60000 = (gs s : Int) := by
  unfold mn gs
  split <;> omega
theorem gs_le (s : ByteArray) : gs s ≤ 60000 := Nat.min_le_right _ _
theorem dropD {α : Type} {l : List α} {n : Nat} (h : n < l.length) (d : α) : l.drop n = l.getD n d :: l.drop (n + 1) := by
  rw [List.drop_eq_getElem_cons h, List.getD_eq_getElem?_getD, List.getElem?_eq_getElem h, Option.getD_some]
theorem w2 {a b : Nat} (h : a ≤ 1000000) (h2 : b ≤ 1000000) : wrap64 (wrap64 ((a : Int) + 1) + (b : Int)) = ((a + 1 + b : Nat) : Int) := by
  have e : wrap64 ((a : Int) + 1) = (a : Int) + 1 := by unfold wrap64; omega
  rw [e]; unfold wrap64; omega
theorem w3 {a b c : Nat} (h : a ≤ 1000000) (h2 : b ≤ 1000000) (h3 : c ≤ 1000000) : wrap64 (wrap64 (wrap64 ((a : Int) + 1) + (b : Int)) + (c : Int)) = ((a + 1 + b + c : Nat) : Int) := by
  rw [w2 h h2]; unfold wrap64; omega
theorem wi {i n : Nat} (h : i < n) (hn : n ≤ maxLen) : wrap64 ((i : Int) + 1) = ((i + 1 : Nat) : Int) := by
  unfold maxLen at hn; unfold wrap64; omega
theorem w1 {a : Nat} (h : a ≤ 1000000) : wrap64 ((a : Int) + 1) = ((a + 1 : Nat) : Int) := by unfold wrap64; omega
section
variable (a0 a1 a2 a3 : Int) (l4 : List ByteArray) (l5 : List Rx) (l6 : List Wx) (a7 a8 a9 : Int) (a10 : ByteArray) (a11 : Int) (l12 : List (List Vx))
theorem great_rows (hl : l12.length ≤ maxLen) (hr : ∀ r ∈ l12, r.length ≤ maxLen) (d : Nat) : ∀ n : Nat, 60001 ≤ n + d → n ≤ 200000 →
    (∀ i : Nat, i ≤ l12.length → Nays (fun k => falseworklaw13_Great.l3 k (n : Int) (i : Int) a0 a1 a2 a3 l4 l5 l6 a7 a8 a9 a10 a11 l12) (n + gv (l12.drop i) ≤ 60000 ∧ a10.size ≤ 60000)) ∧
    (∀ i e : Nat, i < l12.length → e ≤ (l12.getD i []).length → Nays (fun k => falseworklaw13_Great.l4 k (n : Int) (i : Int) (e : Int) a0 a1 a2 a3 l4 l5 l6 a7 a8 a9 a10 a11 l12) (n + gvs ((l12.getD i []).drop e) + gv (l12.drop (i + 1)) ≤ 60000 ∧ a10.size ≤ 60000)) := by
  induction d with
  | zero =>
    intro n hn hm
    have c3 : ∀ i : Nat, i ≤ l12.length → Nays (fun k => falseworklaw13_Great.l3 k (n : Int) (i : Int) a0 a1 a2 a3 l4 l5 l6 a7 a8 a9 a10 a11 l12) (n + gv (l12.drop i) ≤ 60000 ∧ a10.size ≤ 60000) := by
      intro i hi
      have j : Nays (fun k => falseworklaw13_Great.j7 k (n : Int) (i : Int) false a0 a1 a2 a3 l4 l5 l6 a7 a8 a9 a10 a11 l12) (n + gv (l12.drop i) ≤ 60000 ∧ a10.size ≤ 60000) :=
        Nays.yes (fun k => by simp only [falseworklaw13_Great.j7]; rw [if_neg (by decide), if_pos (by omega)])
      refine j.step (fun k => ?_)
      simp only [falseworklaw13_Great.l3]
      have hd : decide ((n : Int) ≤ 60000) = false := decide_eq_false (by omega)
      rw [hd, ite_self]
    refine ⟨c3, fun i e hi he => ?_⟩
    refine ((c3 (i + 1) (by omega)).imp (fun h => absurd h.1 (by omega))).step (fun k => ?_)
    simp only [falseworklaw13_Great.l4]
    rw [if_pos (by omega), if_pos (by omega), if_neg (show ¬ ((n : Int) ≤ 60000) by omega), ite_self, wi hi hl]
  | succ d ih =>
    intro n hn hm
    by_cases hb : n ≤ 60000
    · have c3 : ∀ i : Nat, i ≤ l12.length → Nays (fun k => falseworklaw13_Great.l3 k (n : Int) (i : Int) a0 a1 a2 a3 l4 l5 l6 a7 a8 a9 a10 a11 l12) (n + gv (l12.drop i) ≤ 60000 ∧ a10.size ≤ 60000) := by
        intro i hi
        by_cases hlt : i < l12.length
        · have h4 := (ih (n + 1) (by omega) (by omega)).2 i 0 hlt (Nat.zero_le _)
          have j : Nays (fun k => falseworklaw13_Great.j7 k (n : Int) (i : Int) true a0 a1 a2 a3 l4 l5 l6 a7 a8 a9 a10 a11 l12) (n + gv (l12.drop i) ≤ 60000 ∧ a10.size ≤ 60000) := by
            refine (h4.imp (fun h => ?_)).step (fun k => ?_)
            · rw [dropD hlt ([] : List Vx)]
              rw [List.drop_zero] at h
              show n + (1 + _ + _) ≤ _ ∧ _
              refine ⟨?_, h.2⟩
              have := h.1
              omega
            · simp only [falseworklaw13_Great.j7]
              rw [if_pos trivial, w1 (by omega)]
              rfl
          refine j.step (fun k => ?_)
          simp only [falseworklaw13_Great.l3]
          rw [if_pos (by omega), decide_eq_true (show (n : Int) ≤ 60000 by omega)]
        · have hi2 : i = l12.length := by omega
          have j : Nays (fun k => falseworklaw13_Great.j7 k (n : Int) (i : Int) false a0 a1 a2 a3 l4 l5 l6 a7 a8 a9 a10 a11 l12) (n + gv (l12.drop i) ≤ 60000 ∧ a10.size ≤ 60000) := by
            refine Nays.const (b := decide ((a10.size : Int) > 60000)) (fun k => ?_) (fun h => ?_)
            · simp only [falseworklaw13_Great.j7]
              rw [if_neg (by decide), if_neg (by omega)]
            · rw [hi2, List.drop_length]
              have := of_decide_eq_false h
              exact ⟨by show n + 0 ≤ _; omega, by omega⟩
          refine j.step (fun k => ?_)
          simp only [falseworklaw13_Great.l3]
          rw [if_neg (by omega)]
      refine ⟨c3, fun i e hi he => ?_⟩
      have hrow : rd_L7 l12 (i : Int) = l12.getD i [] := by unfold rd_L7; rw [Int.toNat_natCast]
      have hrl : (l12.getD i []).length ≤ maxLen := by
        rw [List.getD_eq_getElem?_getD, List.getElem?_eq_getElem hi, Option.getD_some]
        exact hr _ (List.getElem_mem hi)
      by_cases hlt : e < (l12.getD i []).length
      · have hv : rd_T45 (l12.getD i []) (e : Int) = (l12.getD i []).getD e z45 := by unfold rd_T45; rw [Int.toNat_natCast]
        have hg := gs_le ((l12.getD i []).getD e z45).f3
        have h4 := (ih (n + 1 + gs ((l12.getD i []).getD e z45).f3) (by omega) (by omega)).2 i (e + 1) hi (by omega)
        refine (h4.imp (fun h => ?_)).step (fun k => ?_)
        · rw [dropD hlt z45]
          show n + (1 + _ + _) + _ ≤ _ ∧ _
          exact ⟨by have := h.1; omega, h.2⟩
        · simp only [falseworklaw13_Great.l4]
          rw [hrow, if_pos (by omega), if_pos (by omega), if_pos (by omega), if_pos (by omega), if_pos (by omega), hv, mn_gs, w2 (by omega) (by omega), wi hlt hrl]
      · refine ((c3 (i + 1) (by omega)).imp (fun h => ?_)).step (fun k => ?_)
        · rw [List.drop_eq_nil_of_le (by omega)]
          exact ⟨by have := h.1; show n + 0 + _ ≤ _; omega, h.2⟩
        · simp only [falseworklaw13_Great.l4]
          rw [hrow, if_pos (by omega), if_pos (by omega), if_neg (by omega), wi hi hl]
    · have ih0 := ih n (by omega) hm
      exact ih0
theorem great_writes (hl : l12.length ≤ maxLen) (hr : ∀ r ∈ l12, r.length ≤ maxLen) (h6 : l6.length ≤ maxLen) (d : Nat) : ∀ n : Nat, 60001 ≤ n + d → n ≤ 200000 →
    ∀ i : Nat, i ≤ l6.length → Nays (fun k => falseworklaw13_Great.l2 k (n : Int) (i : Int) a0 a1 a2 a3 l4 l5 l6 a7 a8 a9 a10 a11 l12) (n + gw (l6.drop i) + gv l12 ≤ 60000 ∧ a10.size ≤ 60000) := by
  have hj : ∀ n : Nat, n ≤ 200000 → Nays (fun k => falseworklaw13_Great.j5 k (n : Int) a0 a1 a2 a3 l4 l5 l6 a7 a8 a9 a10 a11 l12) (n + gv l12 ≤ 60000 ∧ a10.size ≤ 60000) := by
    intro n hn
    refine ((great_rows a0 a1 a2 a3 l4 l5 l6 a7 a8 a9 a10 a11 l12 hl hr 60001 n (by omega) hn).1 0 (Nat.zero_le _)).step (fun k => ?_)
    simp only [falseworklaw13_Great.j5]
    rfl
  induction d with
  | zero =>
    intro n hn hm i hi
    refine ((hj n hm).imp (fun h => absurd h.1 (by omega))).step (fun k => ?_)
    simp only [falseworklaw13_Great.l2]
    rw [if_neg (show ¬ ((n : Int) ≤ 60000) by omega), ite_self]
  | succ d ih =>
    intro n hn hm i hi
    by_cases hlt : i < l6.length
    · by_cases hb : n ≤ 60000
      · have hv : rd_T41 l6 (i : Int) = l6.getD i z41 := by unfold rd_T41; rw [Int.toNat_natCast]
        have hg := gs_le (l6.getD i z41).f0
        have hg1 := gs_le (l6.getD i z41).f1
        refine ((ih (n + 1 + gs (l6.getD i z41).f0 + gs (l6.getD i z41).f1) (by omega) (by omega) (i + 1) (by omega)).imp (fun h => ?_)).step (fun k => ?_)
        · rw [dropD hlt z41]
          show n + (1 + _ + _ + _) + _ ≤ _ ∧ _
          exact ⟨by have := h.1; omega, h.2⟩
        · simp only [falseworklaw13_Great.l2]
          rw [if_pos (by omega), if_pos (by omega), if_pos (by omega), hv, mn_gs, mn_gs, w3 (by omega) (by omega) (by omega), wi hlt h6]
      · refine ((hj n hm).imp (fun h => absurd h.1 (by omega))).step (fun k => ?_)
        simp only [falseworklaw13_Great.l2]
        rw [if_neg (show ¬ ((n : Int) ≤ 60000) by omega), ite_self]
    · refine ((hj n hm).imp (fun h => ?_)).step (fun k => ?_)
      · rw [List.drop_eq_nil_of_le (by omega)]
        exact ⟨by have := h.1; show n + 0 + _ ≤ _; omega, h.2⟩
      · simp only [falseworklaw13_Great.l2]
        rw [if_neg (by omega)]
theorem great_ranges (hl : l12.length ≤ maxLen) (hr : ∀ r ∈ l12, r.length ≤ maxLen) (h6 : l6.length ≤ maxLen) (h5 : l5.length ≤ maxLen) (d : Nat) : ∀ n : Nat, 60001 ≤ n + d → n ≤ 200000 →
    ∀ i : Nat, i ≤ l5.length → Nays (fun k => falseworklaw13_Great.l1 k (n : Int) (i : Int) a0 a1 a2 a3 l4 l5 l6 a7 a8 a9 a10 a11 l12) (n + gr (l5.drop i) + gw l6 + gv l12 ≤ 60000 ∧ a10.size ≤ 60000) := by
  have hj : ∀ n : Nat, n ≤ 200000 → Nays (fun k => falseworklaw13_Great.j3 k (n : Int) a0 a1 a2 a3 l4 l5 l6 a7 a8 a9 a10 a11 l12) (n + gw l6 + gv l12 ≤ 60000 ∧ a10.size ≤ 60000) := by
    intro n hn
    refine ((great_writes a0 a1 a2 a3 l4 l5 l6 a7 a8 a9 a10 a11 l12 hl hr h6 60001 n (by omega) hn) 0 (Nat.zero_le _)).step (fun k => ?_)
    simp only [falseworklaw13_Great.j3]
    rfl
  induction d with
  | zero =>
    intro n hn hm i hi
    refine ((hj n hm).imp (fun h => absurd h.1 (by omega))).step (fun k => ?_)
    simp only [falseworklaw13_Great.l1]
    rw [if_neg (show ¬ ((n : Int) ≤ 60000) by omega), ite_self]
  | succ d ih =>
    intro n hn hm i hi
    by_cases hlt : i < l5.length
    · by_cases hb : n ≤ 60000
      · have hv : rd_T50 l5 (i : Int) = l5.getD i z50 := by unfold rd_T50; rw [Int.toNat_natCast]
        have hg := gs_le (l5.getD i z50).f0
        have hg1 := gs_le (l5.getD i z50).f1
        refine ((ih (n + 1 + gs (l5.getD i z50).f0 + gs (l5.getD i z50).f1) (by omega) (by omega) (i + 1) (by omega)).imp (fun h => ?_)).step (fun k => ?_)
        · rw [dropD hlt z50]
          show n + (1 + _ + _ + _) + _ + _ ≤ _ ∧ _
          exact ⟨by have := h.1; omega, h.2⟩
        · simp only [falseworklaw13_Great.l1]
          rw [if_pos (by omega), if_pos (by omega), if_pos (by omega), hv, mn_gs, mn_gs, w3 (by omega) (by omega) (by omega), wi hlt h5]
      · refine ((hj n hm).imp (fun h => absurd h.1 (by omega))).step (fun k => ?_)
        simp only [falseworklaw13_Great.l1]
        rw [if_neg (show ¬ ((n : Int) ≤ 60000) by omega), ite_self]
    · refine ((hj n hm).imp (fun h => ?_)).step (fun k => ?_)
      · rw [List.drop_eq_nil_of_le (by omega)]
        exact ⟨by have := h.1; show n + 0 + _ + _ ≤ _; omega, h.2⟩
      · simp only [falseworklaw13_Great.l1]
        rw [if_neg (by omega)]
theorem great_keys (hl : l12.length ≤ maxLen) (hr : ∀ r ∈ l12, r.length ≤ maxLen) (h6 : l6.length ≤ maxLen) (h5 : l5.length ≤ maxLen) (h4 : l4.length ≤ maxLen) (d : Nat) : ∀ n : Nat, 60001 ≤ n + d → n ≤ 200000 →
    ∀ i : Nat, i ≤ l4.length → Nays (fun k => falseworklaw13_Great.l0 k (n : Int) (i : Int) a0 a1 a2 a3 l4 l5 l6 a7 a8 a9 a10 a11 l12) (n + gk (l4.drop i) + gr l5 + gw l6 + gv l12 ≤ 60000 ∧ a10.size ≤ 60000) := by
  have hj : ∀ n : Nat, n ≤ 200000 → Nays (fun k => falseworklaw13_Great.j1 k (n : Int) a0 a1 a2 a3 l4 l5 l6 a7 a8 a9 a10 a11 l12) (n + gr l5 + gw l6 + gv l12 ≤ 60000 ∧ a10.size ≤ 60000) := by
    intro n hn
    refine ((great_ranges a0 a1 a2 a3 l4 l5 l6 a7 a8 a9 a10 a11 l12 hl hr h6 h5 60001 n (by omega) hn) 0 (Nat.zero_le _)).step (fun k => ?_)
    simp only [falseworklaw13_Great.j1]
    rfl
  induction d with
  | zero =>
    intro n hn hm i hi
    refine ((hj n hm).imp (fun h => absurd h.1 (by omega))).step (fun k => ?_)
    simp only [falseworklaw13_Great.l0]
    rw [if_neg (show ¬ ((n : Int) ≤ 60000) by omega), ite_self]
  | succ d ih =>
    intro n hn hm i hi
    by_cases hlt : i < l4.length
    · by_cases hb : n ≤ 60000
      · have hv : rdOf ByteArray.empty l4 (i : Int) = l4.getD i ByteArray.empty := by unfold rdOf; rw [Int.toNat_natCast]
        have hg := gs_le (l4.getD i ByteArray.empty)
        refine ((ih (n + 1 + gs (l4.getD i ByteArray.empty)) (by omega) (by omega) (i + 1) (by omega)).imp (fun h => ?_)).step (fun k => ?_)
        · rw [dropD hlt ByteArray.empty]
          show n + (1 + _ + _) + _ + _ + _ ≤ _ ∧ _
          exact ⟨by have := h.1; omega, h.2⟩
        · simp only [falseworklaw13_Great.l0]
          rw [if_pos (by omega), if_pos (by omega), if_pos (by omega), hv, mn_gs, w2 (by omega) (by omega), wi hlt h4]
      · refine ((hj n hm).imp (fun h => absurd h.1 (by omega))).step (fun k => ?_)
        simp only [falseworklaw13_Great.l0]
        rw [if_neg (show ¬ ((n : Int) ≤ 60000) by omega), ite_self]
    · refine ((hj n hm).imp (fun h => ?_)).step (fun k => ?_)
      · rw [List.drop_eq_nil_of_le (by omega)]
        exact ⟨by have := h.1; show n + 0 + _ + _ + _ ≤ _; omega, h.2⟩
      · simp only [falseworklaw13_Great.l0]
        rw [if_neg (by omega)]
theorem great_is (hl : l12.length ≤ maxLen) (hr : ∀ r ∈ l12, r.length ≤ maxLen) (h6 : l6.length ≤ maxLen) (h5 : l5.length ≤ maxLen) (h4 : l4.length ≤ maxLen) :
    Nays (fun k => falseworklaw13_Great.f k a0 a1 a2 a3 l4 l5 l6 a7 a8 a9 a10 a11 l12) (gk l4 + gr l5 + gw l6 + gv l12 ≤ 60000 ∧ a10.size ≤ 60000) := by
  refine ((great_keys a0 a1 a2 a3 l4 l5 l6 a7 a8 a9 a10 a11 l12 hl hr h6 h5 h4 60001 0 (by omega) (by omega) 0 (Nat.zero_le _)).imp (fun h => ?_))
  rw [List.drop_zero] at h
  exact ⟨by have := h.1; omega, h.2⟩
end
theorem gw_len : ∀ l : List Wx, l.length ≤ gw l
  | [] => Nat.le_refl _
  | s :: r => by have := gw_len r; show r.length + 1 ≤ 1 + gs s.f0 + gs s.f1 + gw r; omega
end Go.Proofs.Ytikiegglebgmpaa.PA
/- Which commands may be: what the program's and the document's functions come to: one truth, told from some number of rounds on. -/
namespace Go.Proofs.Ytikiegglebgmpaa.PA
open Go.RowKit Go.Proofs.YtikiegglebgmpaaW.PrintWords Go.Proofs.YtikiegglebgmpaaW.PrintLast Go.Proofs.Ytikiegglebgmpaa.Plain

/-- From some number of rounds on this is told. -/
def Tells (F : Nat → Option Bool) (b : Bool) : Prop := ∃ K : Nat, ∀ k, K ≤ k → F k = some b
theorem Tells.step {F G : Nat → Option Bool} {b : Bool} (h : Tells G b) (m : Nat) (e : ∀ k, m ≤ k → F (k + 1) = G k) : Tells F b := by
  obtain ⟨K, h2⟩ := h
  refine ⟨K + m + 1, fun k hk => ?_⟩
  obtain ⟨j, rfl⟩ : ∃ j, k = j + 1 := ⟨k - 1, by omega⟩
  rw [e j (by omega), h2 j (by omega)]
theorem Tells.const {F : Nat → Option Bool} {b : Bool} (m : Nat) (e : ∀ k, m ≤ k → F (k + 1) = some b) : Tells F b :=
  ⟨m + 1, fun k hk => by obtain ⟨j, rfl⟩ : ∃ j, k = j + 1 := ⟨k - 1, by omega⟩; exact e j (by omega)⟩
theorem Tells.and {F G : Nat → Option Bool} {a b : Bool} (hF : Tells F a) (hG : Tells G b) : Tells (fun k => (F k).bind fun t => if t = true then G k else some false) (a && b) := by
  obtain ⟨K, h1⟩ := hF
  obtain ⟨J, h2⟩ := hG
  refine ⟨K + J, fun k hk => ?_⟩
  show ((F k).bind fun t => if t = true then G k else some false) = some (a && b)
  rw [h1 k (by omega), Option.bind_some]
  cases a
  · rfl
  · rw [if_pos rfl, h2 k (by omega)]; rfl
theorem Tells.eq {F G : Nat → Option Bool} {b : Bool} (h : Tells G b) (e : ∀ k, F k = G k) : Tells F b := by
  obtain ⟨K, h2⟩ := h
  exact ⟨K, fun k hk => by rw [e, h2 k hk]⟩
theorem downT (n : Nat) (P : Nat → Prop) (hn : P n) (st : ∀ i, i < n → P (i + 1) → P i) : ∀ i, i ≤ n → P i := by
  intro i hi
  obtain ⟨d, hd⟩ : ∃ d, i + d = n := ⟨n - i, by omega⟩
  clear hi
  revert i
  induction d with
  | zero => intro i hd; obtain rfl : i = n := by omega
            exact hn
  | succ d ih => intro i hd; exact st i (by omega) (ih (i + 1) (by omega))
def befo (p : Option ByteArray) (x : ByteArray) : Bool := match p with
  | none => true
  | some q => Op.bytesLess q.toList x.toList
def keysOk : Option ByteArray → List ByteArray → Bool
  | _, [] => true
  | p, x :: r => (decide (x.size ≤ 1000) && befo p x) && keysOk (some x) r
def rangesOk (l : List Rx) : Bool := l.all fun r => decide (r.f0.size ≤ 1000) && decide (r.f1.size ≤ 1000)
def mayV (x : Vx) : Bool := mayB x.f0 x.f1 x.f2.toNat x.f3.data.toList
def rowOk (r : List Vx) : Bool := decide (r.length ≤ 8) && r.all mayV
def timeOk (n : Int) : Bool := decide (0 ≤ n) && decide (n ≤ 1099511627776)
/-- May a command be? -/
def cmdOk (a0 a1 a2 a3 : Int) (l4 : List ByteArray) (l5 : List Rx) (l6 : List Wx) (a7 a8 a9 : Int) (a10 : ByteArray) (a11 : Int) (l12 : List (List Vx)) : Bool :=
  (decide (0 ≤ a0) && decide (a0 ≤ 5) && decide (0 ≤ a1) && decide (a1 ≤ 100) && decide (a10.size ≤ 1000) && decide (0 ≤ a11) && decide (a11 ≤ 21) && decide (l12.length ≤ 200)) &&
  ([a2, a3, a7, a8, a9].all timeOk && (l12.all rowOk && ((keysOk none l4 && (rangesOk l5 && (decide (l4.length ≤ 200) && decide (l5.length ≤ 50)))) && (cmd_writes.chk none l6 && decide (l6.length ≤ 200)))))
/-- The key ahead of a place. -/
def pk (l : List ByteArray) : Nat → Option ByteArray
  | 0 => none
  | n + 1 => some (l.getD n ByteArray.empty)
theorem keysOk_at {l : List ByteArray} {i : Nat} (h : i < l.length) : keysOk (pk l i) (l.drop i) = ((decide ((l.getD i ByteArray.empty).size ≤ 1000) && befo (pk l i) (l.getD i ByteArray.empty)) && keysOk (pk l (i + 1)) (l.drop (i + 1))) := by
  rw [dropD h ByteArray.empty]; rfl
theorem all_at {α : Type} {l : List α} {i : Nat} (h : i < l.length) (d : α) (f : α → Bool) : (l.drop i).all f = (f (l.getD i d) && (l.drop (i + 1)).all f) := by
  rw [dropD h d]; rfl
theorem may_v {x : Vx} (h : (Lit.int .u64 x.f2).wf = true) : value_May.f x.f0 x.f1 x.f2 x.f3 = some (mayV x) := by
  obtain ⟨n, e, hn⟩ := u64_nat h
  unfold mayV
  rw [e, value_may_is x.f0 x.f1 hn x.f3, Int.toNat_natCast]
theorem short1 (s : ByteArray) {k : Nat} (hk : 3 ≤ k) : cmd_short.f k [s] = some (decide (s.size ≤ 1000)) := by
  obtain ⟨j, rfl⟩ : ∃ j, k = j + 3 := ⟨k - 3, by omega⟩
  have e : rdOf ByteArray.empty [s] 0 = s := rfl
  have e1 : wrap64 (1 : Int) = 1 := by unfold wrap64; omega
  by_cases h : ((s.size : Int) > 1000)
  · have h2 : ¬ s.size ≤ 1000 := by omega
    simp [cmd_short.f, cmd_short.l0, e, h, h2]
  · have h2 : s.size ≤ 1000 := by omega
    simp [cmd_short.f, cmd_short.l0, e, e1, h, h2]
theorem short2 (s t : ByteArray) {k : Nat} (hk : 4 ≤ k) : cmd_short.f k [s, t] = some (decide (s.size ≤ 1000) && decide (t.size ≤ 1000)) := by
  obtain ⟨j, rfl⟩ : ∃ j, k = j + 4 := ⟨k - 4, by omega⟩
  have e : rdOf ByteArray.empty [s, t] 0 = s := rfl
  have e2 : rdOf ByteArray.empty [s, t] 1 = t := rfl
  have e1 : wrap64 (1 : Int) = 1 := by unfold wrap64; omega
  have e3 : wrap64 (2 : Int) = 2 := by unfold wrap64; omega
  by_cases h : ((s.size : Int) > 1000)
  · have h2 : ¬ s.size ≤ 1000 := by omega
    simp [cmd_short.f, cmd_short.l0, e, h, h2]
  · have h2 : s.size ≤ 1000 := by omega
    by_cases g : ((t.size : Int) > 1000)
    · have g2 : ¬ t.size ≤ 1000 := by omega
      simp [cmd_short.f, cmd_short.l0, e, e1, e2, h, h2, g, g2]
    · have g2 : t.size ≤ 1000 := by omega
      simp [cmd_short.f, cmd_short.l0, e, e1, e2, e3, h, h2, g, g2]
theorem wm {i : Nat} (h : 0 < i) (hn : i ≤ 9223372036854775807) : wrap64 ((i : Int) - 1) = ((i - 1 : Nat) : Int) := by unfold wrap64; omega
theorem rdN (l : List ByteArray) (i : Nat) : rdOf ByteArray.empty l (i : Int) = l.getD i ByteArray.empty := by unfold rdOf; rw [Int.toNat_natCast]
theorem rdR (l : List Rx) (i : Nat) : rd_T50 l (i : Int) = l.getD i z50 := by unfold rd_T50; rw [Int.toNat_natCast]
theorem rdV (l : List Vx) (i : Nat) : rd_T45 l (i : Int) = l.getD i z45 := by unfold rd_T45; rw [Int.toNat_natCast]
theorem rdL (l : List (List Vx)) (i : Nat) : rd_L7 l (i : Int) = l.getD i [] := by unfold rd_L7; rw [Int.toNat_natCast]
theorem pk_pos {l : List ByteArray} {i : Nat} (h : 0 < i) : pk l i = some (l.getD (i - 1) ByteArray.empty) := by
  obtain ⟨m, rfl⟩ : ∃ m, i = m + 1 := ⟨i - 1, by omega⟩
  rfl
section
variable (a0 a1 a2 a3 : Int) (l4 : List ByteArray) (l5 : List Rx) (l6 : List Wx) (a7 a8 a9 : Int) (a10 : ByteArray) (a11 : Int) (l12 : List (List Vx))
theorem reads_ranges (h5 : l5.length ≤ maxLen) : ∀ i, i ≤ l5.length → Tells (fun k => cmd_reads.l1 k l5 (l5.length : Int) (i : Int) a0 a1 a2 a3 l4 l5 l6 a7 a8 a9 a10 a11 l12) ((l5.drop i).all (fun r => decide (r.f0.size ≤ 1000) && decide (r.f1.size ≤ 1000)) && (decide (l4.length ≤ 200) && decide (l5.length ≤ 50))) := by
  refine downT _ _ ?_ (fun i hi ih => ?_)
  · refine Tells.const 0 (fun k _ => ?_)
    simp only [cmd_reads.l1]
    rw [if_neg (by omega), List.drop_length, List.all_nil, Bool.true_and]
    by_cases h : l4.length ≤ 200
    · rw [if_pos (by omega), decide_eq_true h, Bool.true_and]; congr 1; exact decide_eq_decide.mpr (by omega)
    · rw [if_neg (by omega), decide_eq_false h]; rfl
  · rw [all_at hi z50]
    cases hp : (decide ((l5.getD i z50).f0.size ≤ 1000) && decide ((l5.getD i z50).f1.size ≤ 1000))
    · refine Tells.const 4 (fun k hk => ?_)
      simp only [cmd_reads.l1]
      rw [if_pos (by omega), if_pos (by omega), if_pos (by omega), rdR, short2 _ _ hk, Option.bind_some, hp]; rfl
    · rw [Bool.true_and]
      refine ih.step 4 (fun k hk => ?_)
      simp only [cmd_reads.l1]
      rw [if_pos (by omega), if_pos (by omega), if_pos (by omega), rdR, short2 _ _ hk, Option.bind_some, hp, if_pos rfl, wi hi h5]
theorem reads_keys (h4 : l4.length ≤ maxLen) (h5 : l5.length ≤ maxLen) : ∀ i, i ≤ l4.length → Tells (fun k => cmd_reads.l0 k l4 (l4.length : Int) (i : Int) a0 a1 a2 a3 l4 l5 l6 a7 a8 a9 a10 a11 l12) (keysOk (pk l4 i) (l4.drop i) && (rangesOk l5 && (decide (l4.length ≤ 200) && decide (l5.length ≤ 50)))) := by
  refine downT _ _ ?_ (fun i hi ih => ?_)
  · have h := reads_ranges a0 a1 a2 a3 l4 l5 l6 a7 a8 a9 a10 a11 l12 h5 0 (Nat.zero_le _)
    rw [List.drop_zero] at h
    rw [List.drop_length]
    refine h.step 0 (fun k _ => ?_)
    simp only [cmd_reads.l0]
    rw [if_neg (by omega)]; rfl
  · rw [keysOk_at hi]
    cases hs : decide ((l4.getD i ByteArray.empty).size ≤ 1000)
    · refine Tells.const 3 (fun k hk => ?_)
      simp only [cmd_reads.l0]
      rw [if_pos (by omega), if_pos (by omega), if_pos (by omega), rdN, short1 _ hk, Option.bind_some, hs]; rfl
    · rw [Bool.true_and]
      by_cases hz : 0 < i
      · have hb : befo (pk l4 i) (l4.getD i ByteArray.empty) = Op.bytesLess (l4.getD (i - 1) ByteArray.empty).toList (l4.getD i ByteArray.empty).toList := by rw [pk_pos hz]; rfl
        have hm := hi
        have hM := h4
        unfold maxLen at hM
        have hw := wm hz (show i ≤ 9223372036854775807 by omega)
        cases hl : Op.bytesLess (l4.getD (i - 1) ByteArray.empty).toList (l4.getD i ByteArray.empty).toList
        · rw [hb, hl]
          refine Tells.const 3 (fun k hk => ?_)
          simp only [cmd_reads.l0]
          rw [if_pos (by omega), if_pos (by omega), if_pos (by omega), rdN, short1 _ hk, Option.bind_some, hs, if_pos rfl, if_pos (by omega), hw, if_pos (by omega), if_pos (by omega), rdN, hl]; rfl
        · rw [hb, hl, Bool.true_and]
          refine ih.step 3 (fun k hk => ?_)
          simp only [cmd_reads.l0]
          rw [if_pos (by omega), if_pos (by omega), if_pos (by omega), rdN, short1 _ hk, Option.bind_some, hs, if_pos rfl, if_pos (by omega), hw, if_pos (by omega), if_pos (by omega), rdN, hl, if_pos rfl, wi hi h4]
      · obtain rfl : i = 0 := by omega
        have hb : befo (pk l4 0) (l4.getD 0 ByteArray.empty) = true := rfl
        rw [hb, Bool.true_and]
        refine ih.step 3 (fun k hk => ?_)
        simp only [cmd_reads.l0]
        rw [if_pos (by omega), if_pos (by omega), if_pos (by omega), rdN, short1 _ hk, Option.bind_some, hs, if_pos rfl, if_neg (by omega), wi hi h4]
theorem reads_is (h4 : l4.length ≤ maxLen) (h5 : l5.length ≤ maxLen) : Tells (fun k => cmd_reads.f k a0 a1 a2 a3 l4 l5 l6 a7 a8 a9 a10 a11 l12) (keysOk none l4 && (rangesOk l5 && (decide (l4.length ≤ 200) && decide (l5.length ≤ 50)))) := by
  have h := reads_keys a0 a1 a2 a3 l4 l5 l6 a7 a8 a9 a10 a11 l12 h4 h5 0 (Nat.zero_le _)
  rw [List.drop_zero] at h
  exact h.eq (fun _ => rfl)
theorem times_is (Z : Bool) (h1 : Tells (fun k => cmd_May.l1 k l12 (l12.length : Int) 0 a0 a1 a2 a3 l4 l5 l6 a7 a8 a9 a10 a11 l12) Z) (l : List Int) (hl : l.length ≤ 1000) : ∀ i, i ≤ l.length → Tells (fun k => cmd_May.l0 k l (l.length : Int) (i : Int) a0 a1 a2 a3 l4 l5 l6 a7 a8 a9 a10 a11 l12) ((l.drop i).all timeOk && Z) := by
  refine downT _ _ ?_ (fun i hi ih => ?_)
  · rw [List.drop_length, List.all_nil, Bool.true_and]
    refine h1.step 0 (fun k _ => ?_)
    simp only [cmd_May.l0]
    rw [if_neg (by omega)]
  · have hr : rd l (i : Int) = l.getD i 0 := by unfold rd; rw [Int.toNat_natCast]
    rw [all_at hi 0]
    cases hp : timeOk (l.getD i 0)
    · refine Tells.const 0 (fun k _ => ?_)
      simp only [cmd_May.l0]
      rw [if_pos (by omega), if_pos (by omega), if_pos (by omega), hr]
      by_cases hz : l.getD i 0 < 0
      · rw [if_pos hz]; rfl
      · rw [if_neg hz, if_pos ?_]
        · rfl
        · unfold timeOk at hp
          rw [decide_eq_true (show 0 ≤ l.getD i 0 by omega), Bool.true_and] at hp
          have := of_decide_eq_false hp
          omega
    · rw [Bool.true_and]
      unfold timeOk at hp
      rw [Bool.and_eq_true, decide_eq_true_eq, decide_eq_true_eq] at hp
      refine ih.step 0 (fun k _ => ?_)
      simp only [cmd_May.l0]
      rw [if_pos (by omega), if_pos (by omega), if_pos (by omega), hr, if_neg (by omega), if_neg (by omega), wi hi (by unfold maxLen; omega)]
theorem may_rows (hl : l12.length ≤ maxLen) (hr : ∀ r ∈ l12, r.length ≤ maxLen ∧ ∀ x ∈ r, (Lit.int .u64 x.f2).wf = true) (Z : Bool)
    (hz : Tells (fun k => (cmd_reads.f k a0 a1 a2 a3 l4 l5 l6 a7 a8 a9 a10 a11 l12).bind fun t => if t = true then ((cmd_writes.f a0 a1 a2 a3 l4 l5 l6 a7 a8 a9 a10 a11 l12).bind fun u => some u) else some false) Z) :
    ∀ i, i ≤ l12.length → Tells (fun k => cmd_May.l1 k l12 (l12.length : Int) (i : Int) a0 a1 a2 a3 l4 l5 l6 a7 a8 a9 a10 a11 l12) ((l12.drop i).all rowOk && Z) := by
  refine downT _ _ ?_ (fun i hi ih => ?_)
  · rw [List.drop_length, List.all_nil, Bool.true_and]
    refine hz.step 0 (fun k _ => ?_)
    simp only [cmd_May.l1]
    rw [if_neg (by omega)]
  · rw [all_at hi []]
    obtain ⟨row, hrow⟩ : ∃ r, l12.getD i [] = r := ⟨_, rfl⟩
    have hm := hr row (by rw [← hrow, List.getD_eq_getElem?_getD, List.getElem?_eq_getElem hi, Option.getD_some]; exact List.getElem_mem hi)
    rw [hrow]
    have inner : ∀ e, e ≤ row.length → Tells (fun k => cmd_May.l2 k row l12 (l12.length : Int) (i : Int) row (row.length : Int) (e : Int) a0 a1 a2 a3 l4 l5 l6 a7 a8 a9 a10 a11 l12) ((row.drop e).all mayV && (decide (row.length ≤ 8) && ((l12.drop (i + 1)).all rowOk && Z))) := by
      refine downT _ _ ?_ (fun e he ie => ?_)
      · rw [List.drop_length, List.all_nil, Bool.true_and]
        by_cases h8 : row.length ≤ 8
        · rw [decide_eq_true h8, Bool.true_and]
          refine ih.step 0 (fun k _ => ?_)
          simp only [cmd_May.l2]
          rw [if_neg (by omega), if_neg (by omega), wi hi hl]
        · rw [decide_eq_false h8]
          refine Tells.const 0 (fun k _ => ?_)
          simp only [cmd_May.l2]
          rw [if_neg (by omega), if_pos (by omega)]; rfl
      · rw [all_at he z45]
        have hv : (Lit.int .u64 (row.getD e z45).f2).wf = true := hm.2 _ (by rw [List.getD_eq_getElem?_getD, List.getElem?_eq_getElem he, Option.getD_some]; exact List.getElem_mem he)
        cases hp : mayV (row.getD e z45)
        · refine Tells.const 0 (fun k _ => ?_)
          simp only [cmd_May.l2]
          rw [if_pos (by omega), if_pos (by omega), if_pos (by omega), rdV, may_v hv, Option.bind_some, hp]; rfl
        · rw [Bool.true_and]
          refine ie.step 0 (fun k _ => ?_)
          simp only [cmd_May.l2]
          rw [if_pos (by omega), if_pos (by omega), if_pos (by omega), rdV, may_v hv, Option.bind_some, hp, if_pos rfl, wi he hm.1]
    have h0 := inner 0 (Nat.zero_le _)
    rw [List.drop_zero] at h0
    have e : (rowOk row && (l12.drop (i + 1)).all rowOk && Z) = (row.all mayV && (decide (row.length ≤ 8) && ((l12.drop (i + 1)).all rowOk && Z))) := by
      unfold rowOk
      cases row.all mayV <;> cases decide (row.length ≤ 8) <;> rfl
    rw [e]
    refine h0.step 0 (fun k _ => ?_)
    simp only [cmd_May.l1]
    rw [if_pos (by omega), if_pos (by omega), if_pos (by omega), rdL, hrow]
    rfl
theorem may_is (h4 : l4.length ≤ maxLen) (h5 : l5.length ≤ maxLen) (h6 : l6.length < 800000000) (hl : l12.length ≤ maxLen) (hr : ∀ r ∈ l12, r.length ≤ maxLen ∧ ∀ x ∈ r, (Lit.int .u64 x.f2).wf = true) :
    Tells (fun k => cmd_May.f k a0 a1 a2 a3 l4 l5 l6 a7 a8 a9 a10 a11 l12) (cmdOk a0 a1 a2 a3 l4 l5 l6 a7 a8 a9 a10 a11 l12) := by
  have hw : ∀ Q : Int, cmd_writes.f a0 a1 a2 a3 l4 l5 l6 a7 a8 a9 a10 a11 l12 = some (cmd_writes.chk none l6 && decide (l6.length ≤ 200)) := by
    intro _
    unfold cmd_writes.f
    rw [if_pos h6]
    congr 2
    exact decide_eq_decide.mpr (by omega)
  have hz := (reads_is a0 a1 a2 a3 l4 l5 l6 a7 a8 a9 a10 a11 l12 h4 h5).and (G := fun _ => some (cmd_writes.chk none l6 && decide (l6.length ≤ 200))) ⟨0, fun _ _ => rfl⟩
  have h1 := may_rows a0 a1 a2 a3 l4 l5 l6 a7 a8 a9 a10 a11 l12 hl hr _ (hz.eq (fun k => by rw [hw 0]; rfl)) 0 (Nat.zero_le _)
  rw [List.drop_zero] at h1
  have h2 := times_is a0 a1 a2 a3 l4 l5 l6 a7 a8 a9 a10 a11 l12 _ h1 [a2, a3, a7, a8, a9] (show 5 ≤ 1000 by decide) 0 (Nat.zero_le _)
  rw [List.drop_zero] at h2
  have h3 : ∀ b : Bool, Tells (fun k => cmd_May.j0 k b a0 a1 a2 a3 l4 l5 l6 a7 a8 a9 a10 a11 l12) (!b && ([a2, a3, a7, a8, a9].all timeOk && (l12.all rowOk && ((keysOk none l4 && (rangesOk l5 && (decide (l4.length ≤ 200) && decide (l5.length ≤ 50)))) && (cmd_writes.chk none l6 && decide (l6.length ≤ 200)))))) := by
    intro b
    cases b
    · exact h2.step 0 (fun k _ => by simp only [cmd_May.j0]; rfl)
    · exact Tells.const 0 (fun k _ => by simp only [cmd_May.j0]; rfl)
  have ht := h3 true
  unfold cmdOk
  by_cases c0 : a0 < 0
  · rw [decide_eq_false (show ¬ 0 ≤ a0 by omega)]; exact ht.eq (fun k => by unfold cmd_May.f; rw [if_pos c0])
  rw [decide_eq_true (show 0 ≤ a0 by omega)]
  by_cases c1 : a0 > 5
  · rw [decide_eq_false (show ¬ a0 ≤ 5 by omega)]; exact ht.eq (fun k => by unfold cmd_May.f; rw [if_neg c0, if_pos c1])
  rw [decide_eq_true (show a0 ≤ 5 by omega)]
  by_cases c2 : a1 < 0
  · rw [decide_eq_false (show ¬ 0 ≤ a1 by omega)]; exact ht.eq (fun k => by unfold cmd_May.f; rw [if_neg c0, if_neg c1, if_pos c2])
  rw [decide_eq_true (show 0 ≤ a1 by omega)]
  by_cases c3 : a1 > 100
  · rw [decide_eq_false (show ¬ a1 ≤ 100 by omega)]; exact ht.eq (fun k => by unfold cmd_May.f; rw [if_neg c0, if_neg c1, if_neg c2, if_pos c3])
  rw [decide_eq_true (show a1 ≤ 100 by omega)]
  by_cases c4 : (a10.size : Int) > 1000
  · rw [decide_eq_false (show ¬ a10.size ≤ 1000 by omega)]; exact ht.eq (fun k => by unfold cmd_May.f; rw [if_neg c0, if_neg c1, if_neg c2, if_neg c3, if_pos c4])
  rw [decide_eq_true (show a10.size ≤ 1000 by omega)]
  by_cases c5 : a11 < 0
  · rw [decide_eq_false (show ¬ 0 ≤ a11 by omega)]; exact ht.eq (fun k => by unfold cmd_May.f; rw [if_neg c0, if_neg c1, if_neg c2, if_neg c3, if_neg c4, if_pos c5])
  rw [decide_eq_true (show 0 ≤ a11 by omega)]
  by_cases c6 : a11 > 21
  · rw [decide_eq_false (show ¬ a11 ≤ 21 by omega)]; exact ht.eq (fun k => by unfold cmd_May.f; rw [if_neg c0, if_neg c1, if_neg c2, if_neg c3, if_neg c4, if_neg c5, if_pos c6])
  rw [decide_eq_true (show a11 ≤ 21 by omega)]
  have e7 : decide (l12.length ≤ 200) = !(decide ((l12.length : Int) > 200)) := by
    rw [← decide_not]; exact decide_eq_decide.mpr (by omega)
  rw [e7]
  exact (h3 (decide ((l12.length : Int) > 200))).eq (fun k => by unfold cmd_May.f; rw [if_neg c0, if_neg c1, if_neg c2, if_neg c3, if_neg c4, if_neg c5, if_neg c6])
end
end Go.Proofs.Ytikiegglebgmpaa.PA
/- The document's example: the command without anything has 108 bytes. -/
namespace Go.Proofs.Ytikiegglebgmpaa.PA
open Go.RowKit Go.Proofs.YtikiegglebgmpaaW.PrintWords Go.Proofs.YtikiegglebgmpaaW.PrintLast Go.Proofs.Ytikiegglebgmpaa.Plain

theorem size_nums (F : List Int) : (strOfNums F).size = F.length := by
  unfold strOfNums
  simp [ByteArray.size]
theorem cmd_none_ok : cmdOk 0 0 0 0 [] [] [] 0 0 0 (⟨#[]⟩ : ByteArray) 0 [] = true := by decide
theorem cmd_none_length : (cmd_Put.cb 0 0 0 0 [] [] [] 0 0 0 (⟨#[]⟩ : ByteArray) 0 []).length = 104 := by decide
theorem cmd_awake : Tells (fun k => falseworklaw13_awake.f k) true := by
  obtain ⟨K, hK⟩ := may_is 0 0 0 0 [] [] [] 0 0 0 (⟨#[]⟩ : ByteArray) 0 [] (Nat.zero_le _) (Nat.zero_le _) (by decide) (Nat.zero_le _) (fun r hr => by cases hr)
  refine ⟨K + 2000, fun k hk => ?_⟩
  obtain ⟨F, hF⟩ : ∃ F, F = cmd_Put.cb 0 0 0 0 [] [] [] 0 0 0 (⟨#[]⟩ : ByteArray) 0 [] := ⟨_, rfl⟩
  have hl : F.length = 104 := by rw [hF]; exact cmd_none_length
  have hs : (strOfNums F).size = 104 := by rw [size_nums, hl]
  show falseworklaw13_awake.f k = some true
  unfold falseworklaw13_awake.f cmd_Put.f
  have e := hK k (by omega)
  dsimp only at e
  rw [e, cmd_none_ok, Option.bind_some, if_pos rfl, ← hF]
  unfold cmd_Put.put
  rw [if_pos (by omega), put_is _ (by omega) k (by omega), Option.bind_some, Option.bind_some]
  have hz : (sealed (strOfNums F)).size = 108 := by rw [size_sealed, hs]
  unfold cmd_Put.ans
  rw [hz, if_neg (by decide)]
  dsimp only
  unfold falseworklaw13_num.f
  rw [Option.bind_some, if_pos rfl, hz]
  rfl
end Go.Proofs.Ytikiegglebgmpaa.PA
/- The bytes of a command: what the program's and the document's functions come to, once a command has not too many parts. -/
namespace Go.Proofs.Ytikiegglebgmpaa.PA
open Go.RowKit Go.Proofs.YtikiegglebgmpaaW.PrintWords Go.Proofs.YtikiegglebgmpaaW.PrintLast Go.Proofs.Ytikiegglebgmpaa.Plain

theorem gs_size {s : ByteArray} (h : gs s ≤ 59999) : s.size = gs s := by
  unfold gs at h ⊢
  omega
theorem ksb_few : ∀ l : List ByteArray, gk l ≤ 60000 → (cmd_Put.ksb l).length ≤ 32 * gk l
  | [], _ => Nat.le_refl _
  | s :: r, h => by
    have h0 : 1 + gs s + gk r ≤ 60000 := h
    have ih := ksb_few r (by omega)
    have e := gs_size (s := s) (by omega)
    show (cmd_Put.tb s ++ cmd_Put.ksb r).length ≤ 32 * (1 + gs s + gk r)
    rw [List.length_append, cmd_Put.tb_length]
    omega
theorem rgb_few : ∀ l : List Rx, gr l ≤ 60000 → (cmd_Put.rgb l).length ≤ 32 * gr l
  | [], _ => Nat.le_refl _
  | s :: r, h => by
    have h0 : 1 + gs s.f0 + gs s.f1 + gr r ≤ 60000 := h
    have ih := rgb_few r (by omega)
    have e := gs_size (s := s.f0) (by omega)
    have e1 := gs_size (s := s.f1) (by omega)
    show ((cmd_Put.tb s.f0 ++ cmd_Put.tb s.f1) ++ cmd_Put.rgb r).length ≤ 32 * (1 + gs s.f0 + gs s.f1 + gr r)
    rw [List.length_append, List.length_append, cmd_Put.tb_length, cmd_Put.tb_length]
    omega
theorem wsb_few : ∀ l : List Wx, gw l ≤ 60000 → (cmd_Put.wsb l).length ≤ 32 * gw l
  | [], _ => Nat.le_refl _
  | s :: r, h => by
    have h0 : 1 + gs s.f0 + gs s.f1 + gw r ≤ 60000 := h
    have ih := wsb_few r (by omega)
    have e := gs_size (s := s.f0) (by omega)
    have e1 := gs_size (s := s.f1) (by omega)
    show ((cmd_Put.tb s.f0 ++ (cmd_Put.tb s.f1 ++ cmd_Put.nb [if s.f2 then 1 else 0])) ++ cmd_Put.wsb r).length ≤ 32 * (1 + gs s.f0 + gs s.f1 + gw r)
    rw [List.length_append, List.length_append, List.length_append, cmd_Put.tb_length, cmd_Put.tb_length, cmd_Put.nb_length, List.length_singleton]
    omega
theorem vsb_few : ∀ l : List Vx, gvs l ≤ 60000 → (cmd_Put.vsb l).length ≤ 32 * gvs l
  | [], _ => Nat.le_refl _
  | s :: r, h => by
    have h0 : 1 + gs s.f3 + gvs r ≤ 60000 := h
    have ih := vsb_few r (by omega)
    have e := gs_size (s := s.f3) (by omega)
    show (cmd_Put.vb s ++ cmd_Put.vsb r).length ≤ 32 * (1 + gs s.f3 + gvs r)
    have hw : ∀ x, (cmd_Put.w8 x).length = 8 := fun _ => rfl
    unfold cmd_Put.vb
    rw [List.length_append, List.length_append, List.length_append, List.length_append, cmd_Put.tb_length, cmd_Put.nb_length, List.length_singleton, hw, hw]
    omega
theorem rsb_few : ∀ l : List (List Vx), gv l ≤ 60000 → (cmd_Put.rsb l).length ≤ 32 * gv l
  | [], _ => Nat.le_refl _
  | s :: r, h => by
    have h0 : 1 + gvs s + gv r ≤ 60000 := h
    have ih := rsb_few r (by omega)
    have e := vsb_few s (by omega)
    show (cmd_Put.rowb s ++ cmd_Put.rsb r).length ≤ 32 * (1 + gvs s + gv r)
    unfold cmd_Put.rowb
    rw [List.length_append, List.length_append, cmd_Put.nb_length, List.length_singleton]
    omega
section
variable (a0 a1 a2 a3 : Int) (l4 : List ByteArray) (l5 : List Rx) (l6 : List Wx) (a7 a8 a9 : Int) (a10 : ByteArray) (a11 : Int) (l12 : List (List Vx))
theorem cb_few (hs : gk l4 + gr l5 + gw l6 + gv l12 ≤ 60000) (ht : a10.size ≤ 60000) : (cmd_Put.cb a0 a1 a2 a3 l4 l5 l6 a7 a8 a9 a10 a11 l12).length ≤ 3000000 := by
  have e4 := ksb_few l4 (by omega)
  have e5 := rgb_few l5 (by omega)
  have e6 := wsb_few l6 (by omega)
  have e12 := rsb_few l12 (by omega)
  unfold cmd_Put.cb cmd_Put.rb
  simp only [List.length_append, cmd_Put.nb_length, cmd_Put.tb_length, List.length_cons, List.length_nil]
  omega
/-- What Put answers of a command's bytes. -/
def putAns (F : List Int) : ByteArray × Int := if F.length > 19996 then ((⟨#[]⟩ : ByteArray), 2) else (sealed (strOfNums F), 0)
def cmdPutB : ByteArray × Int := if cmdOk a0 a1 a2 a3 l4 l5 l6 a7 a8 a9 a10 a11 l12 = true then putAns (cmd_Put.cb a0 a1 a2 a3 l4 l5 l6 a7 a8 a9 a10 a11 l12) else ((⟨#[]⟩ : ByteArray), 1)
theorem put_of {F : List Int} (h : F.length ≤ 3000000) {k : Nat} (hk : 40000000 ≤ k) : cmd_Put.put k F = some (putAns F) := by
  have hs : (strOfNums F).size = F.length := size_nums F
  unfold cmd_Put.put
  rw [if_pos (by omega), put_is _ (by omega) k (by omega), Option.bind_some]
  have hz : (sealed (strOfNums F)).size = F.length + 4 := by rw [size_sealed, hs]
  unfold cmd_Put.ans putAns
  rw [hz]
  by_cases h2 : F.length > 19996
  · rw [if_pos h2, if_pos (by omega)]
  · rw [if_neg h2, if_neg (by omega)]
theorem cmd_put_isF (h4 : l4.length ≤ maxLen) (h5 : l5.length ≤ maxLen) (h6 : l6.length < 800000000) (hl : l12.length ≤ maxLen) (hr : ∀ r ∈ l12, r.length ≤ maxLen ∧ ∀ x ∈ r, (Lit.int .u64 x.f2).wf = true)
    (hF : (cmd_Put.cb a0 a1 a2 a3 l4 l5 l6 a7 a8 a9 a10 a11 l12).length ≤ 3000000) : ∃ K, ∀ k, K ≤ k → cmd_Put.f k a0 a1 a2 a3 l4 l5 l6 a7 a8 a9 a10 a11 l12 = some (cmdPutB a0 a1 a2 a3 l4 l5 l6 a7 a8 a9 a10 a11 l12) := by
  obtain ⟨K, hK⟩ := may_is a0 a1 a2 a3 l4 l5 l6 a7 a8 a9 a10 a11 l12 h4 h5 h6 hl hr
  refine ⟨K + 40000000, fun k hk => ?_⟩
  have e := hK k (by omega)
  dsimp only at e
  unfold cmd_Put.f cmdPutB
  rw [e, Option.bind_some]
  cases cmdOk a0 a1 a2 a3 l4 l5 l6 a7 a8 a9 a10 a11 l12
  · rfl
  · rw [if_pos rfl, if_pos rfl, put_of hF (by omega)]
theorem cmd_put_is (h4 : l4.length ≤ maxLen) (h5 : l5.length ≤ maxLen) (hl : l12.length ≤ maxLen) (hr : ∀ r ∈ l12, r.length ≤ maxLen ∧ ∀ x ∈ r, (Lit.int .u64 x.f2).wf = true)
    (hs : gk l4 + gr l5 + gw l6 + gv l12 ≤ 60000) (ht : a10.size ≤ 60000) : ∃ K, ∀ k, K ≤ k → cmd_Put.f k a0 a1 a2 a3 l4 l5 l6 a7 a8 a9 a10 a11 l12 = some (cmdPutB a0 a1 a2 a3 l4 l5 l6 a7 a8 a9 a10 a11 l12) := by
  have l6s := gw_len l6
  exact cmd_put_isF a0 a1 a2 a3 l4 l5 l6 a7 a8 a9 a10 a11 l12 h4 h5 (by omega) hl hr (cb_few a0 a1 a2 a3 l4 l5 l6 a7 a8 a9 a10 a11 l12 hs ht)
end
end Go.Proofs.Ytikiegglebgmpaa.PA
/- Whether two commands are one: of a command and itself it is told that they are. -/
namespace Go.Proofs.Ytikiegglebgmpaa.PA
open Go.RowKit Go.Proofs.YtikiegglebgmpaaW.PrintWords Go.Proofs.YtikiegglebgmpaaW.PrintLast Go.Proofs.Ytikiegglebgmpaa.Plain

theorem texts_same (l : List ByteArray) (h : l.length ≤ maxLen) : Tells (fun k => falseworkref6_Texts.f k l l) true := by
  have key : ∀ i, i ≤ l.length → Tells (fun k => falseworkref6_Texts.l0 k l l (i : Int)) true := by
    refine downT _ _ (Tells.const 0 (fun k _ => ?_)) (fun i hi ih => ih.step 0 (fun k _ => ?_))
    · simp only [falseworkref6_Texts.l0]; rw [if_neg (by omega)]
    · simp only [falseworkref6_Texts.l0]; rw [if_pos (by omega), if_pos (by omega), if_pos (by omega), if_pos trivial, wi hi h]
  exact (key 0 (Nat.zero_le _)).eq (fun k => by unfold falseworkref6_Texts.f; rw [if_pos rfl]; rfl)
theorem ranges_same (l : List Rx) (h : l.length ≤ maxLen) : Tells (fun k => falseworkref6_Ranges.f k l l) true := by
  have key : ∀ i, i ≤ l.length → Tells (fun k => falseworkref6_Ranges.l0 k l l (i : Int)) true := by
    refine downT _ _ (Tells.const 0 (fun k _ => ?_)) (fun i hi ih => ih.step 0 (fun k _ => ?_))
    · simp only [falseworkref6_Ranges.l0]; rw [if_neg (by omega)]
    · simp only [falseworkref6_Ranges.l0]; rw [if_pos (by omega), if_pos (by omega), if_pos (by omega), if_neg (by simp), wi hi h]
  exact (key 0 (Nat.zero_le _)).eq (fun k => by unfold falseworkref6_Ranges.f; rw [if_pos rfl]; rfl)
theorem writes_same (l : List Wx) (h : l.length ≤ maxLen) : Tells (fun k => falseworkref6_Writes.f k l l) true := by
  have key : ∀ i, i ≤ l.length → Tells (fun k => falseworkref6_Writes.l0 k l l (i : Int)) true := by
    refine downT _ _ (Tells.const 0 (fun k _ => ?_)) (fun i hi ih => ih.step 0 (fun k _ => ?_))
    · simp only [falseworkref6_Writes.l0]; rw [if_neg (by omega)]
    · simp only [falseworkref6_Writes.l0]; rw [if_pos (by omega), if_pos (by omega), if_pos (by omega), if_neg (by simp), wi hi h]
  exact (key 0 (Nat.zero_le _)).eq (fun k => by unfold falseworkref6_Writes.f; rw [if_pos rfl]; rfl)
theorem values_same (l : List Vx) (h : l.length ≤ maxLen) : Tells (fun k => falseworkref2_Same.f k l l) true := by
  have key : ∀ i, i ≤ l.length → Tells (fun k => falseworkref2_Same.l0 k l l (i : Int)) true := by
    refine downT _ _ (Tells.const 0 (fun k _ => ?_)) (fun i hi ih => ih.step 0 (fun k _ => ?_))
    · simp only [falseworkref2_Same.l0]; rw [if_neg (by omega)]
    · simp only [falseworkref2_Same.l0]; rw [if_pos (by omega), if_pos (by omega), if_pos (by omega), if_neg (by simp), wi hi h]
  exact (key 0 (Nat.zero_le _)).eq (fun k => by unfold falseworkref2_Same.f; rw [if_pos rfl]; rfl)
theorem rows_same (l : List (List Vx)) (h : l.length ≤ maxLen) (hr : ∀ r ∈ l, r.length ≤ maxLen) : Tells (fun k => falseworkref2_Rows.f k l l) true := by
  have key : ∀ i, i ≤ l.length → Tells (fun k => falseworkref2_Rows.l0 k l l (i : Int)) true := by
    refine downT _ _ (Tells.const 0 (fun k _ => ?_)) (fun i hi ih => ?_)
    · simp only [falseworkref2_Rows.l0]; rw [if_neg (by omega)]
    · have hm := hr (l.getD i []) (by rw [List.getD_eq_getElem?_getD, List.getElem?_eq_getElem hi, Option.getD_some]; exact List.getElem_mem hi)
      obtain ⟨K, hK⟩ := values_same (l.getD i []) hm
      refine ih.step K (fun k hk => ?_)
      have e := hK k hk
      dsimp only at e
      simp only [falseworkref2_Rows.l0]
      rw [if_pos (by omega), if_pos (by omega), if_pos (by omega), rdL, e, Option.bind_some, if_pos rfl, wi hi h]
  exact (key 0 (Nat.zero_le _)).eq (fun k => by unfold falseworkref2_Rows.f; rw [if_pos rfl]; rfl)
theorem cmd_same (a0 a1 a2 a3 : Int) (l4 : List ByteArray) (l5 : List Rx) (l6 : List Wx) (a7 a8 a9 : Int) (a10 : ByteArray) (a11 : Int) (l12 : List (List Vx))
    (h4 : l4.length ≤ maxLen) (h5 : l5.length ≤ maxLen) (h6 : l6.length ≤ maxLen) (hl : l12.length ≤ maxLen) (hr : ∀ r ∈ l12, r.length ≤ maxLen) :
    Tells (fun k => falseworkref6_SameCmd.f k a0 a1 a2 a3 l4 l5 l6 a7 a8 a9 a10 a11 l12 a0 a1 a2 a3 l4 l5 l6 a7 a8 a9 a10 a11 l12) true := by
  obtain ⟨K1, e1⟩ := texts_same l4 h4
  obtain ⟨K2, e2⟩ := ranges_same l5 h5
  obtain ⟨K3, e3⟩ := writes_same l6 h6
  obtain ⟨K4, e4⟩ := rows_same l12 hl hr
  refine ⟨K1 + (K2 + (K3 + K4)), fun k hk => ?_⟩
  have f1 := e1 k (by omega)
  have f2 := e2 k (by omega)
  have f3 := e3 k (by omega)
  have f4 := e4 k (by omega)
  dsimp only at f1 f2 f3 f4 ⊢
  unfold falseworkref6_SameCmd.f
  simp only [if_true, f1, f2, f3, f4, Option.bind_some]
end Go.Proofs.Ytikiegglebgmpaa.PA
/- What a reader reads of bytes: how much is used up, and that what was written is read back. -/
namespace Go.Proofs.Ytikiegglebgmpaa.PA
open Go.RowKit Go.Proofs.YtikiegglebgmpaaW.PrintWords Go.Proofs.YtikiegglebgmpaaW.PrintLast Go.Proofs.Ytikiegglebgmpaa.Plain

theorem stp_is (x : Nat) (hx : x < 72057594037927936) (b : Nat) (hb : b < 256) : cmd_Get.stp (x : Int) (b : Int) = ((x * 256 + b : Nat) : Int) := by
  unfold cmd_Get.stp
  have e1 : IntKind.u64.wrap ((x : Int) * 256) = ((x * 256 : Nat) : Int) := by rw [wrap_u64]; omega
  have e2 : IntKind.u64.wrap ((b : Nat) : Int) = ((b : Nat) : Int) := by rw [wrap_u64]; omega
  rw [e1, e2, or_u64 (a := x * 256) (b := b) (by omega) (by omega)]
  have h : 256 * x + b = 256 * x ||| b := Nat.two_pow_add_eq_or_of_lt (i := 8) hb x
  rw [Nat.mul_comm x 256, ← h]
/-- Bytes, the highest first, as a number. -/
def num8 : List Nat → Nat → Nat
  | [], x => x
  | b :: r, x => num8 r (x * 256 + b)
theorem fold_stp : ∀ (l : List Nat) (x : Nat), (∀ b ∈ l, b < 256) → (x + 1) * 256 ^ l.length ≤ 18446744073709551616 → (l.map (fun b : Nat => (b : Int))).foldl cmd_Get.stp (x : Int) = (num8 l x : Int) ∧ num8 l x < (x + 1) * 256 ^ l.length
  | [], x, _, _ => ⟨rfl, by show x < (x + 1) * 1; omega⟩
  | b :: r, x, hb, h => by
    have h0 : b < 256 := hb b (List.mem_cons_self ..)
    have hp : 1 ≤ 256 ^ r.length := Nat.one_le_two_pow (n := 8 * r.length) |> fun h => by rwa [Nat.pow_mul] at h
    have e : 256 ^ (b :: r).length = 256 * 256 ^ r.length := by rw [List.length_cons, Nat.pow_succ, Nat.mul_comm]
    rw [e] at h ⊢
    have h1 : (x + 1) * (256 * 256 ^ r.length) = (x * 256 + 256) * 256 ^ r.length := by rw [← Nat.mul_assoc, Nat.add_mul, Nat.one_mul]
    rw [h1] at h ⊢
    have h2 : (x * 256 + b + 1) * 256 ^ r.length ≤ (x * 256 + 256) * 256 ^ r.length := Nat.mul_le_mul_right _ (by omega)
    have hx : x < 72057594037927936 := by
      have h3 : (x * 256 + 256) * 1 ≤ (x * 256 + 256) * 256 ^ r.length := Nat.mul_le_mul_left _ hp
      omega
    have ih := fold_stp r (x * 256 + b) (fun c hc => hb c (List.mem_cons_of_mem _ hc)) (Nat.le_trans h2 h)
    rw [List.map_cons, List.foldl_cons, stp_is x hx b h0]
    exact ⟨ih.1, Nat.lt_of_lt_of_le ih.2 h2⟩
theorem bytes_nat (s : ByteArray) : bytesOf s = (s.data.toList.map (·.toNat)).map (fun b : Nat => (b : Int)) := by
  unfold bytesOf
  rw [List.map_map]; rfl
theorem val_is (s : ByteArray) (h : s.size = 8) : cmd_Get.val s = (num8 (s.data.toList.map (·.toNat)) 0 : Int) ∧ num8 (s.data.toList.map (·.toNat)) 0 < 18446744073709551616 := by
  have hl : (s.data.toList.map (·.toNat)).length = 8 := by rw [List.length_map]; exact (data_length s).trans h
  have := fold_stp (s.data.toList.map (·.toNat)) 0 (fun b hb => by obtain ⟨u, -, rfl⟩ := List.mem_map.1 hb; exact u.toNat_lt) (by rw [hl]; decide)
  rw [hl] at this
  unfold cmd_Get.val
  rw [bytes_nat]
  exact ⟨this.1, by have := this.2; omega⟩
theorem pW_range {t t' : ByteArray} {x : Int} (h : cmd_Get.pW t = some (x, t')) : 0 ≤ x ∧ x < 18446744073709551616 := by
  unfold cmd_Get.pW at h
  by_cases h8 : t.size < 8
  · rw [if_pos h8] at h; cases h
  · rw [if_neg h8] at h
    obtain ⟨rfl, rfl⟩ := Prod.mk.inj (Option.some.inj h)
    obtain ⟨e, hlt⟩ := val_is (t.extract 0 8) (by rw [ByteArray.size_extract]; omega)
    rw [e]; omega
/-! ### how much is used up -/
theorem pT_eat {t t' s : ByteArray} (h : cmd_Get.pT t = some (s, t')) : t'.size + (cmd_Put.tb s).length = t.size := by
  obtain ⟨⟨x, t2⟩, hx, h⟩ := Option.bind_eq_some_iff.mp h
  have hz := cmd_Get.pC_size hx
  have hi := cmd_Get.pC_in hx
  obtain ⟨rfl, rfl⟩ := Prod.mk.inj (Option.some.inj h)
  dsimp only
  rw [cmd_Put.tb_length, ByteArray.size_extract, ByteArray.size_extract]; omega
theorem w8_len (x : Int) : (cmd_Put.w8 x).length = 8 := rfl
theorem pV_eat {t t' : ByteArray} {v : Vx} (h : cmd_Get.pV t = some (v, t')) : t'.size + (cmd_Put.vb v).length = t.size ∧ (0 ≤ v.f2 ∧ v.f2 < 18446744073709551616) := by
  obtain ⟨⟨k, t1⟩, h1, h⟩ := Option.bind_eq_some_iff.mp h
  obtain ⟨⟨n, t2⟩, h2, h⟩ := Option.bind_eq_some_iff.mp h
  obtain ⟨⟨f, t3⟩, h3, h⟩ := Option.bind_eq_some_iff.mp h
  obtain ⟨⟨s, t4⟩, h4, h⟩ := Option.bind_eq_some_iff.mp h
  obtain ⟨rfl, rfl⟩ := Prod.mk.inj (Option.some.inj h)
  have e1 := cmd_Get.pN_size h1
  have e2 := cmd_Get.pW_size h2
  have e3 := cmd_Get.pW_size h3
  have e4 := pT_eat h4
  have r3 := pW_range h3
  dsimp only at *
  refine ⟨?_, r3⟩
  unfold cmd_Put.vb
  rw [List.length_append, List.length_append, List.length_append, cmd_Put.nb_length, w8_len, w8_len, List.length_singleton]
  dsimp only
  omega
theorem pRng_eat {t t' : ByteArray} {v : Rx} (h : cmd_Get.pRng t = some (v, t')) : t'.size + (cmd_Put.tb v.f0 ++ cmd_Put.tb v.f1).length = t.size := by
  obtain ⟨⟨a, t1⟩, h1, h⟩ := Option.bind_eq_some_iff.mp h
  obtain ⟨⟨b, t2⟩, h2, h⟩ := Option.bind_eq_some_iff.mp h
  obtain ⟨rfl, rfl⟩ := Prod.mk.inj (Option.some.inj h)
  have e1 := pT_eat h1
  have e2 := pT_eat h2
  dsimp only at *
  rw [List.length_append]; omega
theorem pWr_eat {t t' : ByteArray} {v : Wx} (h : cmd_Get.pWr t = some (v, t')) : t'.size + (cmd_Put.tb v.f0 ++ (cmd_Put.tb v.f1 ++ cmd_Put.nb [if v.f2 then 1 else 0])).length = t.size := by
  obtain ⟨⟨a, t1⟩, h1, h⟩ := Option.bind_eq_some_iff.mp h
  obtain ⟨⟨b, t2⟩, h2, h⟩ := Option.bind_eq_some_iff.mp h
  obtain ⟨⟨c, t3⟩, h3, h⟩ := Option.bind_eq_some_iff.mp h
  obtain ⟨rfl, rfl⟩ := Prod.mk.inj (Option.some.inj h)
  have e1 := pT_eat h1
  have e2 := pT_eat h2
  have e3 := cmd_Get.pN_size h3
  dsimp only at *
  rw [List.length_append, List.length_append, cmd_Put.nb_length, List.length_singleton]; omega
/-- Parts that are read one behind another. -/
def Par {α : Type} (p : ByteArray → Option (α × ByteArray)) : Nat → ByteArray → List α → ByteArray → Prop
  | 0, t, l, t1 => l = [] ∧ t1 = t
  | n + 1, t, l, t1 => ∃ x t2 r, p t = some (x, t2) ∧ l = x :: r ∧ Par p n t2 r t1
theorem gL_par {α β : Type} {p : ByteArray → Option (α × ByteArray)} {K : List α → ByteArray → Option β} : ∀ (n : Nat) (l : List α) (t : ByteArray) (r : β), cmd_Get.gL p K n l t = some r → ∃ l' t1, Par p n t l' t1 ∧ K (l ++ l') t1 = some r
  | 0, l, t, r, h => ⟨[], t, ⟨rfl, rfl⟩, by rw [List.append_nil]; exact h⟩
  | n + 1, l, t, r, h => by
    obtain ⟨⟨x, t2⟩, hx, h⟩ := Option.bind_eq_some_iff.mp (show (p t).bind (fun x => cmd_Get.gL p K n (l ++ [x.1]) x.2) = some r from h)
    obtain ⟨l', t1, hp, hk⟩ := gL_par n _ _ _ h
    exact ⟨x :: l', t1, ⟨x, t2, l', hx, rfl, hp⟩, by rw [List.append_assoc] at hk; exact hk⟩
theorem par_eat {α : Type} {p : ByteArray → Option (α × ByteArray)} {f : α → List Int} (hf : ∀ t x t', p t = some (x, t') → t'.size + (f x).length = t.size) : ∀ (n : Nat) (t : ByteArray) (l : List α) (t1 : ByteArray), Par p n t l t1 → t1.size + (l.flatMap f).length = t.size
  | 0, t, l, t1, h => by obtain ⟨rfl, rfl⟩ := h; rfl
  | n + 1, t, l, t1, h => by
    obtain ⟨x, t2, r, hx, rfl, hp⟩ := h
    have e := par_eat hf n _ _ _ hp
    have e2 := hf _ _ _ hx
    rw [List.flatMap_cons, List.length_append]; omega
theorem par_all {α : Type} {p : ByteArray → Option (α × ByteArray)} {Q : α → Prop} (hq : ∀ t x t', p t = some (x, t') → Q x) : ∀ (n : Nat) (t : ByteArray) (l : List α) (t1 : ByteArray), Par p n t l t1 → ∀ x ∈ l, Q x
  | 0, t, l, t1, h => by obtain ⟨rfl, rfl⟩ := h; intro x hx; cases hx
  | n + 1, t, l, t1, h => by
    obtain ⟨x, t2, r, hx, rfl, hp⟩ := h
    intro y hy
    rcases List.mem_cons.1 hy with rfl | hy
    · exact hq _ _ _ hx
    · exact par_all hq n _ _ _ hp y hy
theorem gR_eat : ∀ (n : Nat) (out : List (List Vx)) (t : ByteArray) (res : List (List Vx)) (t1 : ByteArray), cmd_Get.gR n out t = some (res, t1) →
    ∃ ys, res = out ++ ys ∧ t1.size + (cmd_Put.rsb ys).length = t.size ∧ (∀ r ∈ ys, ∀ v ∈ r, 0 ≤ v.f2 ∧ v.f2 < 18446744073709551616)
  | 0, out, t, res, t1, h => by
    obtain ⟨rfl, rfl⟩ := Prod.mk.inj (Option.some.inj (show some (out, t) = some (res, t1) from h))
    exact ⟨[], (List.append_nil _).symm, rfl, fun r hr => by cases hr⟩
  | n + 1, out, t, res, t1, h => by
    obtain ⟨⟨m, t2⟩, hm, h⟩ := Option.bind_eq_some_iff.mp (show (cmd_Get.pC t).bind (fun x => cmd_Get.gL cmd_Get.pV (fun l t => cmd_Get.gR n (out ++ [l]) t) x.1.toNat [] x.2) = some (res, t1) from h)
    obtain ⟨l, t3, hp, h⟩ := gL_par _ _ _ _ h
    rw [List.nil_append] at h
    obtain ⟨ys, e1, e2, e3⟩ := gR_eat n _ _ _ _ h
    have e4 := cmd_Get.pC_size hm
    have e5 := par_eat (f := cmd_Put.vb) (fun _ _ _ h => (pV_eat h).1) _ _ _ _ hp
    dsimp only at *
    refine ⟨l :: ys, by rw [e1, List.append_assoc]; rfl, ?_, ?_⟩
    · show t1.size + (cmd_Put.rowb l ++ cmd_Put.rsb ys).length = t.size
      unfold cmd_Put.rowb cmd_Put.vsb
      rw [List.length_append, List.length_append, cmd_Put.nb_length, List.length_singleton]; omega
    · intro r hr
      rcases List.mem_cons.1 hr with rfl | hr
      · exact par_all (Q := fun v => 0 ≤ v.f2 ∧ v.f2 < 18446744073709551616) (fun _ _ _ h => (pV_eat h).2) _ _ _ _ hp
      · exact e3 r hr
def cbOf (c : cmd_Get.Cm) : List Int := cmd_Put.cb c.a0 c.a1 c.a2 c.a3 c.l4 c.l5 c.l6 c.a7 c.a8 c.a9 c.a10 c.a11 c.l12
theorem pCmd_eat {t t1 : ByteArray} {c : cmd_Get.Cm} (h : cmd_Get.pCmd t = some (c, t1)) : t1.size + (cbOf c).length = t.size ∧ (∀ r ∈ c.l12, ∀ v ∈ r, 0 ≤ v.f2 ∧ v.f2 < 18446744073709551616) := by
  obtain ⟨⟨x0, u0⟩, h0, h⟩ := Option.bind_eq_some_iff.mp h
  obtain ⟨⟨x1, u1⟩, h1, h⟩ := Option.bind_eq_some_iff.mp h
  obtain ⟨⟨x2, u2⟩, h2, h⟩ := Option.bind_eq_some_iff.mp h
  obtain ⟨⟨x3, u3⟩, h3, h⟩ := Option.bind_eq_some_iff.mp h
  obtain ⟨⟨m4, u4⟩, h4, h⟩ := Option.bind_eq_some_iff.mp h
  obtain ⟨l4, u5, g4, h⟩ := gL_par _ _ _ _ h
  obtain ⟨⟨m5, u6⟩, h5, h⟩ := Option.bind_eq_some_iff.mp h
  obtain ⟨l5, u7, g5, h⟩ := gL_par _ _ _ _ h
  obtain ⟨⟨m6, u8⟩, h6, h⟩ := Option.bind_eq_some_iff.mp h
  obtain ⟨l6, u9, g6, h⟩ := gL_par _ _ _ _ h
  obtain ⟨⟨x7, v1⟩, h7, h⟩ := Option.bind_eq_some_iff.mp h
  obtain ⟨⟨x8, v2⟩, h8, h⟩ := Option.bind_eq_some_iff.mp h
  obtain ⟨⟨x9, v3⟩, h9, h⟩ := Option.bind_eq_some_iff.mp h
  obtain ⟨⟨x10, v4⟩, h10, h⟩ := Option.bind_eq_some_iff.mp h
  obtain ⟨⟨x11, v5⟩, h11, h⟩ := Option.bind_eq_some_iff.mp h
  obtain ⟨⟨x12, v6⟩, h12, h⟩ := Option.bind_eq_some_iff.mp h
  obtain ⟨⟨m12, v7⟩, hm, h12⟩ := Option.bind_eq_some_iff.mp h12
  obtain ⟨ys, e12, z12, w12⟩ := gR_eat _ _ _ _ _ h12
  obtain ⟨rfl, rfl⟩ := Prod.mk.inj (Option.some.inj h)
  have z0 := cmd_Get.pN_size h0
  have z1 := cmd_Get.pN_size h1
  have z2 := cmd_Get.pN_size h2
  have z3 := cmd_Get.pN_size h3
  have z4 := cmd_Get.pC_size h4
  have y4 : u5.size + (cmd_Put.ksb l4).length = u4.size := par_eat (f := cmd_Put.tb) (fun _ _ _ h => pT_eat h) _ _ _ _ g4
  have z5 := cmd_Get.pC_size h5
  have y5 : u7.size + (cmd_Put.rgb l5).length = u6.size := par_eat (f := fun r : Rx => cmd_Put.tb r.f0 ++ cmd_Put.tb r.f1) (fun _ _ _ h => pRng_eat h) _ _ _ _ g5
  have z6 := cmd_Get.pC_size h6
  have y6 : u9.size + (cmd_Put.wsb l6).length = u8.size := par_eat (f := fun x : Wx => cmd_Put.tb x.f0 ++ (cmd_Put.tb x.f1 ++ cmd_Put.nb [if x.f2 then 1 else 0])) (fun _ _ _ h => pWr_eat h) _ _ _ _ g6
  have z7 := cmd_Get.pN_size h7
  have z8 := cmd_Get.pN_size h8
  have z9 := cmd_Get.pN_size h9
  have z10 := pT_eat h10
  have z11 := cmd_Get.pN_size h11
  have z13 := cmd_Get.pC_size hm
  rw [List.nil_append] at e12
  subst e12
  dsimp only at *
  refine ⟨?_, w12⟩
  unfold cbOf cmd_Put.cb cmd_Put.rb
  dsimp only
  simp only [List.nil_append, List.length_append, cmd_Put.nb_length, List.length_cons, List.length_nil]
  omega
end Go.Proofs.Ytikiegglebgmpaa.PA
/- What Get answers: the command of which Put tells just these bytes, or none. -/
namespace Go.Proofs.Ytikiegglebgmpaa.PA
open Go.RowKit Go.Proofs.YtikiegglebgmpaaW.PrintWords Go.Proofs.YtikiegglebgmpaaW.PrintLast Go.Proofs.Ytikiegglebgmpaa.Plain

def putOf (c : cmd_Get.Cm) : ByteArray × Int := cmdPutB c.a0 c.a1 c.a2 c.a3 c.l4 c.l5 c.l6 c.a7 c.a8 c.a9 c.a10 c.a11 c.l12
/-- What is so of a command that was read. -/
structure Sound (c : cmd_Get.Cm) : Prop where
  few : (cbOf c).length ≤ 1000000
  wf : ∀ r ∈ c.l12, ∀ v ∈ r, (Lit.int .u64 v.f2).wf = true
theorem flat_le {α : Type} (f : α → List Int) (hf : ∀ x, 8 ≤ (f x).length) : ∀ l : List α, 8 * l.length ≤ (l.flatMap f).length
  | [] => Nat.le_refl _
  | x :: r => by have := flat_le f hf r; have := hf x; rw [List.flatMap_cons, List.length_append, List.length_cons]; omega
theorem Sound.lens {c : cmd_Get.Cm} (h : Sound c) : c.l4.length ≤ 1000000 ∧ c.l5.length ≤ 1000000 ∧ c.l6.length ≤ 1000000 ∧ c.l12.length ≤ 1000000 ∧ ∀ r ∈ c.l12, r.length ≤ 1000000 := by
  have h1 := h.few
  unfold cbOf cmd_Put.cb cmd_Put.rb at h1
  simp only [List.length_append] at h1
  have t8 : ∀ s : ByteArray, 8 ≤ (cmd_Put.tb s).length := fun s => by rw [cmd_Put.tb_length]; omega
  have e4 : 8 * c.l4.length ≤ (cmd_Put.ksb c.l4).length := flat_le cmd_Put.tb t8 c.l4
  have e5 : 8 * c.l5.length ≤ (cmd_Put.rgb c.l5).length := flat_le (fun r : Rx => cmd_Put.tb r.f0 ++ cmd_Put.tb r.f1) (fun r => by rw [List.length_append]; have := t8 r.f0; omega) c.l5
  have e6 : 8 * c.l6.length ≤ (cmd_Put.wsb c.l6).length := flat_le (fun x : Wx => cmd_Put.tb x.f0 ++ (cmd_Put.tb x.f1 ++ cmd_Put.nb [if x.f2 then 1 else 0])) (fun r => by rw [List.length_append]; have := t8 r.f0; omega) c.l6
  have r8 : ∀ r : List Vx, 8 * r.length ≤ (cmd_Put.rowb r).length ∧ 8 ≤ (cmd_Put.rowb r).length := fun r => by
    have e := flat_le cmd_Put.vb (fun v => by unfold cmd_Put.vb; rw [List.length_append, cmd_Put.nb_length, List.length_singleton]; omega) r
    unfold cmd_Put.rowb cmd_Put.vsb
    rw [List.length_append, cmd_Put.nb_length, List.length_singleton]; omega
  have e12 : 8 * c.l12.length ≤ (cmd_Put.rsb c.l12).length := flat_le cmd_Put.rowb (fun r => (r8 r).2) c.l12
  refine ⟨by omega, by omega, by omega, by omega, fun r hr => ?_⟩
  have key : ∀ l : List (List Vx), r ∈ l → (cmd_Put.rowb r).length ≤ (l.flatMap cmd_Put.rowb).length := by
    intro l
    induction l with
    | nil => intro h; cases h
    | cons x y ih =>
      intro h
      rw [List.flatMap_cons, List.length_append]
      rcases List.mem_cons.1 h with rfl | h
      · omega
      · have := ih h; omega
  have k1 : (cmd_Put.rowb r).length ≤ (cmd_Put.rsb c.l12).length := key _ hr
  have := (r8 r).1
  omega
theorem Sound.rows {c : cmd_Get.Cm} (h : Sound c) : ∀ r ∈ c.l12, r.length ≤ maxLen ∧ ∀ x ∈ r, (Lit.int .u64 x.f2).wf = true := fun r hr => ⟨by have := h.lens.2.2.2.2 r hr; unfold maxLen; omega, h.wf r hr⟩
theorem Sound.put {c : cmd_Get.Cm} (h : Sound c) : ∃ K, ∀ k, K ≤ k → cmd_Put.f k c.a0 c.a1 c.a2 c.a3 c.l4 c.l5 c.l6 c.a7 c.a8 c.a9 c.a10 c.a11 c.l12 = some (putOf c) := by
  have hl := h.lens
  have hf := h.few
  exact cmd_put_isF _ _ _ _ _ _ _ _ _ _ _ _ _ (by unfold maxLen; omega) (by unfold maxLen; omega) (by omega) (by unfold maxLen; omega) h.rows (by unfold cbOf at hf; omega)
theorem Sound.none : Sound cmd_Get.c0 := ⟨by decide, fun r hr => by cases hr⟩
theorem Sound.same {c : cmd_Get.Cm} (h : Sound c) : Tells (fun k => falseworkref6_SameCmd.f k c.a0 c.a1 c.a2 c.a3 c.l4 c.l5 c.l6 c.a7 c.a8 c.a9 c.a10 c.a11 c.l12 c.a0 c.a1 c.a2 c.a3 c.l4 c.l5 c.l6 c.a7 c.a8 c.a9 c.a10 c.a11 c.l12) true := by
  have hl := h.lens
  exact cmd_same _ _ _ _ _ _ _ _ _ _ _ _ _ (by unfold maxLen; omega) (by unfold maxLen; omega) (by unfold maxLen; omega) (by unfold maxLen; omega) (fun r hr => (h.rows r hr).1)
theorem u64_wf {x : Int} (h : 0 ≤ x ∧ x < 18446744073709551616) : (Lit.int .u64 x).wf = true := by
  have h1 : IntKind.u64.min = 0 := by decide
  have h2 : IntKind.u64.max = 18446744073709551615 := by decide
  simp [Lit.wf, h1, h2]; omega
theorem sound_of {t t1 : ByteArray} {c : cmd_Get.Cm} (h : cmd_Get.pCmd t = some (c, t1)) (hz : t.size ≤ 1000000) : Sound c := by
  obtain ⟨e, w⟩ := pCmd_eat h
  exact ⟨by omega, fun r hr v hv => u64_wf (w r hr v hv)⟩
/-- What Get answers. -/
theorem get_is_cmd (s : ByteArray) (hs : s.size ≤ 1000000) : ∃ c e K, (∀ k, K ≤ k → cmd_Get.f k s = some (c, e)) ∧
    ((e = 3 ∧ c = cmd_Get.c0) ∨ (e = 0 ∧ Sound c ∧ putOf c = (s, 0) ∧ (opened s).2 = 0 ∧ ∃ t1, cmd_Get.pCmd (opened s).1 = some (c, t1))) ∧
    ((opened s).2 = 3 → e = 3) ∧ (∀ c' t1, (opened s).2 = 0 → cmd_Get.pCmd (opened s).1 = some (c', t1) → putOf c' = (s, 0) → e = 0 ∧ c = c') := by
  have hg : ∀ k, 10 * s.size < k → seal_Get.f k s = some (opened s) := fun k hk => get_is s (by omega) k hk
  have h2 : (opened s).2 = 3 ∧ True ∨ (opened s).2 = 0 ∧ (opened s).1.size ≤ s.size := by
    unfold opened
    by_cases h1 : s.size < 4
    · rw [if_pos h1]; exact .inl ⟨rfl, trivial⟩
    · rw [if_neg h1]
      by_cases h3 : sealed (s.extract 0 (s.size - 4)) = s
      · rw [if_pos h3]; exact .inr ⟨rfl, by show (s.extract 0 (s.size - 4)).size ≤ _; rw [size_cut _ _ (by omega)]; omega⟩
      · rw [if_neg h3]; exact .inl ⟨rfl, trivial⟩
  obtain ⟨b, e0, hb⟩ : ∃ b e, opened s = (b, e) := ⟨_, _, rfl⟩
  rw [hb] at h2 hg ⊢
  dsimp only at h2 ⊢
  rcases h2 with ⟨rfl, -⟩ | ⟨rfl, hz⟩
  · refine ⟨cmd_Get.c0, 3, 10 * s.size + 1, fun k hk => ?_, .inl ⟨rfl, rfl⟩, fun _ => rfl, fun _ _ h => absurd h (by decide)⟩
    unfold cmd_Get.f
    rw [hg k (by omega), Option.bind_some, if_neg (show ¬ (3 : Int) = 0 by decide)]
  · cases hp : cmd_Get.pCmd b with
    | none =>
      refine ⟨cmd_Get.c0, 3, 10 * s.size + 1, fun k hk => ?_, .inl ⟨rfl, rfl⟩, fun _ => rfl, fun _ _ _ h => by cases h⟩
      unfold cmd_Get.f
      rw [hg k (by omega), Option.bind_some, if_pos rfl, if_pos (by show b.size ≤ 1000000; omega)]
      dsimp only
      rw [hp]
    | some x =>
      obtain ⟨c, t1⟩ := x
      have hc := sound_of hp (by omega)
      obtain ⟨K, hK⟩ := hc.put
      by_cases h0 : putOf c = (s, 0)
      · refine ⟨c, 0, 10 * s.size + 1 + K, fun k hk => ?_, .inr ⟨rfl, hc, h0, rfl, t1, rfl⟩, fun h => absurd h (by decide), fun c' t' _ h _ => ⟨rfl, (Prod.mk.inj (Option.some.inj h)).1⟩⟩
        unfold cmd_Get.f
        rw [hg k (by omega), Option.bind_some, if_pos rfl, if_pos (by show b.size ≤ 1000000; omega)]
        dsimp only
        rw [hp]
        dsimp only
        rw [hK k (by omega), h0, Option.bind_some, if_pos rfl, if_pos rfl]
      · refine ⟨cmd_Get.c0, 3, 10 * s.size + 1 + K, fun k hk => ?_, .inl ⟨rfl, rfl⟩, fun _ => rfl, fun c' t' _ h h' => absurd ((Prod.mk.inj (Option.some.inj h)).1 ▸ h') h0⟩
        unfold cmd_Get.f
        rw [hg k (by omega), Option.bind_some, if_pos rfl, if_pos (by show b.size ≤ 1000000; omega)]
        dsimp only
        rw [hp]
        dsimp only
        rw [hK k (by omega), Option.bind_some]
        by_cases h1 : (putOf c).2 = 0
        · rw [if_pos h1, if_neg (fun h3 => h0 (Prod.ext (bytes_ext h3) h1))]
        · rw [if_neg h1]
end Go.Proofs.Ytikiegglebgmpaa.PA
/- Bytes of a text that are turned: what the text's bytes are then. -/
namespace Go.Proofs.Ytikiegglebgmpaa.PA
open Go.RowKit Go.Proofs.YtikiegglebgmpaaW.PrintWords Go.Proofs.YtikiegglebgmpaaW.PrintLast Go.Proofs.Ytikiegglebgmpaa.Plain

theorem xor_byte8 {a b : Nat} (ha : a < 256) (hb : b < 256) : Go.bits .xor .u8 (a : Int) (b : Int) = ((a ^^^ b : Nat) : Int) := (bits_gen .u8 k_u8 a b ha hb).1
theorem str_data (xs : List Int) : (strOfNums xs).data.toList = xs.map fun n => UInt8.ofNat n.toNat := by unfold strOfNums; simp
theorem bytes_back (l : List UInt8) : (l.map fun b => (b.toNat : Int)).map (fun n => UInt8.ofNat n.toNat) = l := by
  rw [List.map_map]
  conv => rhs; rw [← List.map_id l]
  apply List.map_congr_left
  intro b _
  simp
theorem be4_inj {a b : Nat} (ha : a < 4294967296) (hb : b < 4294967296) (h : be4 a = be4 b) : a = b := by
  unfold be4 at h
  simp only [List.cons.injEq, and_true] at h
  obtain ⟨h1, h2, h3, h4⟩ := h
  have e : ∀ x y : Nat, x < 256 → y < 256 → UInt8.ofNat x = UInt8.ofNat y → x = y := by
    intro x y hx hy h
    have := congrArg UInt8.toNat h
    rw [UInt8.toNat_ofNat', UInt8.toNat_ofNat'] at this
    omega
  have h1 := e _ _ (Nat.mod_lt _ (by decide)) (Nat.mod_lt _ (by decide)) h1
  have h2 := e _ _ (Nat.mod_lt _ (by decide)) (Nat.mod_lt _ (by decide)) h2
  have h3 := e _ _ (Nat.mod_lt _ (by decide)) (Nat.mod_lt _ (by decide)) h3
  have h4 := e _ _ (Nat.mod_lt _ (by decide)) (Nat.mod_lt _ (by decide)) h4
  omega
theorem set_mid (l : List UInt8) (i : Nat) (h : i < l.length) (x : UInt8) : ∃ pre post, l = pre ++ (l[i] :: post) ∧ l.set i x = pre ++ (x :: post) := by
  refine ⟨l.take i, l.drop (i + 1), ?_, ?_⟩
  · rw [← List.drop_eq_getElem_cons h, List.take_append_drop]
  · rw [List.set_eq_take_append_cons_drop, if_pos h]
/-- A text with its sum, of which a byte is turned, is none. -/
theorem turned (l : List UInt8) (i : Nat) (x : UInt8) (hi : i < (l ++ be4 (crc l)).length) (hx : x ≠ (l ++ be4 (crc l))[i]) (t : List UInt8) (ht : t = ((l ++ be4 (crc l)).set i x).take l.length) :
    t ++ be4 (crc t) ≠ (l ++ be4 (crc l)).set i x := by
  intro h
  by_cases hl : i < l.length
  · rw [List.set_append_left _ _ hl] at ht h
    have hlen : (l.set i x).length = l.length := List.length_set
    rw [List.take_left' hlen] at ht
    subst ht
    have h2 := List.append_cancel_left h
    have h3 := be4_inj (crc_lt _) (crc_lt _) h2
    rw [List.getElem_append_left hl] at hx
    obtain ⟨pre, post, e1, e2⟩ := set_mid l i hl x
    rw [e2] at h3
    conv at h3 => rhs; rw [e1]
    exact crc_one pre post l[i] x hx h3
  · have hl : l.length ≤ i := by omega
    rw [List.set_append_right _ _ hl] at ht h
    rw [List.take_left' rfl] at ht
    subst ht
    have h2 := List.append_cancel_left h
    rw [List.getElem_append_right hl] at hx
    have hj : i - t.length < (be4 (crc t)).length := by rw [List.length_append] at hi; omega
    apply hx
    have h3 : ((be4 (crc t)).set (i - t.length) x)[i - t.length]'(by rw [List.length_set]; exact hj) = x := List.getElem_set_self _
    rw [← h3]
    congr 1
    exact h2.symm
end Go.Proofs.Ytikiegglebgmpaa.PA
/- A text with its sum, of which one byte is turned, is refused: what is ahead of its sum is nothing. -/
namespace Go.Proofs.Ytikiegglebgmpaa.PA
open Go.RowKit Go.Proofs.YtikiegglebgmpaaW.PrintWords Go.Proofs.YtikiegglebgmpaaW.PrintLast Go.Proofs.Ytikiegglebgmpaa.Plain

theorem opened_turned (s : ByteArray) (m d : Nat) (hm : m < (sealed s).size) (hd0 : 0 < d) (hd1 : d < 256) :
    (opened (strOfNums ((bytesOf (sealed s)).set m (Go.bits .xor .u8 (bt (sealed s) (m : Int)) (d : Int))))).2 = 3 ∧ (strOfNums ((bytesOf (sealed s)).set m (Go.bits .xor .u8 (bt (sealed s) (m : Int)) (d : Int)))).size = s.size + 4 := by
  have hz := size_sealed s
  have hL : (sealed s).data.toList = s.data.toList ++ be4 (crc s.data.toList) := by
    unfold sealed
    rw [ByteArray.data_append, Array.toList_append]
  have hlen : (sealed s).data.toList.length = (sealed s).size := by rw [Array.length_toList]; rfl
  have hi : m < (sealed s).data.toList.length := by omega
  have hbt : bt (sealed s) (m : Int) = (((sealed s).data.toList[m]'hi).toNat : Int) := by
    unfold bt
    rw [dif_pos (show (m : Int).toNat < (sealed s).size by omega)]
    rfl
  have hb := ((sealed s).data.toList[m]'hi).toNat_lt
  have hv : Go.bits .xor .u8 (bt (sealed s) (m : Int)) (d : Int) = ((((sealed s).data.toList[m]'hi).toNat ^^^ d : Nat) : Int) := by
    rw [hbt, xor_byte8 hb hd1]
  have hxl : ((sealed s).data.toList[m]'hi).toNat ^^^ d < 256 := Nat.xor_lt_two_pow (n := 8) hb hd1
  obtain ⟨x, hx⟩ : ∃ x : UInt8, x.toNat = ((sealed s).data.toList[m]'hi).toNat ^^^ d := ⟨UInt8.ofNat (((sealed s).data.toList[m]'hi).toNat ^^^ d), by rw [UInt8.toNat_ofNat', Nat.mod_eq_of_lt hxl]⟩
  have hne : x ≠ (sealed s).data.toList[m]'hi := by
    intro e
    rw [e] at hx
    exact xor_ne (a := ((sealed s).data.toList[m]'hi).toNat) (d := d) (by omega) hx.symm
  rw [hv, ← hx]
  have hS : (strOfNums ((bytesOf (sealed s)).set m (x.toNat : Int))).data.toList = (sealed s).data.toList.set m x := by
    rw [str_data]
    have : (bytesOf (sealed s)).set m (x.toNat : Int) = ((sealed s).data.toList.set m x).map fun b => (b.toNat : Int) := by
      unfold bytesOf; rw [List.map_set]
    rw [this, bytes_back]
  generalize strOfNums ((bytesOf (sealed s)).set m (x.toNat : Int)) = S at *
  have hSz : S.size = s.size + 4 := by
    have e : S.data.toList.length = S.size := by rw [Array.length_toList]; rfl
    rw [hS, List.length_set] at e
    omega
  refine ⟨?_, hSz⟩
  have hop : opened S = (⟨#[]⟩, 3) := by
    unfold opened
    rw [if_neg (by omega), if_neg]
    intro e
    have e2 : (sealed (S.extract 0 (S.size - 4))).data.toList = S.data.toList := by rw [e]
    unfold sealed at e2
    rw [ByteArray.data_append, Array.toList_append] at e2
    have ht : (S.extract 0 (S.size - 4)).data.toList = ((s.data.toList ++ be4 (crc s.data.toList)).set m x).take s.data.toList.length := by
      rw [ByteArray.data_extract, Array.toList_extract, ← hL, ← hS]
      have : s.data.toList.length = S.size - 4 := by rw [Array.length_toList]; show s.size = _; omega
      rw [this]
      simp
    rw [hS, hL] at e2
    have hi' : m < (s.data.toList ++ be4 (crc s.data.toList)).length := by rw [← hL]; exact hi
    refine turned s.data.toList m x hi' ?_ _ ht e2
    intro e3
    apply hne
    rw [e3]
    congr 1
  rw [hop]
end Go.Proofs.Ytikiegglebgmpaa.PA
