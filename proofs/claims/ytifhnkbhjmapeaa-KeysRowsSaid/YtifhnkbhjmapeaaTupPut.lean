/- The bytes of several values: what the program's and the document's functions come to. -/
import Derived.Test.YtifhnkbhjmapeaaPAx0
import Derived.Test.YtifhnkbhjmapeaaPAx3
import Derived.Test.YtifhnkbhjmapeaaPAx4
import Derived.Test.YtifhnkbhjmapeaaPAx8
import Derived.Test.YtifhnkbhjmapeaaTupAfter
import Derived.Test.YtifhnkbhjmapeaaValueCmp
namespace Go.Proofs.Ytifhnkbhjmapeaa.PA
open Go.RowKit Go.Proofs.YtifhnkbhjmapeaaW.PrintWords Go.Proofs.YtifhnkbhjmapeaaW.PrintLast Go.Proofs.Ytifhnkbhjmapeaa.Plain

abbrev Vc := S24
/-- What a value in memory is like. -/
def Vc.Good (x : Vc) : Prop := (Lit.int .i64 x.f0).wf = true ∧ (Lit.int .i64 x.f1).wf = true ∧ (Lit.int .u64 x.f2).wf = true ∧ x.f3.size ≤ maxLen
/-- The bytes of one, or an error's number. -/
def Vc.put (x : Vc) : List UInt8 × Int := putV x.f0 x.f1 x.f2.toNat x.f3.data.toList
theorem Vc.float {x : Vc} (g : x.Good) : x.f2 = ((x.f2.toNat : Nat) : Int) ∧ x.f2.toNat < 18446744073709551616 := by
  obtain ⟨y, hy, hl⟩ := u64_nat g.2.2.1
  rw [hy, Int.toNat_natCast]; exact ⟨rfl, hl⟩
theorem Vc.ok {x : Vc} (g : x.Good) (h : x.put.2 = 0) : ∃ v : V, v.Ok ∧ x.f0 = v.k ∧ x.f1 = v.n ∧ x.f2 = ((v.f : Nat) : Int) ∧ x.f3.data.toList = v.s ∧ x.put.1 = v.enc := by
  unfold Vc.put putV at h ⊢
  by_cases hm : mayB x.f0 x.f1 x.f2.toNat x.f3.data.toList = true
  · obtain ⟨v, hv, e1, e2, e3, e4⟩ := view hm (i64_bounds g.2.1) (Vc.float g).2
    rw [if_pos hm]
    refine ⟨v, hv, e1, e2, ?_, e4, ?_⟩
    · rw [← e3]; exact (Vc.float g).1
    · rw [e1, e2, e3, e4]; exact V.enc_is v
  · rw [if_neg hm] at h; cases h
theorem Vc.put_length {x : Vc} (g : x.Good) : x.put.1.length ≤ 83 := by
  by_cases h : x.put.2 = 0
  · obtain ⟨v, hv, _, _, _, _, e⟩ := Vc.ok g h
    rw [e]; exact V.enc_length v hv
  · unfold Vc.put putV at h ⊢
    by_cases hm : mayB x.f0 x.f1 x.f2.toNat x.f3.data.toList = true
    · rw [if_pos hm] at h; exact absurd rfl h
    · rw [if_neg hm]; decide
theorem vc_put_is {x : Vc} (g : x.Good) (K : Nat) (hK : 50 ≤ K) : value_Put.f K x.f0 x.f1 x.f2 x.f3 = some (txt x.put.1, x.put.2) := by
  have := value_put_is (k := x.f0) g.2.1 (Vc.float g).2 x.f3 K hK
  rw [← (Vc.float g).1] at this
  exact this
/-- The bytes of several. -/
def putT : List Vc → List UInt8 × Int
  | [] => ([], 0)
  | x :: r => if x.put.2 = 0 then (if (putT r).2 = 0 then (x.put.1 ++ (putT r).1, 0) else ([], (putT r).2)) else ([], x.put.2)
def ansT (acc : List UInt8) (q : List UInt8 × Int) : ByteArray × Int := if q.2 = 0 then (txt (acc ++ q.1), 0) else (⟨#[]⟩, q.2)
theorem putT_eq (x : Vc) (r : List Vc) : putT (x :: r) = if x.put.2 = 0 then (if (putT r).2 = 0 then (x.put.1 ++ (putT r).1, 0) else ([], (putT r).2)) else ([], x.put.2) := rfl
theorem ansT_cons (acc : List UInt8) (x : Vc) (r : List Vc) : ansT acc (putT (x :: r)) = if x.put.2 = 0 then ansT (acc ++ x.put.1) (putT r) else (⟨#[]⟩, x.put.2) := by
  by_cases h : x.put.2 = 0
  · by_cases h2 : (putT r).2 = 0
    · have e : putT (x :: r) = (x.put.1 ++ (putT r).1, 0) := by rw [putT_eq, if_pos h, if_pos h2]
      rw [e, if_pos h]
      unfold ansT
      rw [if_pos rfl, if_pos h2, List.append_assoc]
    · have e : putT (x :: r) = ([], (putT r).2) := by rw [putT_eq, if_pos h, if_neg h2]
      rw [e, if_pos h]
      unfold ansT
      rw [if_neg h2, if_neg h2]
  · have e : putT (x :: r) = ([], x.put.2) := by rw [putT_eq, if_neg h]
    rw [e, if_neg h]
    unfold ansT
    rw [if_neg h]
theorem rd_at (l : List Vc) (i : Nat) (h : i < l.length) : ∃ x : Vc, rd_T24 l (i : Int) = x ∧ x ∈ l ∧ l.drop i = x :: l.drop (i + 1) := by
  refine ⟨l[i], ?_, List.getElem_mem h, List.drop_eq_getElem_cons h⟩
  unfold rd_T24
  rw [Int.toNat_natCast]
  simp [h]
theorem tuple_put_from (l : List Vc) (g : ∀ x ∈ l, x.Good) (hl : l.length ≤ 16) (d : Nat) : ∀ (k i : Nat) (acc : List UInt8), i + d = l.length → d + 50 ≤ k → acc.length ≤ 83 * i →
    tuple_Put.l0 k (txt acc) l (l.length : Int) (i : Int) = some (ansT acc (putT (l.drop i))) := by
  induction d with
  | zero =>
    intro k i acc hi hk ha
    obtain ⟨k, rfl⟩ : ∃ m, k = m + 1 := ⟨k - 1, by omega⟩
    simp only [tuple_Put.l0]
    rw [if_neg (by omega), List.drop_eq_nil_of_le (by omega)]
    simp [ansT, putT]
  | succ d ih =>
    intro k i acc hi hk ha
    obtain ⟨k, rfl⟩ : ∃ m, k = m + 1 := ⟨k - 1, by omega⟩
    obtain ⟨x, hx, hm, hd⟩ := rd_at l i (by omega)
    have hxl := Vc.put_length (g x hm)
    simp only [tuple_Put.l0]
    rw [if_pos (by omega), if_pos (by omega), if_pos (by omega), hx, vc_put_is (g x hm) k (by omega), Option.bind_some, hd, ansT_cons]
    dsimp only
    by_cases h : x.put.2 = 0
    · rw [if_pos h, if_pos h, if_pos (by rw [txt_size, txt_size]; omega), txt_append, show wrap64 ((i : Int) + 1) = ((i + 1 : Nat) : Int) by unfold wrap64; omega]
      exact ih k (i + 1) _ (by omega) (by omega) (by rw [List.length_append]; omega)
    · rw [if_neg h, if_neg h]
/-- The bytes of several values, or an error's number. -/
def putsT (l : List Vc) : ByteArray × Int := if l.length ≤ 16 then ansT [] (putT l) else (⟨#[]⟩, 2)
theorem tuple_put_is (l : List Vc) (g : ∀ x ∈ l, x.Good) (k : Nat) (hk : 70 ≤ k) : tuple_Put.f k l = some (putsT l) := by
  unfold tuple_Put.f putsT
  by_cases h : l.length ≤ 16
  · rw [if_neg (by omega), if_pos h]
    have := tuple_put_from l g h l.length k 0 [] (by omega) (by omega) (by decide)
    rw [List.drop_zero] at this
    exact this
  · rw [if_pos (by omega), if_neg h]
theorem ref_vc_put_is {x : Vc} (g : x.Good) (K : Nat) (hK : 50 ≤ K) : falseworkref2_Put.f K x.f0 x.f1 x.f2 x.f3 = some (txt x.put.1, x.put.2) := by
  have := ref_put_is (k := x.f0) g.2.1 (Vc.float g).2 x.f3 K hK
  rw [← (Vc.float g).1] at this
  exact this
end Go.Proofs.Ytifhnkbhjmapeaa.PA
