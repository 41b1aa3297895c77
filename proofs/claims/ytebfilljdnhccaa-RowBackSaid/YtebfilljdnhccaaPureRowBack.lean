/- Cells that may be are read back; what was told can be spoilt: for all cells; of rows that are long nothing is asked. -/
import Derived.Test.YtebfilljdnhccaaRBx0
import Derived.Test.YtebfilljdnhccaaRBx5
import Derived.Test.YtebfilljdnhccaaRBx6
import Derived.Test.YtebfilljdnhccaaRBx8
import Derived.Test.YtebfilljdnhccaaRBx9
import Derived.Test.YtebfilljdnhccaaLibsRB
namespace Go.Proofs.Ytebfilljdnhccaa.Pure
open Go.RowKit Go.Proofs.Ytebfilljdnhccaa.PA Go.Proofs.YtebfilljdnhccaaW.PrintWords Go.Proofs.YtebfilljdnhccaaW.PrintLast Go.Proofs.Ytebfilljdnhccaa.Plain

/-- What is put is read back. -/
theorem rowB_back (l : List Cel) (g : ∀ c ∈ l, Cel.Good c) : ∀ (last : Int) (n : Nat), 0 ≤ last → (rowB last l).2 = 0 → l.length < n → decR n last (rowB last l).1 = (l, 0) := by
  induction l with
  | nil =>
    intro last n _ _ hn
    obtain ⟨n, rfl⟩ : ∃ m, n = m + 1 := ⟨n - 1, by omega⟩
    rfl
  | cons c r ih =>
    intro last n h0 h hn
    obtain ⟨n, rfl⟩ : ∃ m, n = m + 1 := ⟨n - 1, by omega⟩
    have gc := g c List.mem_cons_self
    rw [rowB_cons] at h ⊢
    by_cases hc : (Vc.put c.f1).2 = 0 ∧ last < c.f0 ∧ c.f0 ≤ 65535
    · rw [if_pos hc] at h ⊢
      by_cases hr : (rowB c.f0 r).2 = 0
      · rw [if_pos hr]
        obtain ⟨v, hv, e0, e1, e2, e3, e4⟩ := Vc.ok gc.2 hc.1
        obtain ⟨x, hx⟩ : ∃ x : Nat, c.f0 = (x : Int) := ⟨c.f0.toNat, by omega⟩
        have hxl : x ≤ 65535 := by omega
        have ih2 := ih (fun c hc => g c (List.mem_cons_of_mem _ hc)) c.f0 n (by omega) hr (by have : r.length + 1 < n + 1 := hn; omega)
        have hd : decV (v.enc ++ (rowB c.f0 r).1) = some (v, v.enc.length) := decV_enc v hv _
        have hn2 : (UInt8.ofNat (x / 256 % 256)).toNat * 256 + (UInt8.ofNat (x % 256)).toNat = x := by
          rw [UInt8.toNat_ofNat', UInt8.toNat_ofNat']; omega
        have hl : (two c.f0.toNat ++ (Vc.put c.f1).1 ++ (rowB c.f0 r).1) = UInt8.ofNat (x / 256 % 256) :: UInt8.ofNat (x % 256) :: (v.enc ++ (rowB c.f0 r).1) := by
          rw [e4, hx, Int.toNat_natCast, ← hx]; rfl
        show decR (n + 1) last (two c.f0.toNat ++ (Vc.put c.f1).1 ++ (rowB c.f0 r).1) = (c :: r, 0)
        rw [hl]
        simp only [decR, hd, hn2]
        rw [if_neg (by omega), List.drop_left, ← hx, ih2, if_pos rfl]
        have ec : celOf c.f0 v = c := by
          unfold celOf
          rw [← e0, ← e1, ← e2, ← e3, txt_of]
        rw [ec]
      · rw [if_neg hr] at h; exact absurd h (by simp)
    · rw [if_neg hc] at h; exact absurd h (by simp)
theorem rowB_size (l : List Cel) (g : ∀ c ∈ l, Cel.Good c) : ∀ last, (rowB last l).1.length ≤ 85 * l.length := by
  induction l with
  | nil => intro last; exact Nat.zero_le _
  | cons c r ih =>
    intro last
    have hp := Vc.put_length (g c List.mem_cons_self).2
    have ih2 := ih (fun c hc => g c (List.mem_cons_of_mem _ hc)) c.f0
    rw [rowB_cons]
    split
    · split
      · rw [List.length_append, List.length_append]
        show 2 + _ + _ ≤ 85 * (r.length + 1)
        omega
      · exact Nat.zero_le _
    · exact Nat.zero_le _
theorem spoil (x0 : List Cel) (s : ByteArray) (d : Nat) : ∀ (k i : Nat) (m : List Cel), i + d = m.length → m.length ≤ 1000000 → d < k →
    ∃ j, k = j + d + 1 ∧ falseworklaw4_RowBack.l0 k x0 s m true (i : Int) = ((row_Get.f j s).bind fun b => ((falseworkref4_Same.f j b.1 x0).bind fun t => (if t = true then ((falseworklaw4_awake.f j).bind fun u => some u) else some false))) := by
  induction d with
  | zero =>
    intro k i m hi hm hk
    refine ⟨k - 1, by omega, ?_⟩
    obtain ⟨k, rfl⟩ : ∃ m, k = m + 1 := ⟨k - 1, by omega⟩
    simp only [falseworklaw4_RowBack.l0]
    rw [if_neg (by omega)]
    simp only [if_true, Nat.add_sub_cancel]
  | succ d ih =>
    intro k i m hi hm hk
    obtain ⟨k, rfl⟩ : ∃ m, k = m + 1 := ⟨k - 1, by omega⟩
    simp only [falseworklaw4_RowBack.l0]
    rw [if_pos (by omega), if_pos (by omega), show wrap64 ((i : Int) + 1) = ((i + 1 : Nat) : Int) by unfold wrap64; omega]
    obtain ⟨j, hj, hf⟩ := ih k (i + 1) (m.set (i : Int).toNat ⟨0, ⟨(rd_T46 m (i : Int)).f1.f0, (rd_T46 m (i : Int)).f1.f1, (rd_T46 m (i : Int)).f1.f2, (rd_T46 m (i : Int)).f1.f3⟩⟩) (by rw [List.length_set]; omega) (by rw [List.length_set]; exact hm) (by omega)
    exact ⟨j, by omega, hf⟩
theorem RowBack (l : List Cel) (gl : l.length ≤ maxLen ∧ ∀ x ∈ l, ((Lit.int .i64 x.f0).wf = true ∧ ((Lit.int .i64 x.f1.f0).wf = true ∧ (Lit.int .i64 x.f1.f1).wf = true ∧ (Lit.int .u64 x.f1.f2).wf = true ∧ x.f1.f3.size ≤ maxLen))) : ∃ K, falseworklaw4_RowBack.f K l = some true := by
  have g : ∀ c ∈ l, Cel.Good c := gl.2
  refine ⟨200000, ?_⟩
  unfold falseworklaw4_RowBack.f
  obtain ⟨b, hb, hf⟩ := row_long_is l 200000 (by decide)
  rw [hb, Option.bind_some]
  cases b with
  | true => rw [if_pos rfl, row_awake_true 200000 (by decide)]; rfl
  | false =>
    have hlen := hf rfl
    rw [if_neg (by decide), row_put_is l g (by omega) 200000 (by omega), Option.bind_some]
    have hsz := rowB_size l g 0
    unfold ansR
    by_cases h : (rowB 0 l).2 = 0
    · rw [if_pos h]
      simp only [falseworklaw4_num.f, Option.bind_some, if_true, List.nil_append]
      have hz : (txt (rowB 0 l).1).size ≤ 42500 := by rw [txt_size]; omega
      have hback : ∀ n, l.length < n → decR n 0 (txt (rowB 0 l).1).data.toList = (l, 0) := fun n hn => by rw [txt_data]; exact rowB_back l g 0 n (by decide) h hn
      have hget : ∀ k, (txt (rowB 0 l).1).size + 70 ≤ k → row_Get.f k (txt (rowB 0 l).1) = some (l, 0) := by
        intro k hk
        by_cases hn : l.length < (txt (rowB 0 l).1).size + 1
        · rw [row_get_is _ (by omega) k hk, hback _ hn]; rfl
        · exfalso; exact hn (by
            have := decR_len (l.length + 1) 0 (txt (rowB 0 l).1).data.toList
            rw [hback _ (by omega), ← size_data] at this
            have this : l.length ≤ (txt (rowB 0 l).1).size := this
            omega)
      rw [hget 200000 (by omega), Option.bind_some]
      simp only [if_true]
      rw [samec_is l (by omega) 200000 (by omega), Option.bind_some]
      simp only [falseworklaw4_RowBack.j0]
      obtain ⟨j, hj, hs⟩ := spoil l (txt (rowB 0 l).1) l.length 199999 0 l (by omega) (by omega) (by omega)
      refine hs.trans ?_
      rw [hget j (by omega), Option.bind_some]
      dsimp only
      rw [samec_is l (by omega) j (by omega), Option.bind_some, if_pos rfl, row_awake_true j (by omega)]
      rfl
    · rw [if_neg h]
      simp only [falseworklaw4_num.f, Option.bind_some]
      rw [if_neg (by decide), if_pos (by rw [toList_data, txt_data]), row_awake_true 200000 (by decide)]
      rfl
end Go.Proofs.Ytebfilljdnhccaa.Pure
