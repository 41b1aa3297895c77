/- Values that may be are read back: for every row of values; of rows that are long nothing is asked. -/
import Derived.Test.YtncdpdbafklodaaTBx4
import Derived.Test.YtncdpdbafklodaaTBx10
import Derived.Test.YtncdpdbafklodaaLibsTB
namespace Go.Proofs.Ytncdpdbafklodaa.Pure
open Go.RowKit Go.Proofs.Ytncdpdbafklodaa.PA Go.Proofs.YtncdpdbafklodaaW.PrintWords Go.Proofs.YtncdpdbafklodaaW.PrintLast Go.Proofs.Ytncdpdbafklodaa.Plain

/-- What is put is read back. -/
theorem putT_back (l : List Vc) (g : ∀ x ∈ l, x.Good) : ∀ (c n : Nat), c + l.length ≤ 16 → (putT l).2 = 0 → l.length < n → decT n c (putT l).1 = (l, 0) := by
  induction l with
  | nil =>
    intro c n _ _ hn
    obtain ⟨n, rfl⟩ : ∃ m, n = m + 1 := ⟨n - 1, by omega⟩
    rfl
  | cons x r ih =>
    intro c n hc h hn
    obtain ⟨n, rfl⟩ : ∃ m, n = m + 1 := ⟨n - 1, by omega⟩
    have hc : c + (r.length + 1) ≤ 16 := hc
    have hn : r.length + 1 < n + 1 := hn
    have gx := g x List.mem_cons_self
    rw [putT_eq] at h ⊢
    by_cases hx : x.put.2 = 0
    · rw [if_pos hx] at h ⊢
      by_cases hr : (putT r).2 = 0
      · rw [if_pos hr]
        obtain ⟨v, hv, e0, e1, e2, e3, e4⟩ := Vc.ok gx hx
        have ih2 := ih (fun y hy => g y (List.mem_cons_of_mem _ hy)) (c + 1) n (by omega) hr (by omega)
        have hd : decV (v.enc ++ (putT r).1) = some (v, v.enc.length) := decV_enc v hv _
        show decT (n + 1) c (x.put.1 ++ (putT r).1) = (x :: r, 0)
        rw [e4]
        rcases hl : v.enc ++ (putT r).1 with _ | ⟨a, t⟩
        · rw [hl] at hd; cases hd
        · have hdr : (a :: t).drop v.enc.length = (putT r).1 := by rw [← hl, List.drop_left]
          rw [hl] at hd
          rw [decT_some n c hd, if_neg (by omega)]
          dsimp only
          rw [hdr, ih2, if_pos rfl]
          have ec : vcOf v = x := by
            unfold vcOf
            rw [← e0, ← e1, ← e2, ← e3, txt_of]
          rw [ec]
      · rw [if_neg hr] at h; exact absurd h hr
    · rw [if_neg hx] at h; exact absurd h hx
theorem putT_size (l : List Vc) (g : ∀ x ∈ l, x.Good) : (putT l).1.length ≤ 83 * l.length := by
  induction l with
  | nil => exact Nat.zero_le _
  | cons x r ih =>
    have hp := Vc.put_length (g x List.mem_cons_self)
    have ih2 := ih (fun y hy => g y (List.mem_cons_of_mem _ hy))
    rw [putT_eq]
    split
    · split
      · rw [List.length_append]
        show _ + _ ≤ 83 * (r.length + 1)
        omega
      · exact Nat.zero_le _
    · exact Nat.zero_le _
theorem TupleBack (l : List Vc) (gl : l.length ≤ maxLen ∧ ∀ x ∈ l, ((Lit.int .i64 x.f0).wf = true ∧ (Lit.int .i64 x.f1).wf = true ∧ (Lit.int .u64 x.f2).wf = true ∧ x.f3.size ≤ maxLen)) : ∃ K, falseworklaw3_TupleBack.f K l = some true := by
  have g : ∀ x ∈ l, x.Good := gl.2
  refine ⟨10000, ?_⟩
  unfold falseworklaw3_TupleBack.f
  obtain ⟨b, hb⟩ := tup_long_is l 10000 (by decide)
  rw [hb, Option.bind_some]
  cases b with
  | true => rw [if_pos rfl, tup_awake_true 10000 (by decide)]; rfl
  | false =>
    rw [if_neg (by decide), tuple_put_is l g 10000 (by decide), Option.bind_some]
    unfold putsT
    by_cases hlen : l.length ≤ 16
    · rw [if_pos hlen]
      have hsz := putT_size l g
      unfold ansT
      by_cases h : (putT l).2 = 0
      · rw [if_pos h]
        simp only [falseworklaw3_num.f, Option.bind_some, if_true, List.nil_append]
        have hz : (txt (putT l).1).size ≤ 1328 := by rw [txt_size]; omega
        have hback : ∀ n, l.length < n → decT n 0 (txt (putT l).1).data.toList = (l, 0) := fun n hn => by rw [txt_data]; exact putT_back l g 0 n (by omega) h hn
        have hn : l.length < (txt (putT l).1).size + 1 := by
          have := decT_len (l.length + 1) 0 (txt (putT l).1).data.toList
          rw [hback _ (by omega), ← size_data] at this
          have this : l.length ≤ (txt (putT l).1).size := this
          omega
        rw [tup_get_is _ (by omega) 10000 (by omega), hback _ hn]
        show (Option.bind (some (ansG [] (l, 0))) _) = _
        have e : ansG [] (l, 0) = (l, 0) := rfl
        rw [e, Option.bind_some]
        simp only [if_true]
        rw [samev_is l (by omega) 10000 (by omega), Option.bind_some, if_pos rfl, tup_awake_true 10000 (by decide)]
        rfl
      · rw [if_neg h]
        simp only [falseworklaw3_num.f, Option.bind_some]
        rw [if_neg h, if_pos (by rw [toList_data]), tup_awake_true 10000 (by decide)]
        rfl
    · rw [if_neg hlen]
      simp only [falseworklaw3_num.f, Option.bind_some]
      rw [if_neg (by decide), if_pos (by rw [toList_data]), tup_awake_true 10000 (by decide)]
      rfl
end Go.Proofs.Ytncdpdbafklodaa.Pure
