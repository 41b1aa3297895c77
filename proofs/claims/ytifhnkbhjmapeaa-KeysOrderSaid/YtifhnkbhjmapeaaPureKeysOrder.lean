/- Entries of one index are in the order of their values, rows of one table in that of their keys: for all values; of rows that are long, and of values that may not be, nothing is asked. -/
import Derived.Test.YtifhnkbhjmapeaaKOx5
import Derived.Test.YtifhnkbhjmapeaaKOx13
import Derived.Test.YtifhnkbhjmapeaaLibsKO
namespace Go.Proofs.Ytifhnkbhjmapeaa.Pure
open Go.RowKit Go.Proofs.Ytifhnkbhjmapeaa.PA Go.Proofs.YtifhnkbhjmapeaaW.PrintWords Go.Proofs.YtifhnkbhjmapeaaW.PrintLast Go.Proofs.Ytifhnkbhjmapeaa.Plain

theorem KeysOrder (a b : List Vc) (f0 f1 f2 : Int) (f3 : ByteArray) (h0 h1 h2 : Int) (h3 : ByteArray)
    (ga : a.length ≤ maxLen ∧ ∀ x ∈ a, ((Lit.int .i64 x.f0).wf = true ∧ (Lit.int .i64 x.f1).wf = true ∧ (Lit.int .u64 x.f2).wf = true ∧ x.f3.size ≤ maxLen))
    (gb : b.length ≤ maxLen ∧ ∀ x ∈ b, ((Lit.int .i64 x.f0).wf = true ∧ (Lit.int .i64 x.f1).wf = true ∧ (Lit.int .u64 x.f2).wf = true ∧ x.f3.size ≤ maxLen))
    (gx : Vc.Good ⟨f0, f1, f2, f3⟩) (gy : Vc.Good ⟨h0, h1, h2, h3⟩) : ∃ K, falseworklaw21_KeysOrder.f K a b f0 f1 f2 f3 h0 h1 h2 h3 = some true := by
  obtain ⟨x, rfl, rfl, rfl, rfl⟩ : ∃ x : Vc, x.f0 = f0 ∧ x.f1 = f1 ∧ x.f2 = f2 ∧ x.f3 = f3 := ⟨⟨f0, f1, f2, f3⟩, rfl, rfl, rfl, rfl⟩
  obtain ⟨y, rfl, rfl, rfl, rfl⟩ : ∃ y : Vc, y.f0 = h0 ∧ y.f1 = h1 ∧ y.f2 = h2 ∧ y.f3 = h3 := ⟨⟨h0, h1, h2, h3⟩, rfl, rfl, rfl, rfl⟩
  replace gx : x.Good := gx
  replace gy : y.Good := gy
  refine ⟨300, ?_⟩
  have aw : ∀ k, 70 ≤ k → falseworklaw21_awake.f k = some true := keys_awake_true
  have loop : ∀ (d k i : Nat) (p : List UInt8), i + d = a.length → a.length = b.length → a.length ≤ 16 → d + 80 ≤ k → (putT (a.drop i)).2 = 0 → (putT (b.drop i)).2 = 0 → x.put.2 = 0 → y.put.2 = 0 →
      falseworklaw21_KeysOrder.l0 k a b (txt (p ++ ((putT (a.drop i)).1 ++ x.put.1))) (txt (p ++ ((putT (b.drop i)).1 ++ y.put.1))) (i : Int) x.f0 x.f1 x.f2 x.f3 y.f0 y.f1 y.f2 y.f3 = some true := by
    intro d
    induction d with
    | zero =>
      intro k i p hi hab ha hk z1 z2 zx zy
      obtain ⟨k, rfl⟩ : ∃ m, k = m + 1 := ⟨k - 1, by omega⟩
      simp only [falseworklaw21_KeysOrder.l0]
      rw [if_neg (by omega), vc_cmp_is gx gy k (by omega), Option.bind_some, vc_cmp zx zy, aw k (by omega)]
      have ea : a.drop i = [] := List.drop_eq_nil_of_le (by omega)
      have eb : b.drop i = [] := List.drop_eq_nil_of_le (by omega)
      simp only [toList_data, txt_data]
      rw [ea, eb]
      have e0 : (putT ([] : List Vc)).1 = [] := rfl
      rw [e0, List.nil_append, List.nil_append]
      show (if (less (p ++ x.put.1) (p ++ y.put.1) == _) = true then _ else _) = _
      rw [less_app, if_pos (beq_of (by rw [decide_eq_true_eq, cmpL_neg]))]; rfl
    | succ d ih =>
      intro k i p hi hab ha hk z1 z2 zx zy
      obtain ⟨k, rfl⟩ : ∃ m, k = m + 1 := ⟨k - 1, by omega⟩
      obtain ⟨v, hv, hvm, hvd⟩ := rd_at a i (by omega)
      obtain ⟨u, hu, hum, hud⟩ := rd_at b i (by omega)
      simp only [falseworklaw21_KeysOrder.l0]
      rw [if_pos (by omega), if_pos (by omega), if_pos (by omega), hv, hu]
      rw [hvd] at z1 ⊢
      rw [hud] at z2 ⊢
      obtain ⟨x1, x2, x3⟩ := putT_cons z1
      obtain ⟨y1, y2, y3⟩ := putT_cons z2
      have gv : v.Good := ga.2 v hvm
      have gu : u.Good := gb.2 u hum
      rw [vc_cmp_is gv gu k (by omega), Option.bind_some, vc_cmp x1 y1]
      by_cases hc : cmpL v.put.1 u.put.1 = 0
      · rw [if_pos hc, show wrap64 ((i : Int) + 1) = ((i + 1 : Nat) : Int) by unfold wrap64; omega, x3, y3, cmpL_zero.1 hc]
        simp only [List.append_assoc]
        rw [← List.append_assoc p, ← List.append_assoc p]
        exact ih k (i + 1) _ (by omega) hab ha (by omega) x2 y2 zx zy
      · rw [if_neg hc, aw k (by omega)]
        simp only [toList_data, txt_data]
        have hne : ¬ v.put.1 = u.put.1 := fun e => hc (cmpL_zero.2 e)
        show (if (less (p ++ _) (p ++ _) == _) = true then _ else _) = _
        rw [less_app, x3, y3, List.append_assoc, List.append_assoc, less_vc gv gu x1 y1, if_neg hne, if_pos (beq_of (by rw [decide_eq_true_eq, cmpL_neg]))]; rfl
  have j1 : a.length = b.length → a.length ≤ 50 → falseworklaw21_KeysOrder.j1 299 a b false x.f0 x.f1 x.f2 x.f3 y.f0 y.f1 y.f2 y.f3 = some true := by
    intro hab hl
    obtain ⟨cs, hcs, hcl⟩ := index_is a.length false hl 298 (by decide)
    obtain ⟨ds, hds, hdl⟩ := index_is b.length false (by omega) 298 (by decide)
    simp only [falseworklaw21_KeysOrder.j1, Bool.false_eq_true, if_false]
    have w3 : (Lit.int .i64 3).wf = true := by decide
    have w7 : (Lit.int .i64 7).wf = true := by decide
    rw [hcs, hds]
    simp only [Option.bind_some]
    rw [keys_entry_is w3 w7 _ _ _ _ a ga.2 gx 298 (by decide), keys_entry_is w3 w7 _ _ _ _ b gb.2 gy 298 (by decide)]
    simp only [falseworklaw21_num.f, Option.bind_some]
    rw [hcl, hdl]
    have hj2 : ∀ s t : ByteArray, falseworklaw21_KeysOrder.j2 298 a b s t true x.f0 x.f1 x.f2 x.f3 y.f0 y.f1 y.f2 y.f3 = some true := fun s t => by simp only [falseworklaw21_KeysOrder.j2, if_true]; rw [aw 297 (by decide)]; rfl
    by_cases c1 : (a.length = a.length ∧ ¬ x.f0 = 0 ∧ x.put.2 = 0) ∧ (a.length ≤ 16 ∧ (putT a).2 = 0)
    · have e1 : entryL 3 7 a.length false a x = (keyL 3 7 a ++ x.put.1, x.put.1, 0) := by
        unfold entryL
        rw [if_pos c1]
        have : soleB false a = false := by unfold soleB; simp
        rw [this]; rfl
      rw [e1, if_pos rfl]
      by_cases c2 : (b.length = b.length ∧ ¬ y.f0 = 0 ∧ y.put.2 = 0) ∧ (b.length ≤ 16 ∧ (putT b).2 = 0)
      · have e2 : entryL 3 7 b.length false b y = (keyL 3 7 b ++ y.put.1, y.put.1, 0) := by
          unfold entryL
          rw [if_pos c2]
          have : soleB false b = false := by unfold soleB; simp
          rw [this]; rfl
        rw [e2]
        simp only [bne_self_eq_false, falseworklaw21_KeysOrder.j2, Bool.false_eq_true, if_false]
        have := loop a.length 297 0 (105 :: (vn 3 ++ vn 7)) (by omega) hab c1.2.1 (by omega) c1.2.2 c2.2.2 c1.1.2.2 c2.1.2.2
        rw [List.drop_zero, List.drop_zero] at this
        unfold keyL
        rw [List.append_assoc, List.append_assoc]
        exact this
      · have e2 : entryL 3 7 b.length false b y = ([], [], 1) := by unfold entryL; rw [if_neg c2]
        rw [e2]; exact hj2 _ _
    · have e1 : entryL 3 7 a.length false a x = ([], [], 1) := by unfold entryL; rw [if_neg c1]
      rw [e1, if_neg (by decide)]; exact hj2 _ _
  have j0t : falseworklaw21_KeysOrder.j0 300 a b true x.f0 x.f1 x.f2 x.f3 y.f0 y.f1 y.f2 y.f3 = some true := by
    simp only [falseworklaw21_KeysOrder.j0, if_true]; rw [aw 299 (by decide)]; rfl
  have j0 : ∀ c : Bool, a.length = b.length → a.length ≤ 50 → falseworklaw21_KeysOrder.j0 300 a b c x.f0 x.f1 x.f2 x.f3 y.f0 y.f1 y.f2 y.f3 = some true := by
    intro c hab hl
    cases c
    · simp only [falseworklaw21_KeysOrder.j0, Bool.false_eq_true, if_false]
      rw [keys_row_is (by decide) gx 299 (by decide), Option.bind_some, keys_row_is (by decide) gy 299 (by decide), Option.bind_some]
      simp only [falseworklaw21_num.f, Option.bind_some]
      have j := j1 hab hl
      by_cases z1 : (rowL 2 x).2 = 0
      · rw [if_pos z1]
        by_cases z2 : (rowL 2 y).2 = 0
        · rw [if_pos z2, vc_cmp_is gx gy 299 (by decide), Option.bind_some]
          have hr : ∀ w : Vc, (rowL 2 w).2 = 0 → w.put.2 = 0 ∧ (rowL 2 w).1 = (114 :: vn 2) ++ w.put.1 := by
            intro w hw
            unfold rowL at hw ⊢
            by_cases h : w.f0 = 0
            · rw [if_pos h] at hw; cases hw
            · rw [if_neg h] at hw ⊢
              by_cases h' : w.put.2 = 0
              · rw [if_pos h']; exact ⟨h', rfl⟩
              · rw [if_neg h'] at hw; cases hw
          obtain ⟨p1, q1⟩ := hr x z1
          obtain ⟨p2, q2⟩ := hr y z2
          have hf : (less (txt (rowL 2 x).1).toList (txt (rowL 2 y).1).toList != decide (vcmp x y < 0)) = false := by
            rw [toList_data, toList_data, txt_data, txt_data, q1, q2, less_app, vc_cmp p1 p2]
            rw [bne_eq_false_iff_eq]
            exact eq_of_beq (beq_of (by rw [decide_eq_true_eq, cmpL_neg]))
          show falseworklaw21_KeysOrder.j1 299 a b (less (txt (rowL 2 x).1).toList (txt (rowL 2 y).1).toList != decide (vcmp x y < 0)) _ _ _ _ _ _ _ _ = _
          rw [hf]; exact j
        · rw [if_neg z2]; exact j
      · rw [if_neg z1]; exact j
    · exact j0t
  unfold falseworklaw21_KeysOrder.f
  obtain ⟨ba, ha, la⟩ := keys_long_is a 300 (by decide)
  obtain ⟨bb, hb, lb⟩ := keys_long_is b 300 (by decide)
  rw [ha, hb]
  simp only [Option.bind_some]
  cases ba
  · cases bb
    · simp only [Bool.false_eq_true, if_false]
      by_cases hab : (a.length : Int) = (b.length : Int)
      · rw [if_pos hab]
        split
        · exact j0t
        · exact j0 _ (by omega) (la rfl)
      · rw [if_neg hab]; exact j0t
    · exact j0t
  · exact j0t
end Go.Proofs.Ytifhnkbhjmapeaa.Pure
