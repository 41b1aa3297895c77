/- Tuples are in the order of the first values that are unlike; what begins another one is below it: for all rows of values; of rows that are long, and of values that may not be, nothing is asked. -/
import Derived.Test.YtncdpdbafklodaaPAx4
import Derived.Test.YtncdpdbafklodaaPAx6
import Derived.Test.YtncdpdbafklodaaPAx11
import Derived.Test.YtncdpdbafklodaaPAx12
import Derived.Test.YtncdpdbafklodaaTupPut
import Derived.Test.YtncdpdbafklodaaTupAfter
namespace Go.Proofs.Ytncdpdbafklodaa.Pure
open Go.RowKit Go.Proofs.Ytncdpdbafklodaa.PA Go.Proofs.YtncdpdbafklodaaW.PrintWords Go.Proofs.YtncdpdbafklodaaW.PrintLast Go.Proofs.Ytncdpdbafklodaa.Plain

theorem beq_of {p q : Bool} (h : p = true ↔ q = true) : (p == q) = true := by cases p <;> cases q <;> simp_all
theorem putT_cons {x : Vc} {r : List Vc} (h : (putT (x :: r)).2 = 0) : x.put.2 = 0 ∧ (putT r).2 = 0 ∧ (putT (x :: r)).1 = x.put.1 ++ (putT r).1 := by
  simp only [putT] at h ⊢
  by_cases h1 : x.put.2 = 0
  · rw [if_pos h1] at h
    by_cases h2 : (putT r).2 = 0
    · exact ⟨h1, h2, by rw [if_pos h1, if_pos h2]⟩
    · rw [if_neg h2] at h; exact absurd h h2
  · rw [if_neg h1] at h; exact absurd h h1
theorem putT_ne {x : Vc} {r : List Vc} (g : x.Good) (h : (putT (x :: r)).2 = 0) : (putT (x :: r)).1 ≠ [] := by
  obtain ⟨h1, h2, h3⟩ := putT_cons h
  obtain ⟨v, hv, _, _, _, _, e⟩ := Vc.ok g h1
  rw [h3, e]
  intro hh
  exact V.enc_ne v (List.append_eq_nil_iff.1 hh).1
/-- -1, 0, 1 of two. -/
def vcmp (x y : Vc) : Int := cmpV x.f0 x.f1 x.f2.toNat x.f3.data.toList y.f0 y.f1 y.f2.toNat y.f3.data.toList
theorem vc_cmp_is {x y : Vc} (gx : x.Good) (gy : y.Good) (K : Nat) (hK : 50 ≤ K) : falseworkref2_Cmp.f K x.f0 x.f1 x.f2 x.f3 y.f0 y.f1 y.f2 y.f3 = some (vcmp x y) := by
  have := ref_cmpv_is (k := x.f0) gx.2.1 (Vc.float gx).2 x.f3 (k' := y.f0) gy.2.1 (Vc.float gy).2 y.f3 K hK
  rw [← (Vc.float gx).1, ← (Vc.float gy).1] at this
  exact this
theorem vc_cmp {x y : Vc} (hx : x.put.2 = 0) (hy : y.put.2 = 0) : vcmp x y = cmpL x.put.1 y.put.1 := by
  unfold Vc.put putV at hx hy ⊢
  unfold vcmp cmpV
  by_cases h1 : mayB x.f0 x.f1 x.f2.toNat x.f3.data.toList = true
  · by_cases h2 : mayB y.f0 y.f1 y.f2.toNat y.f3.data.toList = true
    · rw [if_pos h1, if_pos h2, if_pos h1, if_pos h2]
    · rw [if_neg h2] at hy; cases hy
  · rw [if_neg h1] at hx; cases hx
theorem TupleOrders (a b : List Vc) (ga : a.length ≤ maxLen ∧ ∀ x ∈ a, ((Lit.int .i64 x.f0).wf = true ∧ (Lit.int .i64 x.f1).wf = true ∧ (Lit.int .u64 x.f2).wf = true ∧ x.f3.size ≤ maxLen))
    (gb : b.length ≤ maxLen ∧ ∀ x ∈ b, ((Lit.int .i64 x.f0).wf = true ∧ (Lit.int .i64 x.f1).wf = true ∧ (Lit.int .u64 x.f2).wf = true ∧ x.f3.size ≤ maxLen)) :
    ∃ K, falseworklaw3_TupleOrders.f K a b = some true := by
  refine ⟨300, ?_⟩
  have aw : ∀ k, 70 ≤ k → falseworklaw3_awake.f k = some true := tup_awake_true
  have loop : ∀ (d k i : Nat) (p : List UInt8), i + d = a.length → a.length ≤ 16 → b.length ≤ 16 → i ≤ b.length → 2 * d + 80 ≤ k → (putT (a.drop i)).2 = 0 → (putT (b.drop i)).2 = 0 →
      falseworklaw3_TupleOrders.l0 k a b (txt (p ++ (putT (a.drop i)).1)) (txt (p ++ (putT (b.drop i)).1)) (i : Int) = some true := by
    intro d
    induction d with
    | zero =>
      intro k i p hi ha hb hib hk h1 h2
      obtain ⟨k, rfl⟩ : ∃ m, k = m + 2 := ⟨k - 2, by omega⟩
      have ea : a.drop i = [] := List.drop_eq_nil_of_le (by omega)
      simp only [falseworklaw3_TupleOrders.l0]
      rw [if_neg (by omega), ea]
      have e0 : (putT ([] : List Vc)).1 = [] := rfl
      have hk2 : 70 ≤ k := by omega
      by_cases hbe : b.length = i
      · have eb : b.drop i = [] := List.drop_eq_nil_of_le (by omega)
        rw [eb]
        have hl : Op.bytesLess p p = false := less_self p
        have c0 : decide ((a.length : Int) < (b.length : Int)) = false := decide_eq_false (by omega)
        have c1 : ((a.length : Int) == (b.length : Int)) = true := beq_iff_eq.2 (by omega)
        simp only [falseworklaw3_TupleOrders.j3, Bool.false_eq_true, if_false, toList_data, txt_data, e0, List.append_nil, hl, c0, c1, beq_self_eq_true, if_true, aw k hk2, Option.bind_some]
      · obtain ⟨y, _, hym, hyd⟩ := rd_at b i (by omega)
        have hne : (putT (b.drop i)).1 ≠ [] := by rw [hyd] at h2 ⊢; exact putT_ne (gb.2 y hym) h2
        have hpp : (p == p ++ (putT (b.drop i)).1) = false := by
          rw [beq_eq_false_iff_ne]
          intro e
          exact hne (by simpa using e)
        have hl : Op.bytesLess p (p ++ (putT (b.drop i)).1) = true := less_prefix p _ hne
        have c0 : decide ((a.length : Int) < (b.length : Int)) = true := decide_eq_true (by omega)
        have c1 : ((a.length : Int) == (b.length : Int)) = false := beq_eq_false_iff_ne.2 (by omega)
        simp only [falseworklaw3_TupleOrders.j3, Bool.false_eq_true, if_false, toList_data, txt_data, e0, List.append_nil, hl, c0, c1, hpp, beq_self_eq_true, if_true, aw k hk2, Option.bind_some]
    | succ d ih =>
      intro k i p hi ha hb hib hk h1 h2
      obtain ⟨k, rfl⟩ : ∃ m, k = m + 2 := ⟨k - 2, by omega⟩
      obtain ⟨x, hx, hxm, hxd⟩ := rd_at a i (by omega)
      simp only [falseworklaw3_TupleOrders.l0]
      rw [if_pos (by omega)]
      rw [hxd] at h1 ⊢
      obtain ⟨x1, x2, x3⟩ := putT_cons h1
      by_cases hbe : b.length = i
      · have eb : b.drop i = [] := List.drop_eq_nil_of_le (by omega)
        have hne := putT_ne (ga.2 x hxm) h1
        rw [eb, decide_eq_false (by omega)]
        have e0 : (putT ([] : List Vc)).1 = [] := rfl
        have hk2 : 70 ≤ k := by omega
        have hl : Op.bytesLess (p ++ (putT (x :: a.drop (i + 1))).1) p = false := by
          have := less_app p (putT (x :: a.drop (i + 1))).1 []
          rw [List.append_nil, less_nil] at this
          exact this
        have hpp : (p ++ (putT (x :: a.drop (i + 1))).1 == p) = false := by
          rw [beq_eq_false_iff_ne]
          intro e
          exact hne (by simpa using e)
        have c0 : decide ((a.length : Int) < (b.length : Int)) = false := decide_eq_false (by omega)
        have c1 : ((a.length : Int) == (b.length : Int)) = false := beq_eq_false_iff_ne.2 (by omega)
        simp only [falseworklaw3_TupleOrders.j3, Bool.false_eq_true, if_false, toList_data, txt_data, e0, List.append_nil, hl, c0, c1, hpp, beq_self_eq_true, if_true, aw k hk2, Option.bind_some]
      · obtain ⟨y, hy, hym, hyd⟩ := rd_at b i (by omega)
        rw [hyd] at h2 ⊢
        obtain ⟨y1, y2, y3⟩ := putT_cons h2
        rw [decide_eq_true (by omega)]
        simp only [falseworklaw3_TupleOrders.j3, if_true]
        rw [if_pos (by omega), if_pos (by omega), if_pos (by omega), hx, hy, vc_cmp_is (ga.2 x hxm) (gb.2 y hym) k (by omega), Option.bind_some, vc_cmp x1 y1]
        obtain ⟨v, hv, _, _, _, _, ev⟩ := Vc.ok (ga.2 x hxm) x1
        obtain ⟨u, hu, _, _, _, _, eu⟩ := Vc.ok (gb.2 y hym) y1
        by_cases hc : cmpL x.put.1 y.put.1 = 0
        · rw [if_pos hc, show wrap64 ((i : Int) + 1) = ((i + 1 : Nat) : Int) by unfold wrap64; omega, x3, y3, cmpL_zero.1 hc, ← List.append_assoc, ← List.append_assoc]
          exact ih k (i + 1) _ (by omega) ha hb (by omega) (by omega) x2 y2
        · rw [if_neg hc]
          simp only [toList_data, txt_data]
          have hne : ¬ v.enc = u.enc := by rw [← ev, ← eu]; exact fun e => hc (cmpL_zero.2 e)
          have hl : less (p ++ (putT (x :: a.drop (i + 1))).1) (p ++ (putT (y :: b.drop (i + 1))).1) = less x.put.1 y.put.1 := by
            rw [less_app, x3, y3, ev, eu, V.less_app, if_neg hne]
          show (if (less _ _ == decide (cmpL x.put.1 y.put.1 < 0)) = true then _ else _) = _
          rw [hl, if_pos (beq_of (by rw [decide_eq_true_eq, cmpL_neg])), if_neg, aw k (by omega)]
          · rfl
          · intro e
            have l1 := less_app p (putT (x :: a.drop (i + 1))).1 (putT (y :: b.drop (i + 1))).1
            have l2 := less_app p (putT (y :: b.drop (i + 1))).1 (putT (x :: a.drop (i + 1))).1
            rw [e, less_self, x3, y3, ev, eu, V.less_app, if_neg hne] at l1
            rw [e, less_self, x3, y3, ev, eu, V.less_app, if_neg (fun e => hne e.symm)] at l2
            have := less_total v.enc u.enc hne
            rw [← l1, ← l2] at this
            cases this
  have j1 : ∀ c : Bool, (c = true ∨ ∃ q q' : List UInt8 × Int, putsT a = ansT [] q ∧ putsT b = ansT [] q' ∧ q = putT a ∧ q' = putT b ∧ a.length ≤ 16 ∧ b.length ≤ 16 ∧ q.2 = 0 ∧ q'.2 = 0) → falseworklaw3_TupleOrders.j1 298 a b (putsT a).1 (putsT b).1 c = some true := by
    intro c hc
    simp only [falseworklaw3_TupleOrders.j1]
    by_cases h : c = true
    · rw [if_pos h, aw 297 (by decide)]; rfl
    · obtain ⟨q, q', e1, e2, e3, e4, l1, l2, z1, z2⟩ := hc.resolve_left h
      rw [if_neg h, e1, e2]
      unfold ansT
      rw [if_pos z1, if_pos z2, e3, e4]
      have := loop a.length 297 0 [] (by omega) l1 l2 (by omega) (by omega) (by rw [List.drop_zero, ← e3]; exact z1) (by rw [List.drop_zero, ← e4]; exact z2)
      rw [List.drop_zero, List.drop_zero] at this
      exact this
  have z : ∀ (l : List Vc), (putsT l).2 = 0 → l.length ≤ 16 ∧ (putT l).2 = 0 ∧ putsT l = ansT [] (putT l) := by
    intro l h
    unfold putsT at h ⊢
    by_cases hl : l.length ≤ 16
    · rw [if_pos hl] at h ⊢
      refine ⟨hl, ?_, rfl⟩
      unfold ansT at h
      by_cases h2 : (putT l).2 = 0
      · exact h2
      · rw [if_neg h2] at h; exact absurd h h2
    · rw [if_neg hl] at h; cases h
  have j0 : ∀ c : Bool, falseworklaw3_TupleOrders.j0 299 a b c = some true := by
    intro c
    simp only [falseworklaw3_TupleOrders.j0]
    by_cases h : c = true
    · rw [if_pos h, aw 298 (by decide)]; rfl
    rw [if_neg h, tuple_put_is a ga.2 298 (by decide), tuple_put_is b gb.2 298 (by decide)]
    simp only [Option.bind_some, falseworklaw3_num.f]
    by_cases h1 : (putsT a).2 = 0
    · rw [if_pos h1]
      obtain ⟨a1, a2, a3⟩ := z a h1
      by_cases h2 : (putsT b).2 = 0
      · obtain ⟨b1, b2, b3⟩ := z b h2
        exact j1 _ (.inr ⟨_, _, a3, b3, rfl, rfl, a1, b1, a2, b2⟩)
      · exact j1 _ (.inl (bne_iff_ne.2 h2))
    · rw [if_neg h1]; exact j1 true (.inl rfl)
  unfold falseworklaw3_TupleOrders.f
  obtain ⟨ba, ha⟩ := tup_long_is a 300 (by decide)
  obtain ⟨bb, hb⟩ := tup_long_is b 300 (by decide)
  have j0' : ∀ c : Bool, falseworklaw3_TupleOrders.j0 300 a b c = some true := fun c => (falseworklaw3_TupleOrders.mono_l 299).1 a b c _ (j0 c)
  rw [ha, hb]
  simp only [Option.bind_some]
  cases ba
  · exact j0' bb
  · exact j0' true
end Go.Proofs.Ytncdpdbafklodaa.Pure
