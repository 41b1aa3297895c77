/- Two rows have unlike entries, unless the index is unique and their values are the same, and none null; the Val tells the row: for all values; of rows that are long, and of values that may not be, nothing is asked. -/
import Derived.Test.YtifhnkbhjmapeaaKUx5
import Derived.Test.YtifhnkbhjmapeaaKUx8
import Derived.Test.YtifhnkbhjmapeaaKUx9
import Derived.Test.YtifhnkbhjmapeaaLibsKU
namespace Go.Proofs.Ytifhnkbhjmapeaa.Pure
open Go.RowKit Go.Proofs.Ytifhnkbhjmapeaa.PA Go.Proofs.YtifhnkbhjmapeaaW.PrintWords Go.Proofs.YtifhnkbhjmapeaaW.PrintLast Go.Proofs.Ytifhnkbhjmapeaa.Plain

theorem vc_ext {x y : Vc} (h : x.f0 = y.f0 ∧ x.f1 = y.f1 ∧ x.f2 = y.f2 ∧ x.f3.data.toList = y.f3.data.toList) : x = y := by
  obtain ⟨a0, a1, a2, ⟨⟨a3⟩⟩⟩ := x
  obtain ⟨b0, b1, b2, ⟨⟨b3⟩⟩⟩ := y
  obtain ⟨h0, h1, h2, h3⟩ := h
  subst h0 h1 h2
  have : a3 = b3 := h3
  subst this
  rfl
theorem vc_eq {x y : Vc} (gx : x.Good) (gy : y.Good) (hx : x.put.2 = 0) (hy : y.put.2 = 0) : x.put.1 = y.put.1 ↔ x = y :=
  ⟨fun h => vc_ext ((vc_put_eq gx gy hx hy).1 h), fun h => by rw [h]⟩
theorem put_join {x y : Vc} (gx : x.Good) (gy : y.Good) (hx : x.put.2 = 0) (hy : y.put.2 = 0) {p q : List UInt8} (h : x.put.1 ++ p = y.put.1 ++ q) : x = y ∧ p = q := by
  have e : x.put.1 = y.put.1 := by
    apply Classical.byContradiction
    intro ne
    have l1 := less_vc gx gy hx hy p q
    have l2 := less_vc gy gx hy hx q p
    rw [if_neg ne, h, less_self] at l1
    rw [if_neg (fun e => ne e.symm), h, less_self] at l2
    exact ne (cmpL_zero.1 (by unfold cmpL; rw [← l1, ← l2]; rfl))
  rw [e] at h
  exact ⟨(vc_eq gx gy hx hy).1 e, List.append_cancel_left h⟩
theorem puts_join : ∀ (a b : List Vc), (∀ x ∈ a, x.Good) → (∀ x ∈ b, x.Good) → a.length = b.length → (putT a).2 = 0 → (putT b).2 = 0 → ∀ p q : List UInt8, (putT a).1 ++ p = (putT b).1 ++ q → a = b ∧ p = q
  | [], [], _, _, _, _, _, p, q, h => ⟨rfl, h⟩
  | [], _ :: _, _, _, hl, _, _, _, _, _ => by cases hl
  | _ :: _, [], _, _, hl, _, _, _, _, _ => by cases hl
  | x :: a, y :: b, ga, gb, hl, za, zb, p, q, h => by
    obtain ⟨x1, x2, x3⟩ := putT_cons za
    obtain ⟨y1, y2, y3⟩ := putT_cons zb
    rw [x3, y3, List.append_assoc, List.append_assoc] at h
    obtain ⟨e1, h2⟩ := put_join (ga x List.mem_cons_self) (gb y List.mem_cons_self) x1 y1 h
    obtain ⟨e2, e3⟩ := puts_join a b (fun z hz => ga z (List.mem_cons_of_mem _ hz)) (fun z hz => gb z (List.mem_cons_of_mem _ hz)) (by simpa using hl) x2 y2 p q h2
    exact ⟨by rw [e1, e2], e3⟩
/-- Two entries' keys are the same just so. -/
theorem key_eq {a b : List Vc} (ga : ∀ x ∈ a, x.Good) (gb : ∀ x ∈ b, x.Good) {x y : Vc} (gx : x.Good) (gy : y.Good) (hl : a.length = b.length) (za : (putT a).2 = 0) (zb : (putT b).2 = 0) (zx : x.put.2 = 0) (zy : y.put.2 = 0) (u : Bool) :
    ((if soleB u a = true then keyL 3 7 a else keyL 3 7 a ++ x.put.1) = (if soleB u b = true then keyL 3 7 b else keyL 3 7 b ++ y.put.1)) ↔ (a = b ∧ (x = y ∨ soleB u a = true)) := by
  have e : ∀ (l : List Vc) (z : Vc), (if soleB u l = true then keyL 3 7 l else keyL 3 7 l ++ z.put.1) = (105 :: (vn 3 ++ vn 7)) ++ ((putT l).1 ++ if soleB u l = true then [] else z.put.1) := by
    intro l z
    unfold keyL
    split
    · rw [List.append_nil]
    · rw [List.append_assoc]
  rw [e, e]
  constructor
  · intro h
    obtain ⟨h1, h2⟩ := puts_join a b ga gb hl za zb _ _ (List.append_cancel_left h)
    subst h1
    refine ⟨rfl, ?_⟩
    by_cases s : soleB u a = true
    · exact .inr s
    · rw [if_neg s, if_neg s] at h2
      exact .inl ((vc_eq gx gy zx zy).1 h2)
  · rintro ⟨rfl, h⟩
    by_cases s : soleB u a = true
    · rw [if_pos s, if_pos s]
    · rcases h with rfl | h
      · rfl
      · exact absurd h s
attribute [local instance low] Classical.propDecidable
theorem beq_dec (p q : List UInt8) : (p == q) = decide (p = q) := by
  by_cases h : p = q
  · rw [decide_eq_true h]; exact beq_iff_eq.2 h
  · rw [decide_eq_false h]; exact beq_eq_false_iff_ne.2 h
/-- Two values compared field by field. -/
theorem eq4 (x y : Vc) : (x.f0 == y.f0 && (x.f1 == y.f1 && (x.f2 == y.f2 && (x.f3.toList == y.f3.toList)))) = decide (x = y) := by
  by_cases h : x = y
  · subst h; simp
  · rw [decide_eq_false h]
    apply Bool.eq_false_iff.2
    intro hb
    simp only [Bool.and_eq_true, beq_iff_eq, toList_data] at hb
    exact h (vc_ext hb)
theorem neq4 (x y : Vc) : (!(x.f0 == y.f0) || (!(x.f1 == y.f1) || (!(x.f2 == y.f2) || (!(x.f3.toList == y.f3.toList))))) = !decide (x = y) := by
  rw [← eq4 x y, Bool.not_and, Bool.not_and, Bool.not_and]
theorem same_run (a b : List Vc) (hl : a.length = b.length) (hm : a.length ≤ maxLen) : ∀ (d k i : Nat), i + d = a.length → d < k → falseworkref2_Same.l0 k a b (i : Int) = some (decide (a.drop i = b.drop i)) := by
  intro d
  induction d with
  | zero =>
    intro k i hi hk
    obtain ⟨k, rfl⟩ : ∃ m, k = m + 1 := ⟨k - 1, by omega⟩
    simp only [falseworkref2_Same.l0]
    rw [if_neg (by omega), List.drop_eq_nil_of_le (by omega), List.drop_eq_nil_of_le (by omega)]
    simp
  | succ d ih =>
    intro k i hi hk
    obtain ⟨k, rfl⟩ : ∃ m, k = m + 1 := ⟨k - 1, by omega⟩
    obtain ⟨v, hv, _, hvd⟩ := rd_at a i (by omega)
    obtain ⟨u, hu, _, hud⟩ := rd_at b i (by omega)
    simp only [falseworkref2_Same.l0]
    rw [if_pos (by omega), if_pos (by omega), if_pos (by omega), hv, hu, neq4, hvd, hud, show wrap64 ((i : Int) + 1) = ((i + 1 : Nat) : Int) by (unfold maxLen at hm; unfold wrap64; omega), ih k (i + 1) (by omega) (by omega)]
    by_cases e : v = u
    · rw [decide_eq_true e, if_neg (by decide), e]
      congr 1
      apply decide_eq_decide.2
      simp
    · rw [decide_eq_false e, if_pos (by decide), decide_eq_false]
      intro h
      exact e (List.cons.inj h).1
theorem same_eq (a b : List Vc) (hl : a.length = b.length) (hm : a.length ≤ maxLen) (k : Nat) (hk : a.length < k) : falseworkref2_Same.f k a b = some (decide (a = b)) := by
  unfold falseworkref2_Same.f
  rw [if_pos (by omega)]
  have := same_run a b hl hm a.length k 0 (by omega) hk
  rw [List.drop_zero, List.drop_zero] at this
  exact this
theorem KeysUnlike (u : Bool) (a b : List Vc) (f0 f1 f2 : Int) (f3 : ByteArray) (h0 h1 h2 : Int) (h3 : ByteArray)
    (ga : a.length ≤ maxLen ∧ ∀ x ∈ a, ((Lit.int .i64 x.f0).wf = true ∧ (Lit.int .i64 x.f1).wf = true ∧ (Lit.int .u64 x.f2).wf = true ∧ x.f3.size ≤ maxLen))
    (gb : b.length ≤ maxLen ∧ ∀ x ∈ b, ((Lit.int .i64 x.f0).wf = true ∧ (Lit.int .i64 x.f1).wf = true ∧ (Lit.int .u64 x.f2).wf = true ∧ x.f3.size ≤ maxLen))
    (gx : Vc.Good ⟨f0, f1, f2, f3⟩) (gy : Vc.Good ⟨h0, h1, h2, h3⟩) : ∃ K, falseworklaw21_KeysUnlike.f K u a b f0 f1 f2 f3 h0 h1 h2 h3 = some true := by
  obtain ⟨x, rfl, rfl, rfl, rfl⟩ : ∃ x : Vc, x.f0 = f0 ∧ x.f1 = f1 ∧ x.f2 = f2 ∧ x.f3 = f3 := ⟨⟨f0, f1, f2, f3⟩, rfl, rfl, rfl, rfl⟩
  obtain ⟨y, rfl, rfl, rfl, rfl⟩ : ∃ y : Vc, y.f0 = h0 ∧ y.f1 = h1 ∧ y.f2 = h2 ∧ y.f3 = h3 := ⟨⟨h0, h1, h2, h3⟩, rfl, rfl, rfl, rfl⟩
  replace gx : x.Good := gx
  replace gy : y.Good := gy
  refine ⟨300, ?_⟩
  have aw : ∀ k, 70 ≤ k → falseworklaw21_awake.f k = some true := keys_awake_true
  have loop : ∀ (s t p q : ByteArray), a.length = b.length → a.length ≤ 50 → (p.toList == q.toList) = decide (x = y) → (s.toList == t.toList) = decide (a = b ∧ (x = y ∨ soleB u a = true)) →
      ∀ (d k i : Nat) (n : Bool), i + d = a.length → d + 150 ≤ k → (soleB u a = ((a.drop i).all (fun z => z.f0 != 0) && !n && u)) →
      falseworklaw21_KeysUnlike.l0 k u a b s p t q n (i : Int) x.f0 x.f1 x.f2 x.f3 y.f0 y.f1 y.f2 y.f3 = some true := by
    intro s t p q hl hm hp hs d
    induction d with
    | zero =>
      intro k i n hi hk hn
      obtain ⟨k, rfl⟩ : ∃ m, k = m + 1 := ⟨k - 1, by omega⟩
      simp only [falseworklaw21_KeysUnlike.l0]
      rw [if_neg (by omega), same_eq a b hl ga.1 k (by omega), Option.bind_some, eq4, hp, hs, aw k (by omega)]
      rw [List.drop_eq_nil_of_le (by omega)] at hn
      simp only [List.all_nil, Bool.true_and] at hn
      rw [hn]
      by_cases e1 : a = b
      · by_cases e2 : x = y
        · simp [e1, e2]
        · cases u <;> cases n <;> simp [e1, e2]
      · simp [e1]
    | succ d ih =>
      intro k i n hi hk hn
      obtain ⟨k, rfl⟩ : ∃ m, k = m + 1 := ⟨k - 1, by omega⟩
      obtain ⟨v, hv, _, hvd⟩ := rd_at a i (by omega)
      rw [hvd, List.all_cons] at hn
      simp only [falseworklaw21_KeysUnlike.l0]
      have hw : wrap64 ((i : Int) + 1) = ((i + 1 : Nat) : Int) := by unfold wrap64; omega
      rw [if_pos (by omega), hw]
      cases n
      · rw [if_neg (by decide), if_pos (by omega), hv]
        refine ih k (i + 1) _ (by omega) (by omega) ?_
        rw [hn]
        have : (v.f0 != 0) = !(v.f0 == 0) := rfl
        rw [this]
        cases (v.f0 == 0) <;> simp
      · rw [if_pos rfl]
        refine ih k (i + 1) _ (by omega) (by omega) ?_
        rw [hn]; simp
  have j0t : falseworklaw21_KeysUnlike.j0 300 u a b true x.f0 x.f1 x.f2 x.f3 y.f0 y.f1 y.f2 y.f3 = some true := by
    simp only [falseworklaw21_KeysUnlike.j0, if_true]; rw [aw 299 (by decide)]; rfl
  have j0 : ∀ c : Bool, a.length = b.length → a.length ≤ 50 → falseworklaw21_KeysUnlike.j0 300 u a b c x.f0 x.f1 x.f2 x.f3 y.f0 y.f1 y.f2 y.f3 = some true := by
    intro c hab hl
    cases c
    · obtain ⟨cs, hcs, hcl⟩ := index_is a.length u hl 299 (by decide)
      obtain ⟨ds, hds, hdl⟩ := index_is b.length u (by omega) 299 (by decide)
      simp only [falseworklaw21_KeysUnlike.j0, Bool.false_eq_true, if_false]
      have w3 : (Lit.int .i64 3).wf = true := by decide
      have w7 : (Lit.int .i64 7).wf = true := by decide
      rw [hcs, hds]
      simp only [Option.bind_some]
      rw [keys_entry_is w3 w7 _ _ _ _ a ga.2 gx 299 (by decide), keys_entry_is w3 w7 _ _ _ _ b gb.2 gy 299 (by decide)]
      simp only [falseworklaw21_num.f, Option.bind_some]
      rw [hcl, hdl]
      have hj1 : ∀ s t p q : ByteArray, falseworklaw21_KeysUnlike.j1 299 u a b s p t q true x.f0 x.f1 x.f2 x.f3 y.f0 y.f1 y.f2 y.f3 = some true := fun s t p q => by simp only [falseworklaw21_KeysUnlike.j1, if_true]; rw [aw 298 (by decide)]; rfl
      by_cases c1 : (a.length = a.length ∧ ¬ x.f0 = 0 ∧ x.put.2 = 0) ∧ (a.length ≤ 16 ∧ (putT a).2 = 0)
      · have e1 : entryL 3 7 a.length u a x = ((if soleB u a = true then keyL 3 7 a else keyL 3 7 a ++ x.put.1), x.put.1, 0) := by unfold entryL; rw [if_pos c1]
        rw [e1, if_pos rfl]
        by_cases c2 : (b.length = b.length ∧ ¬ y.f0 = 0 ∧ y.put.2 = 0) ∧ (b.length ≤ 16 ∧ (putT b).2 = 0)
        · have e2 : entryL 3 7 b.length u b y = ((if soleB u b = true then keyL 3 7 b else keyL 3 7 b ++ y.put.1), y.put.1, 0) := by unfold entryL; rw [if_pos c2]
          rw [e2]
          simp only [bne_self_eq_false, falseworklaw21_KeysUnlike.j1, Bool.false_eq_true, if_false]
          refine loop _ _ _ _ hab hl ?_ ?_ a.length 298 0 false (by omega) (by omega) ?_
          · rw [toList_data, toList_data, txt_data, txt_data, ← decide_eq_decide.2 (vc_eq gx gy c1.1.2.2 c2.1.2.2)]
            exact beq_dec _ _
          · rw [toList_data, toList_data, txt_data, txt_data, ← decide_eq_decide.2 (key_eq ga.2 gb.2 gx gy hab c1.2.2 c2.2.2 c1.1.2.2 c2.1.2.2 u)]
            exact beq_dec _ _
          · rw [List.drop_zero]; unfold soleB; simp
        · have e2 : entryL 3 7 b.length u b y = ([], [], 1) := by unfold entryL; rw [if_neg c2]
          rw [e2]; exact hj1 _ _ _ _
      · have e1 : entryL 3 7 a.length u a x = ([], [], 1) := by unfold entryL; rw [if_neg c1]
        rw [e1, if_neg (by decide)]; exact hj1 _ _ _ _
    · exact j0t
  unfold falseworklaw21_KeysUnlike.f
  obtain ⟨ba, ha, la⟩ := keys_long_is a 300 (by decide)
  obtain ⟨bb, hb, lb⟩ := keys_long_is b 300 (by decide)
  rw [ha, hb]
  simp only [Option.bind_some]
  cases ba
  · cases bb
    · simp only [Bool.false_eq_true, if_false]
      by_cases hab : (a.length : Int) = (b.length : Int)
      · rw [if_pos hab]
        split
        · exact j0t
        · exact j0 _ (by omega) (la rfl)
      · rw [if_neg hab]; exact j0t
    · exact j0t
  · exact j0t
end Go.Proofs.Ytifhnkbhjmapeaa.Pure
