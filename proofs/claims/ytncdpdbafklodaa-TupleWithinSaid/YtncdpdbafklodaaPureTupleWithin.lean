/- A text begins with another one just if it is not below that, and below what is behind all that begin so: for all texts; of texts of more than 2000 bytes nothing is asked. -/
import Derived.Test.YtncdpdbafklodaaPAx6
import Derived.Test.YtncdpdbafklodaaPAx13
import Derived.Test.YtncdpdbafklodaaTupPut
import Derived.Test.YtncdpdbafklodaaTupAfter
namespace Go.Proofs.Ytncdpdbafklodaa.Pure
open Go.RowKit Go.Proofs.Ytncdpdbafklodaa.PA Go.Proofs.YtncdpdbafklodaaW.PrintWords Go.Proofs.YtncdpdbafklodaaW.PrintLast Go.Proofs.Ytncdpdbafklodaa.Plain

theorem prefix_take {s t : List UInt8} : s <+: t ↔ s.length ≤ t.length ∧ t.take s.length = s := by
  constructor
  · rintro ⟨r, rfl⟩
    exact ⟨by simp, by simp⟩
  · rintro ⟨_, h⟩
    exact ⟨t.drop s.length, by have e := List.take_append_drop s.length t; rw [h] at e; exact e⟩
theorem bool_is {p q : Bool} (h : p = true ↔ q = true) : (p == q) = true := by cases p <;> cases q <;> simp_all
theorem TupleWithin : falseworklaw3_TupleWithin.Pure := by
  intro s t hs ht
  refine ⟨2100, ?_⟩
  have aw : ∀ k, 70 ≤ k → falseworklaw3_awake.f k = some true := tup_awake_true
  have loop : ∀ (d k i : Nat) (h : ByteArray) (b : Bool), i + d = s.size → s.size ≤ 2000 → d + 71 ≤ k → (∀ x ∈ s.data.toList, x = 255) → h.data.toList = [] → (b == !(less t.data.toList s.data.toList)) = true →
      falseworklaw3_TupleWithin.l0 k s t h b (i : Int) = some true := by
    intro d
    induction d with
    | zero =>
      intro k i h b hi hz hk ha hh hb
      obtain ⟨k, rfl⟩ : ∃ m, k = m + 1 := ⟨k - 1, by omega⟩
      simp only [falseworklaw3_TupleWithin.l0, toList_data]
      rw [if_neg (by omega), if_pos hh, if_pos hb, aw k (by omega)]; rfl
    | succ d ih =>
      intro k i h b hi hz hk ha hh hb
      obtain ⟨k, rfl⟩ : ∃ m, k = m + 1 := ⟨k - 1, by omega⟩
      obtain ⟨x, hx, hd⟩ := bt_data s i (by omega)
      have hm : x ∈ s.data.toList := List.mem_of_mem_drop (by rw [hd]; exact List.mem_cons_self)
      simp only [falseworklaw3_TupleWithin.l0]
      rw [if_pos (by omega), if_pos (by omega), hx, if_pos ((byte_255 x).2 (ha x hm)), show wrap64 ((i : Int) + 1) = ((i + 1 : Nat) : Int) by unfold wrap64; omega]
      exact ih k (i + 1) h b (by omega) hz (by omega) ha hh hb
  have j1 : ∀ b : Bool, s.size ≤ 2000 → (b = true ↔ s.data.toList <+: t.data.toList) → falseworklaw3_TupleWithin.j1 2099 s t (afterA (after s.data.toList)).1 (afterA (after s.data.toList)).2 b = some true := by
    intro b hz hb
    simp only [falseworklaw3_TupleWithin.j1, toList_data]
    obtain ⟨w1, w2⟩ := within s.data.toList t.data.toList
    cases e : after s.data.toList with
    | none =>
      have h := w1 e
      simp only [afterA, Bool.false_eq_true, if_false]
      refine loop s.size 2098 0 _ b (by omega) hz (by omega) (after_all.1 e) rfl (bool_is (hb.trans (h.trans ?_)))
      cases less t.data.toList s.data.toList <;> simp
    | some q =>
      have h := w2 q e
      simp only [afterA, if_true, txt_data]
      by_cases hl : less t.data.toList s.data.toList = true
      · rw [if_pos hl]
        have : b = false := by
          cases b with
          | false => rfl
          | true => have := (h.1 (hb.1 rfl)).1; rw [hl] at this; cases this
        rw [this, if_pos (show (false == false) = true from rfl), aw 2098 (by decide)]; rfl
      · rw [if_neg hl, if_pos (bool_is (hb.trans (h.trans ?_))), aw 2098 (by decide)]
        · rfl
        · have : less t.data.toList s.data.toList = false := by simpa using hl
          simp [this]
  have j0 : ∀ b : Bool, (b = true ∨ (s.size ≤ 2000 ∧ t.size ≤ 2000)) → falseworklaw3_TupleWithin.j0 2100 s t b = some true := by
    intro b hb
    simp only [falseworklaw3_TupleWithin.j0]
    by_cases h : b = true
    · rw [if_pos h, aw 2099 (by decide)]; rfl
    obtain ⟨h1, h2⟩ := hb.resolve_left h
    rw [if_neg h, tuple_after_is s (by omega) 2099 (by omega), Option.bind_some]
    have hzs := size_data s
    have hzt := size_data t
    by_cases hge : (t.size : Int) ≥ (s.size : Int)
    · rw [if_pos hge, if_pos (by omega), if_pos (by omega)]
      refine j1 _ h1 ?_
      rw [Int.toNat_natCast, extract_head, toList_data, toList_data, txt_data, beq_iff_eq, prefix_take, ← hzs, ← hzt]
      constructor
      · intro e; exact ⟨by omega, e⟩
      · intro e; exact e.2
    · rw [if_neg hge]
      refine j1 false h1 ?_
      rw [prefix_take, ← hzs, ← hzt]
      constructor
      · intro e; cases e
      · intro e; have := e.1; omega
  unfold falseworklaw3_TupleWithin.f
  by_cases h : (s.size : Int) > 2000
  · rw [if_pos h]; exact j0 true (.inl rfl)
  · rw [if_neg h]
    by_cases h2 : (t.size : Int) > 2000
    · rw [decide_eq_true h2]; exact j0 true (.inl rfl)
    · rw [decide_eq_false h2]; exact j0 false (.inr ⟨by omega, by omega⟩)
end Go.Proofs.Ytncdpdbafklodaa.Pure
