/- Texts that are behind all that begin with a text. -/
import Derived.Test.YtifhnkbhjmapeaaValDec
namespace Go.Proofs.Ytifhnkbhjmapeaa.Plain

/-- The least text above all that begin so. -/
def after : List UInt8 → Option (List UInt8)
  | [] => none
  | b :: r => match after r with
    | some h => some (b :: h)
    | none => if b = 255 then none else some [b + 1]
theorem after_some {r h : List UInt8} (b : UInt8) (e : after r = some h) : after (b :: r) = some (b :: h) := by simp only [after, e]
theorem after_none {r : List UInt8} (b : UInt8) (e : after r = none) : after (b :: r) = if b = 255 then none else some [b + 1] := by simp only [after, e]
theorem after_snoc (r : List UInt8) (b : UInt8) : after (r ++ [b]) = if b = 255 then after r else some (r ++ [b + 1]) := by
  induction r with
  | nil => rfl
  | cons c r ih =>
    show after (c :: (r ++ [b])) = _
    by_cases h : b = 255
    · rw [if_pos h] at ih ⊢
      cases e : after r with
      | none => rw [after_none c (ih.trans e), after_none c e]
      | some q => rw [after_some c (ih.trans e), after_some c e]
    · rw [if_neg h] at ih ⊢
      rw [after_some c ih]; rfl
theorem u8_succ {b : UInt8} (h : ¬ b = 255) : (b + 1).toNat = b.toNat + 1 := by
  have hb := b.toNat_lt
  have : ¬ b.toNat = 255 := fun e => h (UInt8.toNat_inj.1 e)
  rw [UInt8.toNat_add]
  show (b.toNat + 1) % 256 = _
  omega
theorem after_all {s : List UInt8} : after s = none ↔ ∀ x ∈ s, x = 255 := by
  induction s with
  | nil => simp [after]
  | cons b r ih =>
    cases e : after r with
    | none =>
      rw [after_none b e]
      have hr := ih.1 e
      by_cases h : b = 255
      · rw [if_pos h]; simp [h]; exact hr
      · rw [if_neg h]; simp [h]
    | some q =>
      rw [after_some b e]
      constructor
      · intro h; cases h
      · intro h
        have := ih.2 (fun x hx => h x (List.mem_cons_of_mem _ hx))
        rw [e] at this; cases this
/-- A text begins with s just if it is not below s, and below what is behind s. -/
theorem within : ∀ (s t : List UInt8), (after s = none → (s <+: t ↔ less t s = false)) ∧ (∀ h, after s = some h → (s <+: t ↔ less t s = false ∧ less t h = true))
  | [], t => ⟨fun _ => ⟨fun _ => less_nil t, fun _ => List.nil_prefix⟩, fun h e => by cases e⟩
  | b :: r, [] => by
    have h1 : ¬ (b :: r) <+: [] := fun h => by have := h.length_le; simp at this
    have h2 : less [] (b :: r) = true := rfl
    exact ⟨fun _ => ⟨fun h => absurd h h1, fun h => (by rw [h2] at h; cases h)⟩, fun h _ => ⟨fun h => absurd h h1, fun h => (by rw [h2] at h; cases h.1)⟩⟩
  | b :: r, c :: u => by
    obtain ⟨ih1, ih2⟩ := within r u
    have hp : (b :: r) <+: (c :: u) ↔ b = c ∧ r <+: u := List.cons_prefix_cons
    rw [hp]
    by_cases hbc : b = c
    · subst hbc
      rw [less_same]
      cases e : after r with
      | none =>
        rw [after_none b e]
        have ih := ih1 e
        by_cases h : b = 255
        · rw [if_pos h]
          exact ⟨fun _ => by simp [ih], fun h e => by cases e⟩
        · rw [if_neg h]
          refine ⟨fun e => (by cases e), fun q hq => ?_⟩
          cases hq
          have hl : less (b :: u) [b + 1] = true := by
            have hn : ¬ b = b + 1 := fun e => by have := congrArg UInt8.toNat e; rw [u8_succ h] at this; omega
            rw [less_unlike hn]
            exact decide_eq_true (by rw [UInt8.lt_iff_toNat_lt, u8_succ h]; omega)
          rw [hl]; simp [ih]
      | some q =>
        rw [after_some b e]
        refine ⟨fun e => (by cases e), fun q' hq => ?_⟩
        cases hq
        rw [less_same]
        simp [ih2 q e]
    · have hcb : ¬ c = b := fun e => hbc e.symm
      rw [less_unlike hcb]
      have hno : ¬ (b = c ∧ r <+: u) := fun h => hbc h.1
      by_cases hlt : c < b
      · rw [decide_eq_true hlt]
        exact ⟨fun _ => ⟨fun h => absurd h hno, fun h => (by cases h)⟩, fun _ _ => ⟨fun h => absurd h hno, fun h => (by cases h.1)⟩⟩
      · have hgt := u8_tri hlt hcb
        rw [decide_eq_false hlt]
        cases e : after r with
        | none =>
          rw [after_none b e]
          by_cases h : b = 255
          · subst h
            rw [UInt8.lt_iff_toNat_lt] at hgt
            have := c.toNat_lt
            have h255 : (255 : UInt8).toNat = 255 := rfl
            omega
          · rw [if_neg h]
            refine ⟨fun e => (by cases e), fun q hq => ?_⟩
            cases hq
            have hl : less (c :: u) [b + 1] = false := by
              rw [less_cons]
              rw [UInt8.lt_iff_toNat_lt] at hgt
              have h1 : ¬ c < b + 1 := by rw [UInt8.lt_iff_toNat_lt, u8_succ h]; omega
              rw [decide_eq_false h1, less_nil]; simp
            rw [hl]
            exact ⟨fun h => absurd h hno, fun h => (by cases h.2)⟩
        | some q =>
          rw [after_some b e]
          refine ⟨fun e => (by cases e), fun q' hq => ?_⟩
          cases hq
          rw [less_unlike hcb, decide_eq_false hlt]
          exact ⟨fun h => absurd h hno, fun h => (by cases h.2)⟩
end Go.Proofs.Ytifhnkbhjmapeaa.Plain
