/- Values read from bytes, in plain lists: what is put is read back, and what is read was put. -/
import Derived.Test.YtifhnkbhjmapeaaValV
namespace Go.Proofs.Ytifhnkbhjmapeaa.Plain

/-- The text that stands escaped ahead, and how many bytes it has there. -/
def unesc : List UInt8 → Option (List UInt8 × Nat)
  | [] => none
  | [_] => none
  | a :: b :: r =>
    if a = 0 then
      if b = 1 then some ([], 2)
      else if b = 255 then (unesc r).map fun q => (0 :: q.1, q.2 + 2)
      else none
    else (unesc (b :: r)).map fun q => (a :: q.1, q.2 + 1)
/-- The number of n bytes, the highest first. -/
def wordN : Nat → List UInt8 → Nat → Nat
  | n + 1, b :: r, x => wordN n r (x * 256 + b.toNat)
  | _, _, x => x
/-- The value at a beginning, and how many bytes it has there. -/
def decV : List UInt8 → Option (V × Nat)
  | [] => none
  | c :: r =>
    if c = 1 then some (.null, 1)
    else if c = 2 then some (.bool false, 1)
    else if c = 3 then some (.bool true, 1)
    else if c = 4 then (if 8 ≤ r.length then some (.int ((wordN 8 r 0 : Int) - 9223372036854775808), 9) else none)
    else if c = 5 then (if 8 ≤ r.length then (if (back (wordN 8 r 0)).2 = true then some (.flo (back (wordN 8 r 0)).1, 9) else none) else none)
    else if c = 6 then (unesc r).bind fun q => if q.1.length ≤ 40 then some (.raw q.1, q.2 + 1) else none
    else if c = 7 then (unesc r).bind fun q => if q.1.length ≤ 40 then some (.text q.1, q.2 + 1) else none
    else none
theorem unesc_other {a : UInt8} (h : ¬ a = 0) (l : List UInt8) : unesc (a :: l) = (unesc l).map fun q => (a :: q.1, q.2 + 1) := by
  cases l with
  | nil => rfl
  | cons b r => simp only [unesc]; rw [if_neg h]
theorem unesc_end (r : List UInt8) : unesc (0 :: 1 :: r) = some ([], 2) := by simp [unesc]
theorem unesc_zero (r : List UInt8) : unesc (0 :: 255 :: r) = (unesc r).map fun q => (0 :: q.1, q.2 + 2) := by simp [unesc]
theorem unesc_bad {b : UInt8} (h1 : ¬ b = 1) (h2 : ¬ b = 255) (r : List UInt8) : unesc (0 :: b :: r) = none := by simp [unesc, h1, h2]
theorem unesc_esc (s x : List UInt8) : unesc (esc s ++ (0 :: 1 :: x)) = some (s, (esc s).length + 2) := by
  induction s with
  | nil => exact unesc_end x
  | cons a s ih =>
    by_cases h : a = 0
    · subst h
      rw [esc_zero]
      show unesc (0 :: 255 :: (esc s ++ 0 :: 1 :: x)) = _
      rw [unesc_zero, ih]; simp
    · rw [esc_other h]
      show unesc (a :: (esc s ++ 0 :: 1 :: x)) = _
      rw [unesc_other h, ih]; simp
theorem wordN_lt (n : Nat) : ∀ (l : List UInt8) (x : Nat), wordN n l x < (x + 1) * 256 ^ n := by
  induction n with
  | zero => intro l x; simp [wordN]
  | succ n ih =>
    intro l x
    cases l with
    | nil => show x < _; have := Nat.pow_pos (n := n + 1) (show 0 < 256 by decide); have h2 : (x + 1) * 1 ≤ (x + 1) * 256 ^ (n + 1) := Nat.mul_le_mul_left _ this; omega
    | cons b r =>
      show wordN n r (x * 256 + b.toNat) < _
      have h1 := ih r (x * 256 + b.toNat)
      have hb : b.toNat < 256 := b.toNat_lt
      have h2 : (x * 256 + b.toNat + 1) * 256 ^ n ≤ ((x + 1) * 256) * 256 ^ n := Nat.mul_le_mul_right _ (by omega)
      rw [Nat.pow_succ, Nat.mul_comm (256 ^ n) 256, ← Nat.mul_assoc]
      omega
theorem wordN_lt8 (l : List UInt8) : wordN 8 l 0 < 18446744073709551616 := by
  have := wordN_lt 8 l 0
  simpa using this
theorem wordN_beN (u : Nat) (r : List UInt8) (n : Nat) : ∀ x, wordN n (beN n u ++ r) x = x * 256 ^ n + u % 256 ^ n := by
  induction n with
  | zero => intro x; simp [wordN, Nat.mod_one]
  | succ n ih =>
    intro x
    show wordN n (beN n u ++ r) (x * 256 + (UInt8.ofNat (u / 256 ^ n % 256)).toNat) = _
    rw [ih, UInt8.toNat_ofNat', Nat.mod_mod, Nat.mod_pow_succ, Nat.pow_succ, Nat.add_mul, Nat.mul_assoc x 256, Nat.mul_comm 256 (256 ^ n), Nat.mul_comm (u / 256 ^ n % 256)]
    omega
theorem wordN_be8 {u : Nat} (h : u < 18446744073709551616) (x : List UInt8) : wordN 8 (be8 u ++ x) 0 = u := by
  rw [be8_is, wordN_beN, Nat.zero_mul, Nat.zero_add, Nat.mod_eq_of_lt (show u < 256 ^ 8 from h)]
theorem biased_back {n : Int} (h : -9223372036854775808 ≤ n ∧ n ≤ 9223372036854775807) : ((biased n : Nat) : Int) - 9223372036854775808 = n := by unfold biased; omega
/-- What is put is read back, whatever stands behind it. -/
theorem decV_enc (v : V) (h : v.Ok) (x : List UInt8) : decV (v.enc ++ x) = some (v, v.enc.length) := by
  cases v with
  | null => rfl
  | bool b => cases b <;> rfl
  | int n =>
    show (if 8 ≤ (be8 (biased n) ++ x).length then some (V.int ((wordN 8 (be8 (biased n) ++ x) 0 : Int) - 9223372036854775808), 9) else none) = _
    rw [if_pos (by rw [List.length_append, be8_length]; omega), wordN_be8 (biased_lt h), biased_back h]; rfl
  | flo f =>
    show (if 8 ≤ (be8 (ordr f) ++ x).length then (if (back (wordN 8 (be8 (ordr f) ++ x) 0)).2 = true then some (V.flo (back (wordN 8 (be8 (ordr f) ++ x) 0)).1, 9) else none) else none) = _
    rw [if_pos (by rw [List.length_append, be8_length]; omega), wordN_be8 (ordr_lt f), back_ordr h.1, if_pos rfl, h.2]; rfl
  | raw s =>
    show (unesc ((esc s ++ [0, 1]) ++ x)).bind _ = _
    rw [List.append_assoc, show [0, 1] ++ x = 0 :: 1 :: x from rfl, unesc_esc, Option.bind_some, if_pos (show s.length ≤ 40 from h)]
    simp [V.enc]
  | text s =>
    show (unesc ((esc s ++ [0, 1]) ++ x)).bind _ = _
    rw [List.append_assoc, show [0, 1] ++ x = 0 :: 1 :: x from rfl, unesc_esc, Option.bind_some, if_pos (show s.length ≤ 40 from h)]
    simp [V.enc]
/-- What is read is a text with its end. -/
theorem unesc_is : ∀ (n : Nat) (l : List UInt8), l.length ≤ n → ∀ s m, unesc l = some (s, m) → m = (esc s).length + 2 ∧ l = esc s ++ (0 :: 1 :: l.drop m)
  | 0, l, hl, s, m, h => by
    cases l with
    | nil => cases h
    | cons _ _ => simp at hl
  | n + 1, [], hl, s, m, h => by cases h
  | n + 1, [a], hl, s, m, h => by cases h
  | n + 1, a :: b :: r, hl, s, m, h => by
    by_cases ha : a = 0
    · subst ha
      by_cases h1 : b = 1
      · subst h1
        rw [unesc_end] at h
        cases h
        exact ⟨rfl, rfl⟩
      · by_cases h2 : b = 255
        · subst h2
          rw [unesc_zero] at h
          cases e : unesc r with
          | none => rw [e] at h; cases h
          | some q =>
            rw [e] at h
            cases h
            obtain ⟨i1, i2⟩ := unesc_is n r (by simp at hl; omega) q.1 q.2 e
            refine ⟨by rw [esc_zero]; simp; omega, ?_⟩
            rw [esc_zero]
            show 0 :: 255 :: r = 0 :: 255 :: (esc q.1 ++ (0 :: 1 :: r.drop q.2))
            rw [← i2]
        · rw [unesc_bad h1 h2] at h; cases h
    · rw [unesc_other ha] at h
      cases e : unesc (b :: r) with
      | none => rw [e] at h; cases h
      | some q =>
        rw [e] at h
        cases h
        obtain ⟨i1, i2⟩ := unesc_is n (b :: r) (by simp at hl ⊢; omega) q.1 q.2 e
        refine ⟨by rw [esc_other ha]; simp; omega, ?_⟩
        rw [esc_other ha]
        show a :: b :: r = a :: (esc q.1 ++ (0 :: 1 :: (b :: r).drop q.2))
        rw [← i2]
theorem be8_wordN : ∀ (l : List UInt8), 8 ≤ l.length → be8 (wordN 8 l 0) ++ l.drop 8 = l
  | a :: b :: c :: d :: e :: f :: g :: h :: r, _ => by
    have key : ∀ (z : UInt8) (m : Nat), m % 256 = z.toNat → UInt8.ofNat m = z := fun z m hm => UInt8.toNat_inj.1 (by rw [UInt8.toNat_ofNat']; exact hm)
    have b1 := a.toNat_lt; have b2 := b.toNat_lt; have b3 := c.toNat_lt; have b4 := d.toNat_lt
    have b5 := e.toNat_lt; have b6 := f.toNat_lt; have b7 := g.toNat_lt; have b8 := h.toNat_lt
    simp only [wordN, be8, List.cons_append, List.nil_append, List.drop_succ_cons, List.drop_zero]
    rw [key a _ (by omega), key b _ (by omega), key c _ (by omega), key d _ (by omega), key e _ (by omega), key f _ (by omega), key g _ (by omega), key h _ (by omega)]
theorem back_is {o : Nat} (h : o < 18446744073709551616) (hb : (back o).2 = true) : (back o).1 < 18446744073709551616 ∧ canon (back o).1 = (back o).1 ∧ ordr (back o).1 = o := by
  unfold back at hb ⊢
  by_cases hc : canon (unplace o) = unplace o
  · rw [if_pos hc]; exact ⟨unplace_lt h, hc, ordr_unplace h hc⟩
  · rw [if_neg hc] at hb; cases hb
/-- What is read may be, and its bytes are those that were read. -/
theorem decV_is {l : List UInt8} {v : V} {m : Nat} (h : decV l = some (v, m)) : v.Ok ∧ m = v.enc.length ∧ v.enc ++ l.drop m = l := by
  cases l with
  | nil => cases h
  | cons c r =>
    unfold decV at h
    dsimp only at h
    by_cases h1 : c = 1
    · rw [if_pos h1] at h; cases h; subst h1; exact ⟨trivial, rfl, rfl⟩
    rw [if_neg h1] at h
    by_cases h2 : c = 2
    · rw [if_pos h2] at h; cases h; subst h2; exact ⟨trivial, rfl, rfl⟩
    rw [if_neg h2] at h
    by_cases h3 : c = 3
    · rw [if_pos h3] at h; cases h; subst h3; exact ⟨trivial, rfl, rfl⟩
    rw [if_neg h3] at h
    by_cases h4 : c = 4
    · rw [if_pos h4] at h
      by_cases hl : 8 ≤ r.length
      · rw [if_pos hl] at h; cases h; subst h4
        have hw := wordN_lt8 r
        refine ⟨⟨by omega, by omega⟩, rfl, ?_⟩
        show 4 :: (be8 (biased ((wordN 8 r 0 : Int) - 9223372036854775808)) ++ r.drop 8) = _
        rw [show biased ((wordN 8 r 0 : Int) - 9223372036854775808) = wordN 8 r 0 by unfold biased; omega, be8_wordN r hl]
      · rw [if_neg hl] at h; cases h
    rw [if_neg h4] at h
    by_cases h5 : c = 5
    · rw [if_pos h5] at h
      by_cases hl : 8 ≤ r.length
      · rw [if_pos hl] at h
        by_cases hb : (back (wordN 8 r 0)).2 = true
        · rw [if_pos hb] at h; cases h; subst h5
          obtain ⟨b1, b2, b3⟩ := back_is (wordN_lt8 r) hb
          refine ⟨⟨b1, b2⟩, rfl, ?_⟩
          show 5 :: (be8 (ordr (back (wordN 8 r 0)).1) ++ r.drop 8) = _
          rw [b3, be8_wordN r hl]
        · rw [if_neg hb] at h; cases h
      · rw [if_neg hl] at h; cases h
    rw [if_neg h5] at h
    by_cases h6 : c = 6
    · rw [if_pos h6] at h
      cases e : unesc r with
      | none => rw [e] at h; cases h
      | some q =>
        rw [e, Option.bind_some] at h
        by_cases hq : q.1.length ≤ 40
        · rw [if_pos hq] at h; cases h; subst h6
          obtain ⟨i1, i2⟩ := unesc_is r.length r (Nat.le_refl _) q.1 q.2 e
          refine ⟨hq, by simp [V.enc]; omega, ?_⟩
          show 6 :: ((esc q.1 ++ [0, 1]) ++ r.drop q.2) = _
          rw [List.append_assoc]
          show 6 :: (esc q.1 ++ (0 :: 1 :: r.drop q.2)) = _
          rw [← i2]
        · rw [if_neg hq] at h; cases h
    rw [if_neg h6] at h
    by_cases h7 : c = 7
    · rw [if_pos h7] at h
      cases e : unesc r with
      | none => rw [e] at h; cases h
      | some q =>
        rw [e, Option.bind_some] at h
        by_cases hq : q.1.length ≤ 40
        · rw [if_pos hq] at h; cases h; subst h7
          obtain ⟨i1, i2⟩ := unesc_is r.length r (Nat.le_refl _) q.1 q.2 e
          refine ⟨hq, by simp [V.enc]; omega, ?_⟩
          show 7 :: ((esc q.1 ++ [0, 1]) ++ r.drop q.2) = _
          rw [List.append_assoc]
          show 7 :: (esc q.1 ++ (0 :: 1 :: r.drop q.2)) = _
          rw [← i2]
        · rw [if_neg hq] at h; cases h
    rw [if_neg h7] at h; cases h
end Go.Proofs.Ytifhnkbhjmapeaa.Plain
