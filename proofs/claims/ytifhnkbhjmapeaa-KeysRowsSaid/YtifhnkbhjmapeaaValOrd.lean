/- The order of bytes: texts that end by themselves; values' bytes are in the order of values. -/
import Derived.Test.YtifhnkbhjmapeaaVal
import Derived.Laws.Strings
namespace Go.Proofs.Ytifhnkbhjmapeaa.Plain

/-- Below, byte by byte. -/
abbrev less (a b : List UInt8) : Bool := Op.bytesLess a b
theorem u8_irrefl (a : UInt8) : ¬ a < a := UInt8.lt_irrefl a
theorem u8_tri {a b : UInt8} (h : ¬ a < b) (h2 : ¬ a = b) : b < a := by
  rw [UInt8.lt_iff_toNat_lt] at *
  have : ¬ a.toNat = b.toNat := fun e => h2 (UInt8.toNat_inj.1 e)
  omega
theorem u8_asym {a b : UInt8} (h : a < b) : ¬ b < a := by rw [UInt8.lt_iff_toNat_lt] at *; omega
theorem less_nil (a : List UInt8) : less a [] = false := by cases a <;> rfl
theorem less_cons (a b : UInt8) (x y : List UInt8) : less (a :: x) (b :: y) = (decide (a < b) || (a == b && less x y)) := rfl
theorem less_same (a : UInt8) (x y : List UInt8) : less (a :: x) (a :: y) = less x y := by rw [less_cons]; simp
theorem less_unlike {a b : UInt8} (h : ¬ a = b) (x y : List UInt8) : less (a :: x) (b :: y) = decide (a < b) := by rw [less_cons]; simp [h]
theorem less_self (a : List UInt8) : less a a = false := by
  induction a with
  | nil => rfl
  | cons x a ih => rw [less_same, ih]
theorem less_app (p a b : List UInt8) : less (p ++ a) (p ++ b) = less a b := by
  induction p with
  | nil => rfl
  | cons x p ih => simp only [List.cons_append]; rw [less_same, ih]
theorem less_total : ∀ (a b : List UInt8), a ≠ b → less a b = !less b a
  | [], [], h => absurd rfl h
  | [], _ :: _, _ => rfl
  | _ :: _, [], _ => rfl
  | a :: x, b :: y, h => by
    by_cases hab : a = b
    · subst hab
      rw [less_same, less_same]
      exact less_total x y (fun e => h (by rw [e]))
    · rw [less_unlike hab, less_unlike (fun e => hab e.symm)]
      by_cases h1 : a < b
      · rw [decide_eq_true h1, decide_eq_false (u8_asym h1)]; rfl
      · rw [decide_eq_false h1, decide_eq_true (u8_tri h1 hab)]; rfl
theorem less_prefix (p r : List UInt8) (h : r ≠ []) : less p (p ++ r) = true := by
  have := less_app p [] r
  rw [List.append_nil] at this
  rw [this]
  cases r with
  | nil => exact absurd rfl h
  | cons _ _ => rfl
/-- Two texts that end by themselves: what stands behind them counts only where they are the same. -/
def SD (p q : List UInt8) : Prop := ∀ x y, less (p ++ x) (q ++ y) = if p = q then less x y else less p q
theorem SD.cons {p q : List UInt8} (h : SD p q) (c : UInt8) : SD (c :: p) (c :: q) := by
  intro x y
  simp only [List.cons_append]
  rw [less_same, h x y, less_same]
  by_cases e : p = q
  · rw [if_pos e, if_pos (by rw [e])]
  · rw [if_neg e, if_neg (by simpa using e)]
theorem SD.heads {c d : UInt8} (h : ¬ c = d) (p q : List UInt8) : SD (c :: p) (d :: q) := by
  intro x y
  simp only [List.cons_append]
  rw [less_unlike h, less_unlike h, if_neg (by simp [h])]
theorem SD.same_length : ∀ {p q : List UInt8}, p.length = q.length → SD p q
  | [], [], _ => fun x y => by simp
  | a :: p, b :: q, h => by
    by_cases e : a = b
    · subst e; exact (SD.same_length (by simpa using h)).cons a
    · exact SD.heads e p q
/-- .. and neither begins the other one, unless they are the same. -/
theorem SD.begins {p q : List UInt8} (h : SD p q) (x : List UInt8) (e : p ++ x = q) : p = q := by
  by_cases hp : p = q
  · exact hp
  · have h1 := h x []
    rw [e, List.append_nil, less_self, if_neg hp] at h1
    by_cases hx : x = []
    · subst hx; rw [List.append_nil] at e; exact e
    · rw [← e, less_prefix p x hx] at h1; cases h1
theorem esc_zero (r : List UInt8) : esc (0 :: r) = 0 :: 255 :: esc r := rfl
theorem esc_other {b : UInt8} (h : ¬ b = 0) (r : List UInt8) : esc (b :: r) = b :: esc r := by simp only [esc]; rw [if_neg h]
theorem zero_below {b : UInt8} (h : ¬ b = 0) : (0 : UInt8) < b := by
  rw [UInt8.lt_iff_toNat_lt]
  have : ¬ b.toNat = 0 := fun e => h (UInt8.toNat_inj.1 (by simpa using e))
  have h0 : (0 : UInt8).toNat = 0 := rfl
  omega
theorem esc_order : ∀ (s t x y : List UInt8), less (esc s ++ (0 :: 1 :: x)) (esc t ++ (0 :: 1 :: y)) = if s = t then less x y else less s t
  | [], [], x, y => by
    rw [if_pos rfl]
    show less (0 :: 1 :: x) (0 :: 1 :: y) = _
    rw [less_same, less_same]
  | [], b :: t, x, y => by
    have e : (if ([] : List UInt8) = b :: t then less x y else less [] (b :: t)) = true := by rw [if_neg (by simp)]; rfl
    rw [e]
    by_cases hb : b = 0
    · subst hb; rfl
    · rw [esc_other hb]
      show less (0 :: 1 :: x) (b :: (esc t ++ 0 :: 1 :: y)) = true
      rw [less_unlike (fun e => hb e.symm), decide_eq_true (zero_below hb)]
  | a :: s, [], x, y => by
    have e : (if a :: s = ([] : List UInt8) then less x y else less (a :: s) []) = false := by rw [if_neg (by simp)]; rfl
    rw [e]
    by_cases ha : a = 0
    · subst ha; rfl
    · rw [esc_other ha]
      show less (a :: (esc s ++ 0 :: 1 :: x)) (0 :: 1 :: y) = false
      rw [less_unlike ha, decide_eq_false (u8_asym (zero_below ha))]
  | a :: s, b :: t, x, y => by
    have ih := esc_order s t x y
    by_cases hab : a = b
    · subst hab
      have e : (if a :: s = a :: t then less x y else less (a :: s) (a :: t)) = if s = t then less x y else less s t := by
        rw [less_same]; by_cases h : s = t <;> simp [h]
      rw [e]
      by_cases ha : a = 0
      · subst ha
        rw [esc_zero, esc_zero]
        show less (0 :: 255 :: (esc s ++ 0 :: 1 :: x)) (0 :: 255 :: (esc t ++ 0 :: 1 :: y)) = _
        rw [less_same, less_same, ih]
      · rw [esc_other ha, esc_other ha]
        show less (a :: (esc s ++ 0 :: 1 :: x)) (a :: (esc t ++ 0 :: 1 :: y)) = _
        rw [less_same, ih]
    · have e : (if a :: s = b :: t then less x y else less (a :: s) (b :: t)) = decide (a < b) := by rw [if_neg (by simp [hab]), less_unlike hab]
      rw [e]
      by_cases ha : a = 0
      · subst ha
        have hb : ¬ b = 0 := fun h => hab h.symm
        rw [esc_zero, esc_other hb]
        show less (0 :: 255 :: (esc s ++ 0 :: 1 :: x)) (b :: (esc t ++ 0 :: 1 :: y)) = _
        rw [less_unlike hab]
      · rw [esc_other ha]
        by_cases hb : b = 0
        · subst hb
          rw [esc_zero]
          show less (a :: (esc s ++ 0 :: 1 :: x)) (0 :: 255 :: (esc t ++ 0 :: 1 :: y)) = _
          rw [less_unlike hab]
        · rw [esc_other hb]
          show less (a :: (esc s ++ 0 :: 1 :: x)) (b :: (esc t ++ 0 :: 1 :: y)) = _
          rw [less_unlike hab]
theorem esc_inj : ∀ {s t : List UInt8}, esc s ++ [0, 1] = esc t ++ [0, 1] → s = t := by
  intro s t h
  by_cases e : s = t
  · exact e
  · have h1 := esc_order s t [] []
    have h2 := esc_order t s [] []
    rw [if_neg e] at h1
    rw [if_neg (fun h => e h.symm)] at h2
    rw [h, less_self] at h1
    rw [h, less_self] at h2
    have h3 := less_total s t e
    rw [← h1, ← h2] at h3
    cases h3
theorem SD.esc (s t : List UInt8) : SD (esc s ++ [0, 1]) (esc t ++ [0, 1]) := by
  intro x y
  have h1 := esc_order s t x y
  have h2 := esc_order s t [] []
  simp only [List.append_assoc, List.cons_append, List.nil_append]
  rw [h1]
  by_cases e : s = t
  · rw [if_pos e, if_pos (by rw [e])]
  · rw [if_neg e, if_neg (fun h => e (esc_inj h)), h2, if_neg e]
/-- Digits by 256, the highest first. -/
def beN : Nat → Nat → List UInt8
  | 0, _ => []
  | n + 1, u => UInt8.ofNat (u / 256 ^ n % 256) :: beN n u
theorem be8_is (u : Nat) : be8 u = beN 8 u := by
  unfold be8
  simp only [beN]
  simp
theorem u8_ofNat_lt {a b : Nat} (ha : a < 256) (hb : b < 256) : UInt8.ofNat a < UInt8.ofNat b ↔ a < b := by
  rw [UInt8.lt_iff_toNat_lt, UInt8.toNat_ofNat', UInt8.toNat_ofNat']
  omega
theorem u8_ofNat_eq {a b : Nat} (ha : a < 256) (hb : b < 256) : UInt8.ofNat a = UInt8.ofNat b ↔ a = b := by
  rw [← UInt8.toNat_inj, UInt8.toNat_ofNat', UInt8.toNat_ofNat']
  omega
theorem beN_length (n u : Nat) : (beN n u).length = n := by
  induction n with
  | zero => rfl
  | succ n ih => simp only [beN, List.length_cons, ih]
theorem beN_order (n u v : Nat) : (less (beN n u) (beN n v) = true ↔ u % 256 ^ n < v % 256 ^ n) ∧ (beN n u = beN n v ↔ u % 256 ^ n = v % 256 ^ n) := by
  induction n with
  | zero => simp [beN, Nat.mod_one]; rfl
  | succ n ih =>
    obtain ⟨ih1, ih2⟩ := ih
    have hu := Nat.mod_pow_succ (x := u) (b := 256) (k := n)
    have hv := Nat.mod_pow_succ (x := v) (b := 256) (k := n)
    have du : u / 256 ^ n % 256 < 256 := Nat.mod_lt _ (by decide)
    have dv : v / 256 ^ n % 256 < 256 := Nat.mod_lt _ (by decide)
    have hp : 0 < 256 ^ n := Nat.pow_pos (by decide)
    have ru : u % 256 ^ n < 256 ^ n := Nat.mod_lt _ hp
    have rv : v % 256 ^ n < 256 ^ n := Nat.mod_lt _ hp
    simp only [beN]
    rw [hu, hv]
    generalize u / 256 ^ n % 256 = a at *
    generalize v / 256 ^ n % 256 = b at *
    generalize u % 256 ^ n = x at *
    generalize v % 256 ^ n = y at *
    generalize 256 ^ n = p at *
    rcases Nat.lt_trichotomy a b with h | h | h
    · have hne : ¬ UInt8.ofNat a = UInt8.ofNat b := fun e => by have := (u8_ofNat_eq du dv).1 e; omega
      have hm : p * (a + 1) ≤ p * b := Nat.mul_le_mul_left p h
      rw [Nat.mul_add, Nat.mul_one] at hm
      rw [less_unlike hne]
      constructor
      · simp only [decide_eq_true_eq]; rw [u8_ofNat_lt du dv]; omega
      · constructor
        · intro e; exact absurd (List.cons.inj e).1 hne
        · intro e; omega
    · subst h
      rw [less_same]
      constructor
      · rw [ih1]; omega
      · constructor
        · intro e; have := ih2.1 (List.cons.inj e).2; omega
        · intro e; rw [ih2.2 (by omega)]
    · have hne : ¬ UInt8.ofNat a = UInt8.ofNat b := fun e => by have := (u8_ofNat_eq du dv).1 e; omega
      have hm : p * (b + 1) ≤ p * a := Nat.mul_le_mul_left p h
      rw [Nat.mul_add, Nat.mul_one] at hm
      rw [less_unlike hne]
      constructor
      · simp only [decide_eq_true_eq]; rw [u8_ofNat_lt du dv]; omega
      · constructor
        · intro e; exact absurd (List.cons.inj e).1 hne
        · intro e; omega
theorem be8_order {u v : Nat} (hu : u < 18446744073709551616) (hv : v < 18446744073709551616) : less (be8 u) (be8 v) = decide (u < v) := by
  have h := (beN_order 8 u v).1
  rw [Nat.mod_eq_of_lt (show u < 256 ^ 8 from hu), Nat.mod_eq_of_lt (show v < 256 ^ 8 from hv)] at h
  rw [be8_is, be8_is]
  by_cases e : u < v
  · rw [decide_eq_true e]; exact h.2 e
  · rw [decide_eq_false e]
    exact Bool.not_eq_true _ ▸ (fun hh => e (h.1 hh))
theorem be8_inj {u v : Nat} (hu : u < 18446744073709551616) (hv : v < 18446744073709551616) : be8 u = be8 v ↔ u = v := by
  have h := (beN_order 8 u v).2
  rw [Nat.mod_eq_of_lt (show u < 256 ^ 8 from hu), Nat.mod_eq_of_lt (show v < 256 ^ 8 from hv)] at h
  rw [be8_is, be8_is]; exact h
theorem be8_length (u : Nat) : (be8 u).length = 8 := rfl
end Go.Proofs.Ytifhnkbhjmapeaa.Plain
