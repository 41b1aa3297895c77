/- Values that may be, as a plain kind of their own: their bytes end by themselves, tell the value, and are in the order of values. -/
import Derived.Test.YtifhnkbhjmapeaaValOrd
namespace Go.Proofs.Ytifhnkbhjmapeaa.Plain

inductive V where
  | null
  | bool (b : Bool)
  | int (n : Int)
  | flo (f : Nat)
  | raw (s : List UInt8)
  | text (s : List UInt8)
def V.Ok : V → Prop
  | .null => True
  | .bool _ => True
  | .int n => -9223372036854775808 ≤ n ∧ n ≤ 9223372036854775807
  | .flo f => f < 18446744073709551616 ∧ canon f = f
  | .raw s => s.length ≤ 40
  | .text s => s.length ≤ 40
def V.k : V → Int
  | .null => 0
  | .bool _ => 1
  | .int _ => 2
  | .flo _ => 3
  | .raw _ => 4
  | .text _ => 5
def V.n : V → Int
  | .bool b => if b then 1 else 0
  | .int n => n
  | _ => 0
def V.f : V → Nat
  | .flo f => f
  | _ => 0
def V.s : V → List UInt8
  | .raw s => s
  | .text s => s
  | _ => []
def V.enc : V → List UInt8
  | .null => [1]
  | .bool b => if b then [3] else [2]
  | .int n => 4 :: be8 (biased n)
  | .flo f => 5 :: be8 (ordr f)
  | .raw s => 6 :: (esc s ++ [0, 1])
  | .text s => 7 :: (esc s ++ [0, 1])
theorem V.enc_is (v : V) : encV v.k v.n v.f v.s = v.enc := by
  cases v with
  | bool b => cases b <;> rfl
  | _ => rfl
/-- A value that may be is one of these. -/
theorem view {k n : Int} {f : Nat} {s : List UInt8} (h : mayB k n f s = true) (hn : -9223372036854775808 ≤ n ∧ n ≤ 9223372036854775807) (hf : f < 18446744073709551616) :
    ∃ v : V, v.Ok ∧ k = v.k ∧ n = v.n ∧ f = v.f ∧ s = v.s := by
  unfold mayB at h
  by_cases h0 : k = 0
  · rw [if_pos h0] at h; simp at h; exact ⟨.null, trivial, h0, h.1, h.2.1, h.2.2⟩
  rw [if_neg h0] at h
  by_cases h1 : k = 1
  · rw [if_pos h1] at h; simp at h
    rcases h.1 with hz | hz
    · exact ⟨.bool false, trivial, h1, hz, h.2.1, h.2.2⟩
    · exact ⟨.bool true, trivial, h1, hz, h.2.1, h.2.2⟩
  rw [if_neg h1] at h
  by_cases h2 : k = 2
  · rw [if_pos h2] at h; simp at h; exact ⟨.int n, hn, h2, rfl, h.1, h.2⟩
  rw [if_neg h2] at h
  by_cases h3 : k = 3
  · rw [if_pos h3] at h; simp at h; exact ⟨.flo f, ⟨hf, h.2.1⟩, h3, h.1, rfl, h.2.2⟩
  rw [if_neg h3] at h
  by_cases h4 : k = 4
  · rw [if_pos h4] at h; simp at h; exact ⟨.raw s, h.2.2, h4, h.1, h.2.1, rfl⟩
  rw [if_neg h4] at h
  by_cases h5 : k = 5
  · rw [if_pos h5] at h; simp at h; exact ⟨.text s, h.2.2, h5, h.1, h.2.1, rfl⟩
  rw [if_neg h5] at h; cases h
theorem V.may (v : V) (h : v.Ok) : mayB v.k v.n v.f v.s = true := by
  cases v with
  | null => rfl
  | bool b => cases b <;> rfl
  | int n => rfl
  | flo f => show (decide ((0 : Int) = 0) && (decide (canon f = f) && true)) = true; rw [decide_eq_true h.2]; rfl
  | raw s => show (decide ((0 : Int) = 0) && (decide ((0 : Nat) = 0) && decide (s.length ≤ 40))) = true; rw [decide_eq_true (show s.length ≤ 40 from h)]; rfl
  | text s => show (decide ((0 : Int) = 0) && (decide ((0 : Nat) = 0) && decide (s.length ≤ 40))) = true; rw [decide_eq_true (show s.length ≤ 40 from h)]; rfl
theorem V.fields_inj {a b : V} (h1 : a.k = b.k) (h2 : a.n = b.n) (h3 : a.f = b.f) (h4 : a.s = b.s) : a = b := by
  cases a <;> cases b <;> first | rfl | (simp [V.k] at h1; done) | skip
  · rename_i x y; cases x <;> cases y <;> first | rfl | (simp [V.n] at h2; done)
  · exact congrArg V.int h2
  · exact congrArg V.flo h3
  · exact congrArg V.raw h4
  · exact congrArg V.text h4
theorem V.sd (a b : V) : SD a.enc b.enc := by
  rcases a with _ | (_ | _) | n | f | s | s <;> rcases b with _ | (_ | _) | m | g | t | t <;> first
    | (exact SD.heads (by decide) _ _)
    | (exact SD.cons (SD.esc _ _) _)
    | (exact SD.same_length rfl)
theorem ordr_lt64 (f : Nat) : ordr f < 18446744073709551616 := ordr_lt f
theorem biased_lt {n : Int} (h : -9223372036854775808 ≤ n ∧ n ≤ 9223372036854775807) : biased n < 18446744073709551616 := by unfold biased; omega
theorem V.enc_inj {a b : V} (ha : a.Ok) (hb : b.Ok) (h : a.enc = b.enc) : a = b := by
  rcases a with _ | (_ | _) | n | f | s | s <;> rcases b with _ | (_ | _) | m | g | t | t <;> first
    | rfl
    | (exact absurd (List.cons.inj h).1 (by decide))
    | skip
  · have h1 := (be8_inj (biased_lt ha) (biased_lt hb)).1 (List.cons.inj h).2
    have a1 := ha.1
    have b1 := hb.1
    unfold biased at h1
    exact congrArg V.int (by omega)
  · have h1 := (be8_inj (ordr_lt f) (ordr_lt g)).1 (List.cons.inj h).2
    have h2 := (ordr_inj ha.1 hb.1).1 h1
    rw [ha.2, hb.2] at h2
    exact congrArg V.flo h2
  · exact congrArg V.raw (esc_inj (List.cons.inj h).2)
  · exact congrArg V.text (esc_inj (List.cons.inj h).2)
theorem V.enc_eq {a b : V} (ha : a.Ok) (hb : b.Ok) : a.enc = b.enc ↔ a = b := ⟨V.enc_inj ha hb, fun h => by rw [h]⟩
theorem V.enc_ne (v : V) : v.enc ≠ [] := by cases v <;> first | (simp [V.enc]; done) | (rename_i b; cases b <;> simp [V.enc])
theorem V.enc_length (v : V) (h : v.Ok) : v.enc.length ≤ 83 := by
  cases v with
  | null => decide
  | bool b => cases b <;> decide
  | int n => simp [V.enc, be8_length]
  | flo f => simp [V.enc, be8_length]
  | raw s => have := esc_length s; have h : s.length ≤ 40 := h; simp [V.enc]; omega
  | text s => have := esc_length s; have h : s.length ≤ 40 := h; simp [V.enc]; omega
/-- Behind values' bytes: the order of two of them with whatever stands behind. -/
theorem V.less_app (a b : V) (x y : List UInt8) : less (a.enc ++ x) (b.enc ++ y) = if a.enc = b.enc then less x y else less a.enc b.enc := V.sd a b x y
/-- -1, 0, 1: as a text is below, the same as, above another one. -/
def cmpL (a b : List UInt8) : Int := if less a b = true then -1 else if less b a = true then 1 else 0
theorem cmpL_self (a : List UInt8) : cmpL a a = 0 := by unfold cmpL; rw [less_self]; rfl
theorem cmpL_zero {a b : List UInt8} : cmpL a b = 0 ↔ a = b := by
  constructor
  · intro h
    by_cases e : a = b
    · exact e
    · have := less_total a b e
      unfold cmpL at h
      cases h1 : less a b <;> cases h2 : less b a <;> simp_all
  · intro h; rw [h, cmpL_self]
theorem cmpL_neg {a b : List UInt8} : cmpL a b < 0 ↔ less a b = true := by
  unfold cmpL
  by_cases h : less a b = true
  · rw [if_pos h]; simp [h]
  · rw [if_neg h]
    constructor
    · intro h2; split at h2 <;> omega
    · intro h2; exact absurd h2 h
theorem cmpL_turn (a b : List UInt8) : cmpL b a = -cmpL a b := by
  by_cases e : a = b
  · rw [e, cmpL_self]; rfl
  · have := less_total a b e
    unfold cmpL
    cases h1 : less a b <;> cases h2 : less b a <;> simp_all
end Go.Proofs.Ytifhnkbhjmapeaa.Plain
