/- Values as bytes, in plain lists: which values may be, and the bytes of one that may be. -/
import Derived.Test.YtifhnkbhjmapeaaFlo
namespace Go.Proofs.Ytifhnkbhjmapeaa.Plain

/-- Which values may be. -/
def mayB (k n : Int) (f : Nat) (s : List UInt8) : Bool :=
  if k = 0 then decide (n = 0) && (decide (f = 0) && s.isEmpty)
  else if k = 1 then (decide (n = 0) || decide (n = 1)) && (decide (f = 0) && s.isEmpty)
  else if k = 2 then decide (f = 0) && s.isEmpty
  else if k = 3 then decide (n = 0) && (decide (canon f = f) && s.isEmpty)
  else if k = 4 then decide (n = 0) && (decide (f = 0) && decide (s.length ≤ 40))
  else if k = 5 then decide (n = 0) && (decide (f = 0) && decide (s.length ≤ 40))
  else false
/-- A number in eight bytes, the highest first. -/
def be8 (u : Nat) : List UInt8 :=
  [UInt8.ofNat (u / 72057594037927936 % 256), UInt8.ofNat (u / 281474976710656 % 256), UInt8.ofNat (u / 1099511627776 % 256), UInt8.ofNat (u / 4294967296 % 256), UInt8.ofNat (u / 16777216 % 256), UInt8.ofNat (u / 65536 % 256), UInt8.ofNat (u / 256 % 256), UInt8.ofNat (u % 256)]
/-- A text's bytes: a byte 0 is followed by ff. -/
def esc : List UInt8 → List UInt8
  | [] => []
  | b :: r => if b = 0 then 0 :: 255 :: esc r else b :: esc r
/-- The place of a number among int64. -/
def biased (n : Int) : Nat := (n + 9223372036854775808).toNat
/-- The bytes of a value that may be. -/
def encV (k n : Int) (f : Nat) (s : List UInt8) : List UInt8 :=
  if k = 0 then [1]
  else if k = 1 then (if n = 0 then [2] else [3])
  else if k = 2 then 4 :: be8 (biased n)
  else if k = 3 then 5 :: be8 (ordr f)
  else if k = 4 then 6 :: (esc s ++ [0, 1])
  else 7 :: (esc s ++ [0, 1])
/-- The bytes of any value, or an error's number. -/
def putV (k n : Int) (f : Nat) (s : List UInt8) : List UInt8 × Int := if mayB k n f s = true then (encV k n f s, 0) else ([], 1)
theorem esc_append (a b : List UInt8) : esc (a ++ b) = esc a ++ esc b := by
  induction a with
  | nil => rfl
  | cons x a ih =>
    show esc (x :: (a ++ b)) = _
    simp only [esc]
    split <;> simp [ih]
theorem esc_length (a : List UInt8) : (esc a).length ≤ 2 * a.length := by
  induction a with
  | nil => exact Nat.le_refl _
  | cons x a ih => simp only [esc]; split <;> simp <;> omega
end Go.Proofs.Ytifhnkbhjmapeaa.Plain
