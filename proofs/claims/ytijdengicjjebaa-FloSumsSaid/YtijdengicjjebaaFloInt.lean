/- The float of a number, the number of a float. -/
import Derived.Test.YtijdengicjjebaaPAx1
import Derived.Test.YtijdengicjjebaaFloFns
import Derived.Test.YtijdengicjjebaaFloN
import Derived.Test.YtijdengicjjebaaFloSum
namespace Go.Proofs.Ytijdengicjjebaa.PA
open Go.RowKit Go.Proofs.YtijdengicjjebaaW.PrintWords Go.Proofs.YtijdengicjjebaaW.PrintLast Go.Proofs.Ytijdengicjjebaa.Plain
set_option exponentiation.threshold 4000

theorem wordOf_mod (s : Bool) (r : Nat) (h : r < 9223372036854775808) : wordOf s r % 9223372036854775808 = r := by
  unfold wordOf; split <;> omega
theorem wordOf_sg (s : Bool) (r : Nat) (h : r < 9223372036854775808) : sg (wordOf s r) = s := by
  rw [sg_is _ (wordOf_lt s r h)]; unfold wordOf
  cases s
  · rw [if_neg (by decide)]; exact decide_eq_false (by omega)
  · rw [if_pos rfl]; exact decide_eq_true (by omega)
theorem sv_wordOf (s : Bool) (r : Nat) (h : r < 9223372036854775808) : sv (wordOf s r) = if s then -(un r : Int) else (un r : Int) := by
  unfold sv; rw [wordOf_sg s r h, wordOf_mod s r h]
theorem cut_zero (s : Bool) (n d : Nat) : Ieee.Toward.zero.cut s n d = n / 2 ^ d := by
  unfold Ieee.Toward.cut
  dsimp only
  rw [Nat.shiftLeft_eq, Nat.one_mul]
  show n / 2 ^ min d (n.log2 + 2) + 0 = _
  rw [Nat.add_zero]
  by_cases h : d ≤ n.log2 + 2
  · rw [Nat.min_eq_left h]
  · rw [Nat.min_eq_right (by omega)]
    have h1 : n < 2 ^ (n.log2 + 2) := by
      by_cases h0 : n = 0
      · rw [h0]; exact Nat.two_pow_pos _
      · exact Nat.lt_trans ((Nat.log2_eq_iff h0).1 rfl).2 (Nat.pow_lt_pow_right (by decide) (by omega))
    have h2 : n < 2 ^ d := Nat.lt_of_lt_of_le h1 (Nat.pow_le_pow_right (by decide) (by omega))
    rw [Nat.div_eq_of_lt h1, Nat.div_eq_of_lt h2]
theorem integral_zero (s : Bool) (m p : Nat) : Ieee.Datum.integral .zero (.number s m ((p : Int) - 1074)) = .number s (m * 2 ^ p / 2 ^ 1074) 0 := by
  simp only [Ieee.Datum.integral]
  rw [cut_zero, Nat.shiftLeft_eq]
  by_cases h : 1074 ≤ p
  · rw [show ((p : Int) - 1074).toNat = p - 1074 by omega, show (-((p : Int) - 1074)).toNat = 0 by omega, Nat.pow_zero, Nat.div_one]
    rw [show m * 2 ^ p = m * 2 ^ (p - 1074) * 2 ^ 1074 by rw [Nat.mul_assoc, ← Nat.pow_add]; congr 2; omega]
    rw [Nat.mul_div_cancel _ (Nat.two_pow_pos 1074)]
  · rw [show ((p : Int) - 1074).toNat = 0 by omega, show (-((p : Int) - 1074)).toNat = 1074 - p by omega, Nat.pow_zero, Nat.mul_one]
    have : (2 : Nat) ^ 1074 = 2 ^ (1074 - p) * 2 ^ p := by rw [← Nat.pow_add]; congr 1; omega
    rw [this, Nat.mul_div_mul_right _ _ (Nat.two_pow_pos p)]
/-- The float of a number. -/
def ofW (n : Int) : Nat := wordOf (decide (n < 0)) (min (near (n.natAbs * 2 ^ 1074)) 9218868437227405312)
theorem flo_of_is (n : Int) : flo_Of.f n = some ((ofW n : Nat) : Int) := by
  unfold flo_Of.f
  have : floatOfInt .f64 n = ofW n := by
    show Ieee.double.nearest (decide (n < 0)) n.natAbs 0 = ofW n
    rw [nearest_is _ _ _ (by decide)]
    rfl
  rw [this]
theorem ofW_lt (n : Int) : ofW n < 18446744073709551616 := wordOf_lt _ _ (by omega)
/-- What is a whole number's float is finite, if the number has no more than 53 digits; and is that number. -/
theorem ofW_fin (n : Int) (h : n.natAbs < 9007199254740992) : ofW n % 9223372036854775808 < 9218868437227405312 ∧ sv (ofW n) = n * ((2 ^ 1074 : Nat) : Int) := by
  have h1 := near_lt _ h
  unfold ofW
  rw [Nat.min_eq_left (by omega), wordOf_mod _ _ (by omega), sv_wordOf _ _ (by omega), un_near _ _ h]
  refine ⟨h1, ?_⟩
  by_cases hn : n < 0
  · rw [decide_eq_true hn, if_pos rfl, Int.natCast_mul, ← Int.neg_mul]
    congr 1; omega
  · rw [decide_eq_false hn, if_neg (by decide), Int.natCast_mul]
    congr 1; omega
theorem un_big (r : Nat) : un r < 2 ^ 53 * 2 ^ 1074 ∨ un r % 2 ^ 1074 = 0 := by
  unfold un
  have hp : (0 : Nat) < 2 ^ 1074 := Nat.two_pow_pos _
  by_cases h : r < 4503599627370496
  · left; rw [if_pos h]
    have : 2 ^ 53 * 1 ≤ 2 ^ 53 * 2 ^ 1074 := Nat.mul_le_mul_left _ hp
    have h3 : (2 : Nat) ^ 53 = 9007199254740992 := by decide
    omega
  · rw [if_neg h]
    by_cases h2 : r / 4503599627370496 - 1 < 1074
    · left
      refine Nat.lt_of_lt_of_le ((Nat.mul_lt_mul_right (Nat.two_pow_pos _)).2 (show 4503599627370496 + r % 4503599627370496 < 2 ^ 53 by omega)) ?_
      exact Nat.mul_le_mul_left _ (Nat.pow_le_pow_right (by decide) (by omega))
    · right
      obtain ⟨z, hz⟩ : ∃ z, r / 4503599627370496 - 1 = z + 1074 := ⟨r / 4503599627370496 - 1 - 1074, by omega⟩
      rw [hz, Nat.pow_add, ← Nat.mul_assoc]
      exact Nat.mul_mod_left _ _
theorem un_trunc (r : Nat) : un (near (un r / 2 ^ 1074 * 2 ^ 1074)) = un r / 2 ^ 1074 * 2 ^ 1074 := by
  have hp : (0 : Nat) < 2 ^ 1074 := Nat.two_pow_pos _
  rcases un_big r with h | h
  · refine un_near _ _ ?_
    have := (Nat.div_lt_iff_lt_mul hp).2 h
    exact this
  · have : un r / 2 ^ 1074 * 2 ^ 1074 = un r := Nat.div_mul_cancel (Nat.dvd_of_mod_eq_zero h)
    rw [this, near_un]
theorem near_trunc_lt (r : Nat) (h : r < 9218868437227405312) : near (un r / 2 ^ 1074 * 2 ^ 1074) < 9218868437227405312 := by
  rw [← un_lt_iff, un_trunc]
  exact Nat.lt_of_le_of_lt (Nat.div_mul_le_self _ _) (un_lt_iff.2 h)
theorem trunc_is (x : Nat) (h : x % 9223372036854775808 < 9218868437227405312) :
    truncB x = wordOf (sg x) (near (un (x % 9223372036854775808) / 2 ^ 1074 * 2 ^ 1074)) ∧
    (Ieee.double.read x).toInt .zero = some (if sg x then -((un (x % 9223372036854775808) / 2 ^ 1074 : Nat) : Int) else ((un (x % 9223372036854775808) / 2 ^ 1074 : Nat) : Int)) := by
  obtain ⟨m, p, e1, v1⟩ := read_fin x h
  have e2 : (Ieee.double.read x).integral .zero = .number (sg x) (un (x % 9223372036854775808) / 2 ^ 1074) 0 := by
    rw [e1, integral_zero, v1]
  constructor
  · show Ieee.double.write ((Ieee.double.read x).integral .zero) = _
    rw [e2]
    show Ieee.double.nearest (sg x) _ 0 = _
    rw [nearest_is _ _ _ (by decide)]
    refine congrArg (wordOf (sg x)) ?_
    show min (near (un (x % 9223372036854775808) / 2 ^ 1074 * 2 ^ 1074)) _ = _
    exact Nat.min_eq_left (Nat.le_of_lt (near_trunc_lt _ h))
  · unfold Ieee.Datum.toInt
    rw [e2]
    simp only
    rw [signed_is, Nat.pow_zero, Nat.mul_one]
theorem sv_63 : sv 4890909195324358656 = 9223372036854775808 * ((2 ^ 1074 : Nat) : Int) := by
  unfold sv
  have h : sg 4890909195324358656 = false := by decide
  rw [h, if_neg (by decide), show 4890909195324358656 % 9223372036854775808 = 4890909195324358656 from rfl]
  unfold un
  rw [if_neg (by decide), show 4890909195324358656 % 4503599627370496 = 0 from rfl, show 4890909195324358656 / 4503599627370496 - 1 = 11 + 1074 from rfl, Nat.pow_add, ← Nat.mul_assoc, Int.natCast_mul]
  rfl
theorem sv_n63 : sv 14114281232179134464 = -9223372036854775808 * ((2 ^ 1074 : Nat) : Int) := by
  unfold sv
  have h : sg 14114281232179134464 = true := by decide
  rw [h, if_pos rfl, show 14114281232179134464 % 9223372036854775808 = 4890909195324358656 from rfl]
  unfold un
  rw [if_neg (by decide), show 4890909195324358656 % 4503599627370496 = 0 from rfl, show 4890909195324358656 / 4503599627370496 - 1 = 11 + 1074 from rfl, Nat.pow_add, ← Nat.mul_assoc, Int.natCast_mul, ← Int.neg_mul]
  rfl
theorem cmp_lt_iff (a b : Int) : compare a b = .lt ↔ a < b := by
  show compareOfLessAndEq a b = .lt ↔ _
  unfold compareOfLessAndEq
  by_cases h : a < b
  · rw [if_pos h]; exact ⟨fun _ => h, fun _ => rfl⟩
  · rw [if_neg h]
    constructor
    · intro h2; split at h2 <;> cases h2
    · intro h2; exact absurd h2 h
theorem cmp_gt_iff (a b : Int) : compare a b = .gt ↔ b < a := by
  show compareOfLessAndEq a b = .gt ↔ _
  unfold compareOfLessAndEq
  by_cases h : a < b
  · rw [if_pos h]; exact ⟨fun h2 => (by cases h2), fun h2 => (by omega)⟩
  · rw [if_neg h]
    by_cases h2 : a = b
    · rw [if_pos h2]; exact ⟨fun h3 => (by cases h3), fun h3 => (by omega)⟩
    · rw [if_neg h2]; exact ⟨fun _ => (by omega), fun _ => rfl⟩
theorem beq_some {o : Ordering} {p : Ordering} : (some o == some p) = decide (o = p) := by cases o <;> cases p <;> rfl
theorem bne_some {o : Ordering} {p : Ordering} : (some o != some p) = decide (o ≠ p) := by cases o <;> cases p <;> rfl
/-- A finite float that is a whole number within 64 bits: that number. -/
theorem flo_int_whole {x : Nat} {n : Int} (h : x % 9223372036854775808 < 9218868437227405312) (hv : sv x = n * ((2 ^ 1074 : Nat) : Int)) (h1 : -9223372036854775808 ≤ n) (h2 : n < 9223372036854775808) :
    flo_Int.f (x : Int) = some (n, true) := by
  have hpN : (0 : Nat) < 2 ^ 1074 := Nat.two_pow_pos _
  have hp : (0 : Int) < ((2 ^ 1074 : Nat) : Int) := by omega
  obtain ⟨t1, t2⟩ := trunc_is x h
  have hu : un (x % 9223372036854775808) = n.natAbs * 2 ^ 1074 := by rw [← sv_natAbs, hv, Int.natAbs_mul, Int.natAbs_natCast]
  have hd : un (x % 9223372036854775808) / 2 ^ 1074 = n.natAbs := by rw [hu]; exact Nat.mul_div_cancel _ hpN
  have hs : (if sg x then -(n.natAbs : Int) else (n.natAbs : Int)) = n := by
    have e : (if sg x then -(n.natAbs : Int) else (n.natAbs : Int)) * ((2 ^ 1074 : Nat) : Int) = n * ((2 ^ 1074 : Nat) : Int) := by
      rw [← hv]; unfold sv; rw [hu, Int.natCast_mul]
      split
      · rw [Int.neg_mul]
      · rfl
    exact Int.eq_of_mul_eq_mul_right (by omega) e
  rw [hd] at t1 t2
  rw [hs] at t2
  have t3 : truncB x = wordOf (sg x) (x % 9223372036854775808) := by rw [t1, ← hu, near_un]
  have t4 : sv (truncB x) = sv x := by rw [t3, sv_wordOf _ _ (by omega)]; rfl
  have t5 : truncB x % 9223372036854775808 < 9218868437227405312 := by rw [t3, wordOf_mod _ _ (by omega)]; exact h
  obtain ⟨m, p, e1, _⟩ := read_fin x h
  unfold flo_Int.f
  rw [Int.toNat_natCast]
  rw [if_neg (by show ¬ (Ieee.double.read x).isNaN = true; rw [e1]; simp [Ieee.Datum.isNaN])]
  rw [order_fin x _ h t5, order_fin x _ h (show 14114281232179134464 % 9223372036854775808 < 9218868437227405312 by decide), order_fin x _ h (show 4890909195324358656 % 9223372036854775808 < 9218868437227405312 by decide), t4, sv_63, sv_n63, hv]
  rw [if_neg (by rw [bne_some, cmp_self]; decide)]
  rw [if_neg (by
    rw [beq_some, decide_eq_false]; decide
    rw [cmp_lt_iff]; intro hh
    have := Int.lt_of_mul_lt_mul_right hh (Int.le_of_lt hp); omega)]
  rw [if_neg (by
    rw [beq_some, beq_some, decide_eq_false, decide_eq_false]; decide
    · rw [cmp_eq_iff]; intro hh
      have := Int.eq_of_mul_eq_mul_right (by omega) hh; omega
    · rw [cmp_gt_iff]; intro hh
      have := Int.lt_of_mul_lt_mul_right hh (Int.le_of_lt hp); omega)]
  have : floatToIntVal .f64 x .i64 = some n := by
    unfold floatToIntVal
    rw [show (FloatKind.f64.decode x).toInt .zero = some n from t2]
    simp only
    rw [if_pos ⟨(by show (-9223372036854775808 : Int) ≤ n; exact h1), (by show n ≤ 9223372036854775807; omega)⟩]
  rw [this]; rfl
/-- Any other word is no whole number. -/
theorem flo_int_else {x : Nat} (hx : x < 18446744073709551616) (h : ¬ (x % 9223372036854775808 < 9218868437227405312 ∧ ∃ n : Int, sv x = n * ((2 ^ 1074 : Nat) : Int) ∧ -9223372036854775808 ≤ n ∧ n < 9223372036854775808)) :
    flo_Int.f (x : Int) = some (0, false) := by
  have hpN : (0 : Nat) < 2 ^ 1074 := Nat.two_pow_pos _
  have hp : (0 : Int) < ((2 ^ 1074 : Nat) : Int) := by omega
  unfold flo_Int.f
  rw [Int.toNat_natCast]
  by_cases hn : 9218868437227405312 < x % 9223372036854775808
  · rw [if_pos (by show (Ieee.double.read x).isNaN = true; rw [Go.Proofs.Ytijdengicjjebaa.Plain.read_nan x hn]; rfl)]
  · by_cases hi : x % 9223372036854775808 = 9218868437227405312
    · have : x = 9218868437227405312 ∨ x = 18442240474082181120 := by omega
      rcases this with rfl | rfl <;> decide +kernel
    · have hf : x % 9223372036854775808 < 9218868437227405312 := by omega
      obtain ⟨m, p, e1, _⟩ := read_fin x hf
      rw [if_neg (by show ¬ (Ieee.double.read x).isNaN = true; rw [e1]; simp [Ieee.Datum.isNaN])]
      obtain ⟨t1, _⟩ := trunc_is x hf
      have hr := near_trunc_lt _ hf
      have t5 : truncB x % 9223372036854775808 < 9218868437227405312 := by rw [t1, wordOf_mod _ _ (by omega)]; exact hr
      rw [order_fin x _ hf t5, order_fin x _ hf (show 14114281232179134464 % 9223372036854775808 < 9218868437227405312 by decide), order_fin x _ hf (show 4890909195324358656 % 9223372036854775808 < 9218868437227405312 by decide), sv_63, sv_n63]
      by_cases c1 : sv x = sv (truncB x)
      · have hv : ∃ n : Int, sv x = n * ((2 ^ 1074 : Nat) : Int) := by
          rw [c1, t1, sv_wordOf _ _ (by omega), un_trunc]
          cases sg x
          · exact ⟨_, by rw [if_neg (by decide), Int.natCast_mul]⟩
          · exact ⟨-((un (x % 9223372036854775808) / 2 ^ 1074 : Nat) : Int), by rw [if_pos rfl, Int.natCast_mul, Int.neg_mul]⟩
        obtain ⟨n, hv⟩ := hv
        rw [← c1, hv]
        rw [if_neg (by rw [bne_some, cmp_self]; decide)]
        by_cases c2 : -9223372036854775808 ≤ n
        · have c3 : 9223372036854775808 ≤ n := by
            rcases Int.lt_or_le n 9223372036854775808 with c4 | c4
            · exact absurd ⟨hf, n, hv, c2, c4⟩ h
            · exact c4
          rw [if_neg (by
            rw [beq_some, decide_eq_false]; decide
            rw [cmp_lt_iff]; intro hh
            have := Int.lt_of_mul_lt_mul_right hh (Int.le_of_lt hp); omega)]
          rw [if_pos]
          rw [beq_some, beq_some]
          by_cases c5 : n = 9223372036854775808
          · rw [c5, cmp_self]; rfl
          · have : compare (n * ((2 ^ 1074 : Nat) : Int)) (9223372036854775808 * ((2 ^ 1074 : Nat) : Int)) = .gt := (cmp_gt_iff _ _).2 (Int.mul_lt_mul_of_pos_right (by omega) hp)
            rw [this]; rfl
        · rw [if_pos]
          have : compare (n * ((2 ^ 1074 : Nat) : Int)) (-9223372036854775808 * ((2 ^ 1074 : Nat) : Int)) = .lt := (cmp_lt_iff _ _).2 (Int.mul_lt_mul_of_pos_right (by omega) hp)
          rw [this]; rfl
      · rw [if_pos]
        rw [bne_some]
        exact decide_eq_true fun hh => c1 ((cmp_eq_iff _ _).1 hh)
/-- The order of finite words is that of their numbers. -/
theorem ordr_fin {x y : Nat} (hx : x < 18446744073709551616) (hy : y < 18446744073709551616) (h1 : x % 9223372036854775808 < 9218868437227405312) (h2 : y % 9223372036854775808 < 9218868437227405312) :
    ordr x < ordr y ↔ sv x < sv y := by
  have hc : ∀ z : Nat, z % 9223372036854775808 < 9218868437227405312 → canon z = if z = 9223372036854775808 then 0 else z := by
    intro z hz; unfold canon; rw [if_neg (by omega)]
  have key : ∀ z : Nat, z < 18446744073709551616 → z % 9223372036854775808 < 9218868437227405312 →
      (∃ r, ordr z = r + 9223372036854775808 ∧ sv z = (un r : Int)) ∨ (∃ r, 0 < r ∧ r < 9223372036854775808 ∧ ordr z = 9223372036854775807 - r ∧ sv z = -(un r : Int)) := by
    intro z hz hf
    unfold ordr sv
    rw [hc z hf, sg_is z hz]
    by_cases e : z = 9223372036854775808
    · left; refine ⟨0, ?_, ?_⟩
      · rw [if_pos e, if_pos (by decide)]
      · subst e; rw [show 9223372036854775808 % 9223372036854775808 = 0 from rfl, un_zero]; rfl
    · rw [if_neg e]
      by_cases h : z < 9223372036854775808
      · left; refine ⟨z, ?_, ?_⟩
        · rw [if_pos h]
        · rw [decide_eq_false (by omega), if_neg (by decide), Nat.mod_eq_of_lt h]
      · right; refine ⟨z - 9223372036854775808, by omega, by omega, ?_, ?_⟩
        · rw [if_neg h]; omega
        · rw [decide_eq_true (by omega), if_pos rfl, show z % 9223372036854775808 = z - 9223372036854775808 by omega]
  rcases key x hx h1 with ⟨r, a1, a2⟩ | ⟨r, r1, r2, a1, a2⟩ <;> rcases key y hy h2 with ⟨q, b1, b2⟩ | ⟨q, q1, q2, b1, b2⟩ <;> rw [a1, a2, b1, b2]
  · have := un_lt_iff (a := r) (b := q); omega
  · omega
  · have := un_mono r1; rw [un_zero] at this; omega
  · have := un_lt_iff (a := q) (b := r); omega
theorem cmp_fin {x y : Nat} (hx : x < 18446744073709551616) (hy : y < 18446744073709551616) (h1 : x % 9223372036854775808 < 9218868437227405312) (h2 : y % 9223372036854775808 < 9218868437227405312) :
    cmpN (ordr x) (ordr y) = if sv x < sv y then -1 else if sv y < sv x then 1 else 0 := by
  have k1 := ordr_fin hx hy h1 h2
  have k2 := ordr_fin hy hx h2 h1
  unfold cmpN
  simp only [k1, k2]
end Go.Proofs.Ytijdengicjjebaa.PA
