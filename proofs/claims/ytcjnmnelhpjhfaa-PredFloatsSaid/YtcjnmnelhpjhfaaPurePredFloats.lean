/- A NaN is the same as a NaN, and above every other float; both noughts are one: for all floats, by their bits. -/
import Derived.Test.YtcjnmnelhpjhfaaPFx0
import Derived.Test.YtcjnmnelhpjhfaaPFx2
import Derived.Test.YtcjnmnelhpjhfaaPFx7
import Derived.Test.YtcjnmnelhpjhfaaPFx8
import Derived.Test.YtcjnmnelhpjhfaaPFx9
import Derived.Test.YtcjnmnelhpjhfaaLibsPF
namespace Go.Proofs.Ytcjnmnelhpjhfaa.Pure
open Go.RowKit Go.Proofs.Ytcjnmnelhpjhfaa.PA Go.Proofs.YtcjnmnelhpjhfaaW.PrintWords Go.Proofs.YtcjnmnelhpjhfaaW.PrintLast Go.Proofs.Ytcjnmnelhpjhfaa.Plain

/-- A float's value in memory. -/
def fv (x : Nat) : Vc := ⟨3, 0, (x : Int), ⟨#[]⟩⟩
theorem u64_wf {x : Nat} (h : x < 18446744073709551616) : (Lit.int .u64 (x : Int)).wf = true := by
  have h2 : IntKind.u64.min = 0 := by decide
  have h3 : IntKind.u64.max = 18446744073709551615 := by decide
  have : IntKind.u64.min ≤ (x : Int) ∧ (x : Int) ≤ IntKind.u64.max := by rw [h2, h3]; omega
  simpa [Lit.wf] using this
theorem fv_good {x : Nat} (h : x < 18446744073709551616) : (fv x).Good := vals_good _ (u64_wf h)
theorem fv_put {x : Nat} (hc : canon x = x) : (fv x).put = (5 :: be8 (ordr x), 0) := by
  have hm : mayB 3 0 x [] = true := by
    show (decide ((0 : Int) = 0) && (decide (canon x = x) && true)) = true
    rw [decide_eq_true hc]; rfl
  show putV 3 0 ((x : Int).toNat) ([] : List UInt8) = _
  rw [Int.toNat_natCast]
  unfold putV
  rw [if_pos hm]; rfl
theorem fv_may {x : Nat} (hc : canon x = x) : mayV (fv x) = true := by
  show mayB 3 0 ((x : Int).toNat) [] = true
  rw [Int.toNat_natCast]
  show (decide ((0 : Int) = 0) && (decide (canon x = x) && true)) = true
  rw [decide_eq_true hc]; rfl
theorem fv_cmp {x y : Nat} (hx : canon x = x) (hy : canon y = y) : vcmp (fv x) (fv y) = cmpN (ordr x) (ordr y) := by
  rw [vc_cmp (by rw [fv_put hx]) (by rw [fv_put hy]), fv_put hx, fv_put hy]
  show cmpL (5 :: be8 (ordr x)) (5 :: be8 (ordr y)) = _
  unfold cmpL cmpN
  rw [less_same, less_same, be8_order (ordr_lt x) (ordr_lt y), be8_order (ordr_lt y) (ordr_lt x)]
  by_cases h1 : ordr x < ordr y
  · rw [decide_eq_true h1, if_pos rfl, if_pos h1]
  · rw [decide_eq_false h1, if_neg (by decide), if_neg h1]
    by_cases h2 : ordr y < ordr x
    · rw [decide_eq_true h2, if_pos rfl, if_pos h2]
    · rw [decide_eq_false h2, if_neg (by decide), if_neg h2]
def fcols : List Col := [⟨1, ⟨#[97]⟩, 3, 4, 0, ⟨0, 0, 0, ⟨#[]⟩⟩⟩, ⟨2, ⟨#[98]⟩, 3, 4, 0, ⟨0, 0, 0, ⟨#[]⟩⟩⟩]
/-- One condition of a float: what the test tells. -/
theorem test_one (a b : Vc) (nm : ByteArray) (i : Nat) (s : Int) (y : Nat) (hy : canon y = y) (hs : 1 ≤ s ∧ s ≤ 2) (hf : pred_of.find nm fcols = (i : Int)) (hi : (rd_T51 fcols (i : Int)).f2 = 3) (v : Vc) (hv : rd_T40 [a, b] (i : Int) = v) (hk : ¬ v.f0 = 0) :
    testV fcols [a, b] [⟨nm, s, fv y⟩] = ((if s = 1 then (if vcmp v (fv y) = 0 then 1 else 0) else (if vcmp v (fv y) < 0 then 1 else 0)), 0) := by
  have hc : checkC fcols ⟨nm, s, fv y⟩ = 0 := by
    unfold checkC
    dsimp only
    rw [hf, if_neg (by omega), if_neg (by omega), if_neg (by omega), fv_may hy, if_neg (by decide)]
    rw [if_neg (show ¬ (fv y).f0 = 0 from by show ¬ (3 : Int) = 0; decide), hi, if_pos (show (fv y).f0 = 3 from rfl)]
  unfold testV
  rw [checkL_cons, if_pos hc, if_pos (show checkL fcols [] = 0 from rfl), if_pos (by rfl)]
  show (stepC 1 (oneV (rd_T40 [a, b] (pred_of.find nm fcols)) ⟨nm, s, fv y⟩), (0 : Int)) = _
  rw [hf, hv]
  have ho : oneV v ⟨nm, s, fv y⟩ = (if s = 1 then (if vcmp v (fv y) = 0 then 1 else 0) else (if vcmp v (fv y) < 0 then 1 else 0)) := by
    unfold oneV
    dsimp only
    rw [if_neg (by omega), if_neg (by omega), if_neg hk, if_neg (show ¬ (fv y).f0 = 0 from by show ¬ (3 : Int) = 0; decide)]
    by_cases h1 : s = 1
    · rw [if_pos h1, if_pos h1]
    · rw [if_neg h1, if_neg h1, if_pos (by omega)]
  rw [ho]
  by_cases h1 : s = 1
  · rw [if_pos h1]; split <;> rfl
  · rw [if_neg h1]; split <;> rfl
theorem PredFloats : falseworklaw18_PredFloats.Pure := by
  intro a b ha hb
  obtain ⟨f, rfl, hf⟩ := u64_nat ha
  obtain ⟨g, rfl, hg⟩ := u64_nat hb
  refine ⟨200, ?_⟩
  unfold falseworklaw18_PredFloats.f falseworklaw18_cols.f
  rw [ref_canon_is hf, ref_canon_is hg]
  simp only [Option.bind_some]
  have cx := canon_canon f
  have cy := canon_canon g
  have lx := canon_lt hf
  have ly := canon_lt hg
  generalize canon f = x at *
  generalize canon g = y at *
  have cn : canon 9221120237041090560 = 9221120237041090560 := by decide
  have gv : ∀ v ∈ [fv x, fv 9221120237041090560], Vc.Good v := all2 (fv_good lx) (fv_good (by decide))
  have gc : ∀ (nb : UInt8) (s : Int) (z : Nat), (Lit.int .i64 s).wf = true → z < 18446744073709551616 → ∀ c ∈ [(⟨⟨#[nb]⟩, s, fv z⟩ : Cnd)], Cnd.Good c := fun nb s z hs hz => all1 (cnd_good nb s _ hs (fv_good hz))
  have fa : pred_of.find (⟨#[97]⟩ : ByteArray) fcols = ((0 : Nat) : Int) := by decide +kernel
  have fb : pred_of.find (⟨#[98]⟩ : ByteArray) fcols = ((1 : Nat) : Int) := by decide +kernel
  have n3 : ∀ z : Nat, ¬ (fv z).f0 = 0 := fun z => by show ¬ (3 : Int) = 0; decide
  have t1 := test_one (fv x) (fv 9221120237041090560) (⟨#[97]⟩ : ByteArray) 0 1 y cy (by decide) fa (by decide +kernel) (fv x) rfl (n3 _)
  have t2 := test_one (fv x) (fv 9221120237041090560) (⟨#[97]⟩ : ByteArray) 0 2 y cy (by decide) fa (by decide +kernel) (fv x) rfl (n3 _)
  have t3 := test_one (fv x) (fv 9221120237041090560) (⟨#[98]⟩ : ByteArray) 1 1 9221120237041090560 cn (by decide) fb (by decide +kernel) (fv 9221120237041090560) rfl (n3 _)
  have t4 := test_one (fv x) (fv 9221120237041090560) (⟨#[97]⟩ : ByteArray) 0 2 9221120237041090560 cn (by decide) fa (by decide +kernel) (fv x) rfl (n3 _)
  have p1 := test_is fcols _ gv [⟨⟨#[97]⟩, 1, fv y⟩] (gc 97 1 y (by decide) ly) (by show 1 ≤ maxLen; unfold maxLen; omega) 200 (by show 2 * 1 + 60 ≤ 200; omega)
  have p2 := test_is fcols _ gv [⟨⟨#[97]⟩, 2, fv y⟩] (gc 97 2 y (by decide) ly) (by show 1 ≤ maxLen; unfold maxLen; omega) 200 (by show 2 * 1 + 60 ≤ 200; omega)
  have p3 := test_is fcols _ gv [⟨⟨#[98]⟩, 1, fv 9221120237041090560⟩] (gc 98 1 9221120237041090560 (by decide) (by decide)) (by show 1 ≤ maxLen; unfold maxLen; omega) 200 (by show 2 * 1 + 60 ≤ 200; omega)
  have p4 := test_is fcols _ gv [⟨⟨#[97]⟩, 2, fv 9221120237041090560⟩] (gc 97 2 9221120237041090560 (by decide) (by decide)) (by show 1 ≤ maxLen; unfold maxLen; omega) 200 (by show 2 * 1 + 60 ≤ 200; omega)
  rw [t1, fv_cmp cx cy] at p1
  rw [t2, fv_cmp cx cy] at p2
  rw [t3, fv_cmp cn cn] at p3
  rw [t4, fv_cmp cx cn] at p4
  rw [if_pos rfl] at p1 p3
  rw [if_neg (by decide)] at p2 p4
  show (pred_Test.f 200 fcols [fv x, fv 9221120237041090560] [⟨⟨#[97]⟩, 1, fv y⟩]).bind _ = _
  rw [p1, Option.bind_some]
  show (pred_Test.f 200 fcols [fv x, fv 9221120237041090560] [⟨⟨#[97]⟩, 2, fv y⟩]).bind _ = _
  rw [p2, Option.bind_some]
  show (pred_Test.f 200 fcols [fv x, fv 9221120237041090560] [⟨⟨#[98]⟩, 1, fv 9221120237041090560⟩]).bind _ = _
  rw [p3, Option.bind_some]
  show (pred_Test.f 200 fcols [fv x, fv 9221120237041090560] [⟨⟨#[97]⟩, 2, fv 9221120237041090560⟩]).bind _ = _
  rw [p4, Option.bind_some, ref_cmp_is lx ly, Option.bind_some, pred_awake_true 200 (by decide)]
  dsimp only
  have hz : cmpN (ordr x) (ordr y) = 0 ↔ x = y := by
    have hi := ordr_inj lx ly
    rw [cx, cy] at hi
    rw [← hi]
    unfold cmpN
    constructor
    · intro h
      split at h
      · cases h
      · split at h
        · cases h
        · omega
    · intro h
      rw [if_neg (by omega), if_neg (by omega)]
  have hs : cmpN (ordr 9221120237041090560) (ordr 9221120237041090560) = 0 := by decide
  have hn : cmpN (ordr x) (ordr 9221120237041090560) < 0 ↔ ¬ x = 9221120237041090560 := by
    have hon : ordr 9221120237041090560 = 18444492273895866368 := by decide
    constructor
    · intro h e
      subst e
      revert h
      decide
    · intro hne
      have ho : ordr x < 18444492273895866368 := by
        have hx := cx
        unfold canon at hx
        unfold ordr
        rw [cx]
        by_cases h1 : 9218868437227405312 < x % 9223372036854775808
        · rw [if_pos h1] at hx; exact absurd hx.symm hne
        · split <;> omega
      rw [hon]
      unfold cmpN
      rw [if_pos ho]
      decide
  rw [hs]
  generalize cmpN (ordr x) (ordr y) = q at hz ⊢
  generalize cmpN (ordr x) (ordr 9221120237041090560) = p at hn ⊢
  have b1 : (((if q = 0 then (1 : Int) else 0) == 1) == ((x : Int) == (y : Int))) = true := beq_of (by
    rw [beq_iff_eq, beq_iff_eq]
    by_cases h : q = 0
    · rw [if_pos h]; have := hz.1 h; omega
    · rw [if_neg h]; have := fun e => h (hz.2 e); constructor
      · intro e; cases e
      · intro e; exact absurd (by omega) this)
  have b2 : (((if q < 0 then (1 : Int) else 0) == 1) == decide (q < 0)) = true := beq_of (by
    rw [beq_iff_eq, decide_eq_true_eq]
    by_cases h : q < 0
    · rw [if_pos h]; simp [h]
    · rw [if_neg h]; simp [h])
  have b4 : (((if p < 0 then (1 : Int) else 0) == 1) == ((x : Int) != 9221120237041090560)) = true := beq_of (by
    rw [beq_iff_eq, bne_iff_ne]
    by_cases h : p < 0
    · rw [if_pos h]; have := hn.1 h; constructor
      · intro _ e; omega
      · intro _; rfl
    · rw [if_neg h]; have := fun e => h (hn.2 e); constructor
      · intro e; cases e
      · intro e; exact absurd (by omega) this)
  rw [if_pos b1, if_pos b2, if_pos (by rfl), if_pos b4]; rfl
end Go.Proofs.Ytcjnmnelhpjhfaa.Pure
