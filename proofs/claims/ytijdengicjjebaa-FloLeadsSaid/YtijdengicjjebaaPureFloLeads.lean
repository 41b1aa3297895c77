/- Of three floats the order leads on; turned round it is turned round; the same place has the same form alone: for all words of 64 bits. -/
import Derived.Test.YtijdengicjjebaaPAx9
import Derived.Test.YtijdengicjjebaaFloAwake
namespace Go.Proofs.Ytijdengicjjebaa.Pure
open Go.RowKit Go.Proofs.Ytijdengicjjebaa.PA Go.Proofs.YtijdengicjjebaaW.PrintWords Go.Proofs.YtijdengicjjebaaW.PrintLast Go.Proofs.Ytijdengicjjebaa.Plain

theorem leads_last {x y : Nat} (hx : x < 18446744073709551616) (hy : y < 18446744073709551616) (b : Bool) (hb : b = false) :
    falseworklaw1_FloLeads.j0 1 (x : Int) (y : Int) (cmpN (ordr x) (ordr y)) b = some true := by
  subst hb
  simp only [falseworklaw1_FloLeads.j0]
  rw [if_neg (by decide), flo_cmp_is hy hx, flo_canon_is hx, flo_canon_is hy, flo_awake_true]
  have h1 : cmpN (ordr y) (ordr x) = wrap64 (-cmpN (ordr x) (ordr y)) := by
    unfold cmpN wrap64; split <;> split <;> (try split) <;> omega
  have h2 : ((cmpN (ordr x) (ordr y) == 0) == (((canon x : Nat) : Int) == ((canon y : Nat) : Int))) = true := by
    have h3 : cmpN (ordr x) (ordr y) = 0 ↔ canon x = canon y := by
      rw [← ordr_inj hx hy]
      unfold cmpN; split <;> (try split) <;> omega
    by_cases hc : canon x = canon y
    · rw [h3.2 hc, hc]; simp
    · have h4 : ¬ cmpN (ordr x) (ordr y) = 0 := fun h => hc (h3.1 h)
      have h5 : ¬ ((canon x : Nat) : Int) = ((canon y : Nat) : Int) := by omega
      rw [beq_eq_false_iff_ne.2 h4, beq_eq_false_iff_ne.2 h5]; rfl
  simp only [Option.bind_some]
  rw [if_pos h1, if_pos h2]
theorem FloLeads : falseworklaw1_FloLeads.Pure := by
  intro a b c ha hb hc
  obtain ⟨x, rfl, hx⟩ := u64_nat ha
  obtain ⟨y, rfl, hy⟩ := u64_nat hb
  obtain ⟨z, rfl, hz⟩ := u64_nat hc
  refine ⟨1, ?_⟩
  unfold falseworklaw1_FloLeads.f
  rw [flo_cmp_is hx hy, flo_cmp_is hy hz, flo_cmp_is hx hz]
  simp only [Option.bind_some]
  have e1 : cmpN (ordr x) (ordr y) ≤ 0 → cmpN (ordr y) (ordr z) ≤ 0 → ¬ cmpN (ordr x) (ordr z) > 0 := by
    unfold cmpN; intro h1 h2; split at h1 <;> split at h2 <;> (try split at h1) <;> (try split at h2) <;> split <;> (try split) <;> omega
  have e2 : cmpN (ordr x) (ordr y) ≥ 0 → cmpN (ordr y) (ordr z) ≥ 0 → ¬ cmpN (ordr x) (ordr z) < 0 := by
    unfold cmpN; intro h1 h2; split at h1 <;> split at h2 <;> (try split at h1) <;> (try split at h2) <;> split <;> (try split) <;> omega
  by_cases h1 : cmpN (ordr x) (ordr y) ≤ 0
  · rw [if_pos h1]
    by_cases h2 : cmpN (ordr y) (ordr z) ≤ 0
    · rw [if_pos h2, if_neg (e1 h1 h2)]
      by_cases h3 : cmpN (ordr x) (ordr y) ≥ 0
      · rw [if_pos h3]
        by_cases h4 : cmpN (ordr y) (ordr z) ≥ 0
        · rw [if_pos h4]; exact leads_last hx hy _ (decide_eq_false (e2 h3 h4))
        · rw [if_neg h4]; exact leads_last hx hy _ rfl
      · rw [if_neg h3]; exact leads_last hx hy _ rfl
    · rw [if_neg h2]
      by_cases h3 : cmpN (ordr x) (ordr y) ≥ 0
      · rw [if_pos h3]
        by_cases h4 : cmpN (ordr y) (ordr z) ≥ 0
        · rw [if_pos h4]; exact leads_last hx hy _ (decide_eq_false (e2 h3 h4))
        · rw [if_neg h4]; exact leads_last hx hy _ rfl
      · rw [if_neg h3]; exact leads_last hx hy _ rfl
  · rw [if_neg h1]
    by_cases h3 : cmpN (ordr x) (ordr y) ≥ 0
    · rw [if_pos h3]
      by_cases h4 : cmpN (ordr y) (ordr z) ≥ 0
      · rw [if_pos h4]; exact leads_last hx hy _ (decide_eq_false (e2 h3 h4))
      · rw [if_neg h4]; exact leads_last hx hy _ rfl
    · rw [if_neg h3]; exact leads_last hx hy _ rfl
end Go.Proofs.Ytijdengicjjebaa.Pure
