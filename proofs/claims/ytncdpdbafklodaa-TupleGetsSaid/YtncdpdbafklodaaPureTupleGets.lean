/- The values of any bytes are the document's, or they are refused; what was told can be spoilt: for every text; of texts of more than 5000 bytes nothing is asked. -/
import Derived.Test.YtncdpdbafklodaaTGx0
import Derived.Test.YtncdpdbafklodaaTGx4
import Derived.Test.YtncdpdbafklodaaTGx6
import Derived.Test.YtncdpdbafklodaaTGx9
import Derived.Test.YtncdpdbafklodaaTGx13
import Derived.Test.YtncdpdbafklodaaTGx14
import Derived.Test.YtncdpdbafklodaaLibsTG
namespace Go.Proofs.Ytncdpdbafklodaa.Pure
open Go.RowKit Go.Proofs.Ytncdpdbafklodaa.PA Go.Proofs.YtncdpdbafklodaaW.PrintWords Go.Proofs.YtncdpdbafklodaaW.PrintLast Go.Proofs.Ytncdpdbafklodaa.Plain

theorem spoil (s : ByteArray) (x5 : List Vc) (d : Nat) : ∀ (k i : Nat) (m : List Vc), i + d = m.length → m.length ≤ 1000000 → d < k →
    ∃ j, k = j + d + 1 ∧ falseworklaw3_TupleGets.l0 k s m x5 true (i : Int) = ((tuple_Get.f j s).bind fun b => ((falseworkref2_Same.f j b.1 x5).bind fun t => (if t = true then ((falseworklaw3_awake.f j).bind fun u => some u) else some false))) := by
  induction d with
  | zero =>
    intro k i m hi hm hk
    refine ⟨k - 1, by omega, ?_⟩
    obtain ⟨k, rfl⟩ : ∃ m, k = m + 1 := ⟨k - 1, by omega⟩
    simp only [falseworklaw3_TupleGets.l0]
    rw [if_neg (by omega)]
    simp only [if_true, Nat.add_sub_cancel]
  | succ d ih =>
    intro k i m hi hm hk
    obtain ⟨k, rfl⟩ : ∃ m, k = m + 1 := ⟨k - 1, by omega⟩
    simp only [falseworklaw3_TupleGets.l0]
    rw [if_pos (by omega), if_pos (by omega), show wrap64 ((i : Int) + 1) = ((i + 1 : Nat) : Int) by unfold wrap64; omega]
    obtain ⟨j, hj, hf⟩ := ih k (i + 1) (m.set (i : Int).toNat ⟨9, (rd_T37 m (i : Int)).f1, (rd_T37 m (i : Int)).f2, (rd_T37 m (i : Int)).f3⟩) (by rw [List.length_set]; omega) (by rw [List.length_set]; exact hm) (by omega)
    exact ⟨j, by omega, hf⟩
theorem TupleGets : falseworklaw3_TupleGets.Pure := by
  intro s hs
  refine ⟨40000, ?_⟩
  unfold falseworklaw3_TupleGets.f
  by_cases h : (s.size : Int) > 5000
  · rw [if_pos h, tup_awake_true 40000 (by decide)]; rfl
  · obtain ⟨l, hL⟩ : ∃ l, (ansG [] (decT (s.size + 1) 0 s.data.toList)) = l := ⟨_, rfl⟩
    have hl : l.1.length ≤ 5000 := by
      have h1 := ansG_len (decT (s.size + 1) 0 s.data.toList)
      have h2 := decT_len (s.size + 1) 0 s.data.toList
      rw [← size_data] at h2
      rw [hL] at h1
      omega
    have hget : ∀ k, 3 * s.size + 80 ≤ k → tuple_Get.f k s = some l := fun k hk => by rw [tup_get_is s (by omega) k (by omega), hL]
    rw [if_neg h, hget 40000 (by omega), rvalues_is s (by omega) 40000 (by omega), hL]
    simp only [Option.bind_some, falseworklaw3_num.f]
    rw [samev_is _ (by omega) 40000 (by omega)]
    simp only [Option.bind_some, if_true, beq_self_eq_true]
    simp only [falseworklaw3_TupleGets.j0]
    obtain ⟨j, hj, hf⟩ := spoil s l.1 l.1.length 39999 0 l.1 (by omega) (by omega) (by omega)
    refine hf.trans ?_
    rw [hget j (by omega), Option.bind_some, samev_is _ (by omega) j (by omega), Option.bind_some, if_pos rfl, tup_awake_true j (by omega)]
    rfl
end Go.Proofs.Ytncdpdbafklodaa.Pure
