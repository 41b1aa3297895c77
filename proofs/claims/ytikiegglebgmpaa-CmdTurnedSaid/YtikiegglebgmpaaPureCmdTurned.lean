/- The bytes of a command, of which one is turned, are refused: for all commands; of those that have more than 60000 parts nothing is asked. -/
import Derived.Test.YtikiegglebgmpaaCTx12
import Derived.Test.YtikiegglebgmpaaCTx16
import Derived.Test.YtikiegglebgmpaaLibsCT
namespace Go.Proofs.Ytikiegglebgmpaa.Pure
open Go.RowKit Go.Proofs.Ytikiegglebgmpaa.PA Go.Proofs.YtikiegglebgmpaaW.PrintWords Go.Proofs.YtikiegglebgmpaaW.PrintLast Go.Proofs.Ytikiegglebgmpaa.Plain

theorem u8_bounds {n : Int} (hn : (Lit.int .u8 n).wf = true) : 0 ≤ n ∧ n ≤ 255 := by
  have h1 : IntKind.u8.min ≤ n ∧ n ≤ IntKind.u8.max := by simpa [Lit.wf] using hn
  have h2 : IntKind.u8.min = 0 := by decide
  have h3 : IntKind.u8.max = 255 := by decide
  rw [h2, h3] at h1
  exact h1
theorem CmdTurned (a0 a1 a2 a3 : Int) (l4 : List ByteArray) (l5 : List Rx) (l6 : List Wx) (a7 a8 a9 : Int) (a10 : ByteArray) (a11 : Int) (l12 : List (List Vx)) (at_ wi : Int)
    (g : ((Lit.int .i64 a0).wf = true ∧ (Lit.int .i64 a1).wf = true ∧ (Lit.int .i64 a2).wf = true ∧ (Lit.int .i64 a3).wf = true ∧ (l4.length ≤ maxLen ∧ ∀ x ∈ l4, x.size ≤ maxLen) ∧ (l5.length ≤ maxLen ∧ ∀ x ∈ l5, (x.f0.size ≤ maxLen ∧ x.f1.size ≤ maxLen)) ∧ (l6.length ≤ maxLen ∧ ∀ x ∈ l6, (x.f0.size ≤ maxLen ∧ x.f1.size ≤ maxLen ∧ True)) ∧ (Lit.int .i64 a7).wf = true ∧ (Lit.int .i64 a8).wf = true ∧ (Lit.int .i64 a9).wf = true ∧ a10.size ≤ maxLen ∧ (Lit.int .i64 a11).wf = true ∧ (l12.length ≤ maxLen ∧ ∀ x ∈ l12, (x.length ≤ maxLen ∧ ∀ y : Vx, y ∈ x → ((Lit.int .i64 y.f0).wf = true ∧ (Lit.int .i64 y.f1).wf = true ∧ (Lit.int .u64 y.f2).wf = true ∧ y.f3.size ≤ maxLen))))) (_ : (Lit.int .i64 at_).wf = true) (hw : (Lit.int .u8 wi).wf = true) :
    ∃ k, falseworklaw13_CmdTurned.f k a0 a1 a2 a3 l4 l5 l6 a7 a8 a9 a10 a11 l12 at_ wi = some true := by
  obtain ⟨-, -, -, -, ⟨h4, -⟩, ⟨h5, -⟩, ⟨h6, -⟩, -, -, -, -, -, h12, hr⟩ := g
  obtain ⟨b0, b1⟩ := u8_bounds hw
  have hr2 : ∀ r ∈ l12, r.length ≤ maxLen ∧ ∀ x ∈ r, (Lit.int .u64 x.f2).wf = true := fun r m => ⟨(hr r m).1, fun x mx => ((hr r m).2 x mx).2.2.1⟩
  obtain ⟨K, b, hb, hg⟩ := great_is a0 a1 a2 a3 l4 l5 l6 a7 a8 a9 a10 a11 l12 h12 (fun r m => (hr r m).1) h6 h5 h4
  obtain ⟨K3, e3⟩ := cmd_awake
  cases b
  rotate_left
  · refine ⟨K + K3, ?_⟩
    have f0 := hg (K + K3) (by omega)
    have f3 := e3 (K + K3) (by omega)
    dsimp only at f0 f3
    unfold falseworklaw13_CmdTurned.f
    rw [if_pos b0, if_pos b1, f0, Option.bind_some, if_pos rfl, f3]
  obtain ⟨hs, ht⟩ := hb rfl
  obtain ⟨K1, e1⟩ := cmd_put_is a0 a1 a2 a3 l4 l5 l6 a7 a8 a9 a10 a11 l12 h4 h5 h12 hr2 hs ht
  have hne : (cmdPutB a0 a1 a2 a3 l4 l5 l6 a7 a8 a9 a10 a11 l12).2 ≠ 0 ∨ ∃ F : List Int, F.length ≤ 19996 ∧ cmdPutB a0 a1 a2 a3 l4 l5 l6 a7 a8 a9 a10 a11 l12 = (sealed (strOfNums F), 0) := by
    unfold cmdPutB
    split
    · unfold putAns
      split
      · exact .inl (by decide)
      · exact .inr ⟨_, by omega, rfl⟩
    · exact .inl (by decide)
  rcases hne with h2 | ⟨F, hF, hP⟩
  · refine ⟨K + (K1 + K3), ?_⟩
    have f0 := hg (K + (K1 + K3)) (by omega)
    have f1 := e1 (K + (K1 + K3)) (by omega)
    have f3 := e3 (K + (K1 + K3)) (by omega)
    dsimp only at f0 f3
    unfold falseworklaw13_CmdTurned.f
    rw [if_pos b0, if_pos b1, f0, Option.bind_some, if_neg (by decide), f1, Option.bind_some, if_neg h2, f3]
  · obtain ⟨s, hsF⟩ : ∃ s, strOfNums F = s := ⟨_, rfl⟩
    rw [hsF] at hP
    have hsz : s.size = F.length := by rw [← hsF]; exact size_nums F
    have hz := size_sealed s
    have hm0 := Int.emod_nonneg (at_ % 18446744073709551616) (show ((sealed s).size : Int) ≠ 0 by omega)
    have hm1 := Int.emod_lt_of_pos (at_ % 18446744073709551616) (show 0 < ((sealed s).size : Int) by omega)
    obtain ⟨m, hm⟩ : ∃ m : Nat, (at_ % 18446744073709551616) % ((sealed s).size : Int) = (m : Int) := ⟨((at_ % 18446744073709551616) % ((sealed s).size : Int)).toNat, by omega⟩
    rw [hm] at hm0 hm1
    obtain ⟨d, hd, hd0, hd1⟩ : ∃ d : Nat, 1 + wi % 255 = (d : Int) ∧ 0 < d ∧ d < 256 := ⟨(1 + wi % 255).toNat, by omega, by omega, by omega⟩
    obtain ⟨o1, o2⟩ := opened_turned s m d (by omega) hd0 hd1
    obtain ⟨c, e, K4, hK4, hc, h3, -⟩ := get_is_cmd (strOfNums ((bytesOf (sealed s)).set m (Go.bits .xor .u8 (bt (sealed s) (m : Int)) (d : Int)))) (by omega)
    have he := h3 o1
    subst he
    rcases hc with ⟨-, rfl⟩ | ⟨h0, -⟩
    rotate_left
    · exact absurd h0 (by decide)
    obtain ⟨K5, e5⟩ := Sound.none.same
    refine ⟨K + (K1 + (K3 + (K4 + K5))), ?_⟩
    have f0 := hg (K + (K1 + (K3 + (K4 + K5)))) (by omega)
    have f1 := e1 (K + (K1 + (K3 + (K4 + K5)))) (by omega)
    have f3 := e3 (K + (K1 + (K3 + (K4 + K5)))) (by omega)
    have f4 := hK4 (K + (K1 + (K3 + (K4 + K5)))) (by omega)
    have f5 := e5 (K + (K1 + (K3 + (K4 + K5)))) (by omega)
    dsimp only at f0 f3 f5
    unfold falseworklaw13_CmdTurned.f
    rw [if_pos b0, if_pos b1, f0, Option.bind_some, if_neg (by decide), f1, hP, Option.bind_some, if_pos rfl, if_pos (by show 0 < (sealed s).size; omega), if_pos (by show (sealed s).size ≤ 1000000; omega)]
    dsimp only
    rw [hm, Int.toNat_natCast]
    unfold falseworklaw13_CmdTurned.v
    rw [hd, f4, Option.bind_some, if_pos rfl]
    unfold cmd_Get.c0 at f5 ⊢
    dsimp only at f5 ⊢
    rw [f5, Option.bind_some, if_pos rfl, f3]
end Go.Proofs.Ytikiegglebgmpaa.Pure
