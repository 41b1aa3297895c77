/- A command that has bytes is read back; what was told can be spoilt: for all commands; of those that have more than 60000 parts nothing is asked. -/
import Derived.Test.YtikiegglebgmpaaCBx10
import Derived.Test.YtikiegglebgmpaaCBx12
import Derived.Test.YtikiegglebgmpaaCBx17
import Derived.Test.YtikiegglebgmpaaLibsCB
namespace Go.Proofs.Ytikiegglebgmpaa.Pure
open Go.RowKit Go.Proofs.Ytikiegglebgmpaa.PA Go.Proofs.YtikiegglebgmpaaW.PrintWords Go.Proofs.YtikiegglebgmpaaW.PrintLast Go.Proofs.Ytikiegglebgmpaa.Plain

theorem i64_of {x : Int} (h : (Lit.int .i64 x).wf = true) : I64 x := by
  have h1 : IntKind.i64.min ≤ x ∧ x ≤ IntKind.i64.max := by simpa [Lit.wf] using h
  have h2 : IntKind.i64.min = -9223372036854775808 := by decide
  have h3 : IntKind.i64.max = 9223372036854775807 := by decide
  rw [h2, h3] at h1
  exact h1
theorem u64_of {x : Int} (h : (Lit.int .u64 x).wf = true) : 0 ≤ x ∧ x < 18446744073709551616 := by
  obtain ⟨n, rfl, hn⟩ := u64_nat h
  omega
theorem CmdBack (a0 a1 a2 a3 : Int) (l4 : List ByteArray) (l5 : List Rx) (l6 : List Wx) (a7 a8 a9 : Int) (a10 : ByteArray) (a11 : Int) (l12 : List (List Vx))
    (g : ((Lit.int .i64 a0).wf = true ∧ (Lit.int .i64 a1).wf = true ∧ (Lit.int .i64 a2).wf = true ∧ (Lit.int .i64 a3).wf = true ∧ (l4.length ≤ maxLen ∧ ∀ x ∈ l4, x.size ≤ maxLen) ∧ (l5.length ≤ maxLen ∧ ∀ x ∈ l5, (x.f0.size ≤ maxLen ∧ x.f1.size ≤ maxLen)) ∧ (l6.length ≤ maxLen ∧ ∀ x ∈ l6, (x.f0.size ≤ maxLen ∧ x.f1.size ≤ maxLen ∧ True)) ∧ (Lit.int .i64 a7).wf = true ∧ (Lit.int .i64 a8).wf = true ∧ (Lit.int .i64 a9).wf = true ∧ a10.size ≤ maxLen ∧ (Lit.int .i64 a11).wf = true ∧ (l12.length ≤ maxLen ∧ ∀ x ∈ l12, (x.length ≤ maxLen ∧ ∀ y : Vx, y ∈ x → ((Lit.int .i64 y.f0).wf = true ∧ (Lit.int .i64 y.f1).wf = true ∧ (Lit.int .u64 y.f2).wf = true ∧ y.f3.size ≤ maxLen))))) :
    ∃ k, falseworklaw13_CmdBack.f k a0 a1 a2 a3 l4 l5 l6 a7 a8 a9 a10 a11 l12 = some true := by
  obtain ⟨i0, i1, i2, i3, ⟨h4, -⟩, ⟨h5, -⟩, ⟨h6, -⟩, i7, i8, i9, -, i11, h12, hr⟩ := g
  have hr2 : ∀ r ∈ l12, r.length ≤ maxLen ∧ ∀ x ∈ r, (Lit.int .u64 x.f2).wf = true := fun r m => ⟨(hr r m).1, fun x mx => ((hr r m).2 x mx).2.2.1⟩
  obtain ⟨K, b, hb, hg⟩ := great_is a0 a1 a2 a3 l4 l5 l6 a7 a8 a9 a10 a11 l12 h12 (fun r m => (hr r m).1) h6 h5 h4
  obtain ⟨K3, e3⟩ := cmd_awake
  cases b
  rotate_left
  · refine ⟨K + K3, ?_⟩
    have f0 := hg (K + K3) (by omega)
    have f3 := e3 (K + K3) (by omega)
    dsimp only at f0 f3
    unfold falseworklaw13_CmdBack.f
    rw [f0, Option.bind_some, if_pos rfl, f3]
  obtain ⟨hs, ht⟩ := hb rfl
  obtain ⟨K1, e1⟩ := cmd_put_is a0 a1 a2 a3 l4 l5 l6 a7 a8 a9 a10 a11 l12 h4 h5 h12 hr2 hs ht
  obtain ⟨F, hF⟩ : ∃ F, F = cmd_Put.cb a0 a1 a2 a3 l4 l5 l6 a7 a8 a9 a10 a11 l12 := ⟨_, rfl⟩
  have hne : ((cmdPutB a0 a1 a2 a3 l4 l5 l6 a7 a8 a9 a10 a11 l12).2 ≠ 0 ∧ (cmdPutB a0 a1 a2 a3 l4 l5 l6 a7 a8 a9 a10 a11 l12).1 = (⟨#[]⟩ : ByteArray)) ∨ (F.length ≤ 19996 ∧ cmdPutB a0 a1 a2 a3 l4 l5 l6 a7 a8 a9 a10 a11 l12 = (sealed (strOfNums F), 0)) := by
    unfold cmdPutB
    rw [← hF]
    split
    · unfold putAns
      split
      · exact .inl ⟨by decide, rfl⟩
      · exact .inr ⟨by omega, rfl⟩
    · exact .inl ⟨by decide, rfl⟩
  rcases hne with ⟨h2, h3⟩ | ⟨hl, hP⟩
  · refine ⟨K + (K1 + K3), ?_⟩
    have f0 := hg (K + (K1 + K3)) (by omega)
    have f1 := e1 (K + (K1 + K3)) (by omega)
    have f3 := e3 (K + (K1 + K3)) (by omega)
    dsimp only at f0 f3
    unfold falseworklaw13_CmdBack.f
    rw [f0, Option.bind_some, if_neg (by decide), f1, Option.bind_some, if_neg h2, h3, if_pos (by rw [ByteArray.toList_eq]), f3]
  · obtain ⟨c, hc⟩ : ∃ c : cmd_Get.Cm, c = ⟨a0, a1, a2, a3, l4, l5, l6, a7, a8, a9, a10, a11, l12⟩ := ⟨_, rfl⟩
    have hcF : cbOf c = F := by rw [hc, hF]; rfl
    have hsz : (strOfNums F).size = F.length := size_nums F
    have hz := size_sealed (strOfNums F)
    have hop := opened_sealed (strOfNums F)
    have hbF : bytesOf (strOfNums F) = cbOf c ++ [] := by rw [bytes_str F (by rw [← hcF]; exact cb_bytes c), List.append_nil, hcF]
    obtain ⟨t1, hp, -⟩ := pCmd_of (c := c) (by rw [hc]; exact i64_of i0) (by rw [hc]; exact i64_of i1) (by rw [hc]; exact i64_of i2) (by rw [hc]; exact i64_of i3) (by rw [hc]; exact i64_of i7) (by rw [hc]; exact i64_of i8) (by rw [hc]; exact i64_of i9) (by rw [hc]; exact i64_of i11)
      (by rw [hc]; exact fun r m v mv => ⟨i64_of ((hr r m).2 v mv).1, i64_of ((hr r m).2 v mv).2.1, (u64_of ((hr r m).2 v mv).2.2.1).1, (u64_of ((hr r m).2 v mv).2.2.1).2⟩) (by rw [List.append_nil, hcF]; omega) hbF
    have hput : putOf c = (sealed (strOfNums F), 0) := by rw [hc]; exact hP
    obtain ⟨d, e, K4, hK4, hd, -, hlast⟩ := get_is_cmd (sealed (strOfNums F)) (by omega)
    obtain ⟨rfl, hcd⟩ := hlast c t1 (by rw [hop]) (by rw [hop]; exact hp) hput
    subst hcd
    rcases hd with ⟨h, -⟩ | ⟨-, hsound, -⟩
    · exact absurd h (by decide)
    obtain ⟨K5, e5⟩ := hsound.same
    refine ⟨K + (K1 + (K3 + (K4 + K5))), ?_⟩
    have f0 := hg (K + (K1 + (K3 + (K4 + K5)))) (by omega)
    have f1 := e1 (K + (K1 + (K3 + (K4 + K5)))) (by omega)
    have f3 := e3 (K + (K1 + (K3 + (K4 + K5)))) (by omega)
    have f4 := hK4 (K + (K1 + (K3 + (K4 + K5)))) (by omega)
    have f5 := e5 (K + (K1 + (K3 + (K4 + K5)))) (by omega)
    dsimp only at f0 f3 f5
    unfold falseworklaw13_CmdBack.f
    rw [f0, Option.bind_some, if_neg (by decide), f1, hP, Option.bind_some, if_pos rfl]
    dsimp only
    rw [f4, Option.bind_some, if_pos rfl]
    rw [hc] at f5 ⊢
    dsimp only at f5 ⊢
    rw [f5, Option.bind_some, if_pos rfl, f3]
end Go.Proofs.Ytikiegglebgmpaa.Pure
