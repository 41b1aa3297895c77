/- The bytes of any command are the document's, or it is refused: for all commands; of those that have more than 60000 parts nothing is asked. -/
import Derived.Test.YtikiegglebgmpaaCPx9
import Derived.Test.YtikiegglebgmpaaCPx15
import Derived.Test.YtikiegglebgmpaaLibsCP
namespace Go.Proofs.Ytikiegglebgmpaa.Pure
open Go.RowKit Go.Proofs.Ytikiegglebgmpaa.PA Go.Proofs.YtikiegglebgmpaaW.PrintWords Go.Proofs.YtikiegglebgmpaaW.PrintLast Go.Proofs.Ytikiegglebgmpaa.Plain

theorem CmdPuts (a0 a1 a2 a3 : Int) (l4 : List ByteArray) (l5 : List Rx) (l6 : List Wx) (a7 a8 a9 : Int) (a10 : ByteArray) (a11 : Int) (l12 : List (List Vx))
    (g : ((Lit.int .i64 a0).wf = true ∧ (Lit.int .i64 a1).wf = true ∧ (Lit.int .i64 a2).wf = true ∧ (Lit.int .i64 a3).wf = true ∧ (l4.length ≤ maxLen ∧ ∀ x ∈ l4, x.size ≤ maxLen) ∧ (l5.length ≤ maxLen ∧ ∀ x ∈ l5, (x.f0.size ≤ maxLen ∧ x.f1.size ≤ maxLen)) ∧ (l6.length ≤ maxLen ∧ ∀ x ∈ l6, (x.f0.size ≤ maxLen ∧ x.f1.size ≤ maxLen ∧ True)) ∧ (Lit.int .i64 a7).wf = true ∧ (Lit.int .i64 a8).wf = true ∧ (Lit.int .i64 a9).wf = true ∧ a10.size ≤ maxLen ∧ (Lit.int .i64 a11).wf = true ∧ (l12.length ≤ maxLen ∧ ∀ x ∈ l12, (x.length ≤ maxLen ∧ ∀ y : Vx, y ∈ x → ((Lit.int .i64 y.f0).wf = true ∧ (Lit.int .i64 y.f1).wf = true ∧ (Lit.int .u64 y.f2).wf = true ∧ y.f3.size ≤ maxLen))))) :
    ∃ k, falseworklaw13_CmdPuts.f k a0 a1 a2 a3 l4 l5 l6 a7 a8 a9 a10 a11 l12 = some true := by
  obtain ⟨-, -, -, -, ⟨h4, -⟩, ⟨h5, -⟩, ⟨h6, -⟩, -, -, -, -, -, h12, hr⟩ := g
  have hr2 : ∀ r ∈ l12, r.length ≤ maxLen ∧ ∀ x ∈ r, (Lit.int .u64 x.f2).wf = true := fun r m => ⟨(hr r m).1, fun x mx => ((hr r m).2 x mx).2.2.1⟩
  obtain ⟨K, b, hb, hg⟩ := great_is a0 a1 a2 a3 l4 l5 l6 a7 a8 a9 a10 a11 l12 h12 (fun r m => (hr r m).1) h6 h5 h4
  obtain ⟨K3, e3⟩ := cmd_awake
  cases b
  · obtain ⟨hs, ht⟩ := hb rfl
    obtain ⟨K1, e1⟩ := cmd_put_is a0 a1 a2 a3 l4 l5 l6 a7 a8 a9 a10 a11 l12 h4 h5 h12 hr2 hs ht
    obtain ⟨K2, e2⟩ := rcmd_put_is a0 a1 a2 a3 l4 l5 l6 a7 a8 a9 a10 a11 l12 h4 h5 h6 h12 hr2 hs ht
    refine ⟨K + (K1 + (K2 + K3)), ?_⟩
    have f0 := hg (K + (K1 + (K2 + K3))) (by omega)
    have f1 := e1 (K + (K1 + (K2 + K3))) (by omega)
    have f2 := e2 (K + (K1 + (K2 + K3))) (by omega)
    have f3 := e3 (K + (K1 + (K2 + K3))) (by omega)
    dsimp only at f0 f3
    unfold falseworklaw13_CmdPuts.f
    rw [f0, Option.bind_some, if_neg (by decide), f1, Option.bind_some, f2, Option.bind_some, if_pos rfl, f3]
    unfold falseworklaw13_num.f
    rw [Option.bind_some, if_pos rfl]; rfl
  · refine ⟨K + K3, ?_⟩
    have f0 := hg (K + K3) (by omega)
    have f3 := e3 (K + K3) (by omega)
    dsimp only at f0 f3
    unfold falseworklaw13_CmdPuts.f
    rw [f0, Option.bind_some, if_pos rfl, f3]; rfl
end Go.Proofs.Ytikiegglebgmpaa.Pure
