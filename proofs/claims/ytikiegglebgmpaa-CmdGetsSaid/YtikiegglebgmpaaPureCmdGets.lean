/- Any bytes are those of the command that they are read as, or are refused: for all texts; of those longer than 60000 bytes nothing is asked. -/
import Derived.Test.YtikiegglebgmpaaCGx17
import Derived.Test.YtikiegglebgmpaaCGx21
import Derived.Test.YtikiegglebgmpaaLibsCG
namespace Go.Proofs.Ytikiegglebgmpaa.Pure
open Go.RowKit Go.Proofs.Ytikiegglebgmpaa.PA Go.Proofs.YtikiegglebgmpaaW.PrintWords Go.Proofs.YtikiegglebgmpaaW.PrintLast Go.Proofs.Ytikiegglebgmpaa.Plain

theorem CmdGets (s : ByteArray) (_ : s.size ≤ maxLen) : ∃ k, falseworklaw13_CmdGets.f k s = some true := by
  obtain ⟨K3, e3⟩ := cmd_awake
  by_cases hz : (s.size : Int) > 60000
  · refine ⟨K3, ?_⟩
    have f3 := e3 K3 (Nat.le_refl _)
    dsimp only at f3
    unfold falseworklaw13_CmdGets.f
    rw [if_pos hz, f3]
  obtain ⟨c, e, K, hK, h, -, -⟩ := get_is_cmd s (by omega)
  rcases h with ⟨rfl, rfl⟩ | ⟨rfl, hc, hp, -⟩
  · obtain ⟨K4, e4⟩ := Sound.none.same
    refine ⟨K3 + (K + K4), ?_⟩
    have f3 := e3 (K3 + (K + K4)) (by omega)
    have f4 := e4 (K3 + (K + K4)) (by omega)
    dsimp only at f3 f4
    unfold falseworklaw13_CmdGets.f
    rw [if_neg hz, hK _ (by omega), Option.bind_some, if_neg (by decide), if_pos rfl]
    unfold cmd_Get.c0 at f4 ⊢
    dsimp only at f4 ⊢
    rw [f4, Option.bind_some, if_pos rfl, f3]
  · have hl := hc.lens
    have hf := hc.few
    obtain ⟨K4, e4⟩ := rcmd_put_isF c.a0 c.a1 c.a2 c.a3 c.l4 c.l5 c.l6 c.a7 c.a8 c.a9 c.a10 c.a11 c.l12 (by unfold maxLen; omega) (by unfold maxLen; omega) (by unfold maxLen; omega) (by unfold maxLen; omega) hc.rows (by unfold cbOf at hf; omega)
    refine ⟨K3 + (K + K4), ?_⟩
    have f3 := e3 (K3 + (K + K4)) (by omega)
    have f4 := e4 (K3 + (K + K4)) (by omega)
    dsimp only at f3
    have hp2 : cmdPutB c.a0 c.a1 c.a2 c.a3 c.l4 c.l5 c.l6 c.a7 c.a8 c.a9 c.a10 c.a11 c.l12 = (s, 0) := hp
    rw [hp2] at f4
    unfold falseworklaw13_CmdGets.f
    rw [if_neg hz, hK _ (by omega), Option.bind_some, if_pos rfl, f4, Option.bind_some, if_pos rfl, if_pos rfl, f3]
end Go.Proofs.Ytikiegglebgmpaa.Pure
