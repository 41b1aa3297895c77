/- The document's example: the command without anything has 108 bytes. -/
import Derived.Test.YtikiegglebgmpaaCMx12
import Derived.Test.YtikiegglebgmpaaCMx13
import Derived.Test.YtikiegglebgmpaaCmdMay
import Derived.Test.YtikiegglebgmpaaLibsCM
namespace Go.Proofs.Ytikiegglebgmpaa.PA
open Go.RowKit Go.Proofs.YtikiegglebgmpaaW.PrintWords Go.Proofs.YtikiegglebgmpaaW.PrintLast Go.Proofs.Ytikiegglebgmpaa.Plain

theorem size_nums (F : List Int) : (strOfNums F).size = F.length := by
  unfold strOfNums
  simp [ByteArray.size]
theorem cmd_none_ok : cmdOk 0 0 0 0 [] [] [] 0 0 0 (⟨#[]⟩ : ByteArray) 0 [] = true := by decide
theorem cmd_none_length : (cmd_Put.cb 0 0 0 0 [] [] [] 0 0 0 (⟨#[]⟩ : ByteArray) 0 []).length = 104 := by decide
theorem cmd_awake : Tells (fun k => falseworklaw13_awake.f k) true := by
  obtain ⟨K, hK⟩ := may_is 0 0 0 0 [] [] [] 0 0 0 (⟨#[]⟩ : ByteArray) 0 [] (Nat.zero_le _) (Nat.zero_le _) (by decide) (Nat.zero_le _) (fun r hr => by cases hr)
  refine ⟨K + 2000, fun k hk => ?_⟩
  obtain ⟨F, hF⟩ : ∃ F, F = cmd_Put.cb 0 0 0 0 [] [] [] 0 0 0 (⟨#[]⟩ : ByteArray) 0 [] := ⟨_, rfl⟩
  have hl : F.length = 104 := by rw [hF]; exact cmd_none_length
  have hs : (strOfNums F).size = 104 := by rw [size_nums, hl]
  show falseworklaw13_awake.f k = some true
  unfold falseworklaw13_awake.f cmd_Put.f
  have e := hK k (by omega)
  dsimp only at e
  rw [e, cmd_none_ok, Option.bind_some, if_pos rfl, ← hF]
  unfold cmd_Put.put
  rw [if_pos (by omega), put_is _ (by omega) k (by omega), Option.bind_some, Option.bind_some]
  have hz : (sealed (strOfNums F)).size = 108 := by rw [size_sealed, hs]
  unfold cmd_Put.ans
  rw [hz, if_neg (by decide)]
  dsimp only
  unfold falseworklaw13_num.f
  rw [Option.bind_some, if_pos rfl, hz]
  rfl
end Go.Proofs.Ytikiegglebgmpaa.PA
