/- Of two values which is below: what the program's and the document's functions come to. -/
import Derived.Test.YtifhnkbhjmapeaaPAx17
import Derived.Test.YtifhnkbhjmapeaaValueRef
import Derived.Test.YtifhnkbhjmapeaaValV
namespace Go.Proofs.Ytifhnkbhjmapeaa.PA
open Go.RowKit Go.Proofs.YtifhnkbhjmapeaaW.PrintWords Go.Proofs.YtifhnkbhjmapeaaW.PrintLast Go.Proofs.Ytifhnkbhjmapeaa.Plain

/-- -1, 0, 1 of two values; 0, if one may not be. -/
def cmpV (k n : Int) (f : Nat) (s : List UInt8) (k' n' : Int) (f' : Nat) (s' : List UInt8) : Int :=
  if mayB k n f s = true then if mayB k' n' f' s' = true then cmpL (encV k n f s) (encV k' n' f' s') else 0 else 0
theorem cmpV_turn (k n : Int) (f : Nat) (s : List UInt8) (k' n' : Int) (f' : Nat) (s' : List UInt8) : cmpV k' n' f' s' k n f s = -cmpV k n f s k' n' f' s' := by
  unfold cmpV
  by_cases h : mayB k n f s = true <;> by_cases h' : mayB k' n' f' s' = true <;> simp [h, h', cmpL_turn (encV k n f s)]
theorem cmpL_bounds (a b : List UInt8) : -1 ≤ cmpL a b ∧ cmpL a b ≤ 1 := by unfold cmpL; split <;> (try split) <;> omega
theorem cmpV_bounds (k n : Int) (f : Nat) (s : List UInt8) (k' n' : Int) (f' : Nat) (s' : List UInt8) : -1 ≤ cmpV k n f s k' n' f' s' ∧ cmpV k n f s k' n' f' s' ≤ 1 := by
  unfold cmpV
  have := cmpL_bounds (encV k n f s) (encV k' n' f' s')
  split <;> (try split) <;> omega
theorem ref_cmpv_is {k n : Int} {f : Nat} (hn : (Lit.int .i64 n).wf = true) (hf : f < 18446744073709551616) (s : ByteArray) {k' n' : Int} {f' : Nat} (hn' : (Lit.int .i64 n').wf = true) (hf' : f' < 18446744073709551616) (s' : ByteArray) (K : Nat) (hK : 50 ≤ K) :
    falseworkref2_Cmp.f K k n (f : Int) s k' n' (f' : Int) s' = some (cmpV k n f s.data.toList k' n' f' s'.data.toList) := by
  obtain ⟨K, rfl⟩ : ∃ m, K = m + 1 := ⟨K - 1, by omega⟩
  unfold falseworkref2_Cmp.f cmpV
  rw [ref_put_is hn hf s _ hK, ref_put_is hn' hf' s' _ hK]
  unfold putV
  by_cases h : mayB k n f s.data.toList = true <;> by_cases h' : mayB k' n' f' s'.data.toList = true
  · simp only [h, h', if_true, Option.bind_some, falseworkref2_Cmp.j0, toList_data, txt_data]
    unfold cmpL
    by_cases e : encV k n f s.data.toList = encV k' n' f' s'.data.toList
    · rw [e, if_pos (by simp), less_self]; rfl
    · rw [if_neg (by simpa using e)]
      have ht := less_total _ _ e
      cases h1 : less (encV k n f s.data.toList) (encV k' n' f' s'.data.toList) <;> cases h2 : less (encV k' n' f' s'.data.toList) (encV k n f s.data.toList) <;> simp_all
  · simp [h, h', falseworkref2_Cmp.j0]
  · simp [h, h', falseworkref2_Cmp.j0]
  · simp [h, h', falseworkref2_Cmp.j0]
end Go.Proofs.Ytifhnkbhjmapeaa.PA
