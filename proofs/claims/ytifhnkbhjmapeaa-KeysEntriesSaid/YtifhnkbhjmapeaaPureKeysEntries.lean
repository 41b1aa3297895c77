/- Where any entry, and any index' entries, stand is the document's: for all numbers, indexes and values; of rows that are long nothing is asked. -/
import Derived.Test.YtifhnkbhjmapeaaKEx5
import Derived.Test.YtifhnkbhjmapeaaKEx15
import Derived.Test.YtifhnkbhjmapeaaLibsKE
namespace Go.Proofs.Ytifhnkbhjmapeaa.Pure
open Go.RowKit Go.Proofs.Ytifhnkbhjmapeaa.PA Go.Proofs.YtifhnkbhjmapeaaW.PrintWords Go.Proofs.YtifhnkbhjmapeaaW.PrintLast Go.Proofs.Ytifhnkbhjmapeaa.Plain

theorem KeysEntries (tb id : Int) (nm : ByteArray) (cols : List Int) (u : Bool) (st : Int) (l : List Vc) (f0 f1 f2 : Int) (f3 : ByteArray) (ht : (Lit.int .i64 tb).wf = true)
    (gi : (Lit.int .i64 id).wf = true ∧ nm.size ≤ maxLen ∧ (cols.length ≤ maxLen ∧ ∀ x ∈ cols, (Lit.int .i64 x).wf = true) ∧ True ∧ (Lit.int .i64 st).wf = true)
    (gl : l.length ≤ maxLen ∧ ∀ x ∈ l, ((Lit.int .i64 x.f0).wf = true ∧ (Lit.int .i64 x.f1).wf = true ∧ (Lit.int .u64 x.f2).wf = true ∧ x.f3.size ≤ maxLen)) (gx : Vc.Good ⟨f0, f1, f2, f3⟩) :
    ∃ k, falseworklaw21_KeysEntries.f k tb id nm cols u st l f0 f1 f2 f3 = some true := by
  have hx := gi.1
  have g : ∀ x ∈ l, x.Good := gl.2
  refine ⟨2200, ?_⟩
  have aw : ∀ k, 70 ≤ k → falseworklaw21_awake.f k = some true := keys_awake_true
  have j0 : ∀ b : Bool, falseworklaw21_KeysEntries.j0 2200 tb l b id nm cols u st f0 f1 f2 f3 = some true := by
    intro b
    simp only [falseworklaw21_KeysEntries.j0]
    rw [aw 2199 (by decide)]
    have e1 := keys_entry_is ht hx nm cols u st l g gx 2199 (by decide)
    have e2 := ref_entry_is ht hx nm cols u st l g gx 2199 (by decide)
    dsimp only at e1 e2
    rw [e1, e2, keys_entries_is ht hx l g 2199 (by decide), ref_entries_is ht hx l g 2199 (by decide)]
    split
    · rfl
    · simp [falseworklaw21_num.f]
  unfold falseworklaw21_KeysEntries.f
  obtain ⟨b, hb, _⟩ := keys_long_is l 2200 (by decide)
  rw [hb, Option.bind_some]
  split
  · exact j0 _
  · split <;> exact j0 _
end Go.Proofs.Ytifhnkbhjmapeaa.Pure
