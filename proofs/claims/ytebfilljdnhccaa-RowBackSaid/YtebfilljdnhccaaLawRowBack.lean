/- The statement RowBack: whatever the input, the call returns true, and each argument reads behind it as it read before. No condition beyond the row's own. -/
import Derived.Test.YtebfilljdnhccaaRows
import Derived.Test.YtebfilljdnhccaaRBx9
import Derived.Test.YtebfilljdnhccaaRBx0
import Derived.Test.YtebfilljdnhccaaPureRowBack
import Derived.Test.YtebfilljdnhccaaOpens
import Derived.WalkKit
import Derived.ProofKit
import Derived.OpenShut
import Derived.ShutString
import Derived.ChangeOld
import Derived.Below
import Derived.SizedLaws
namespace Go.Proofs.Ytebfilljdnhccaa.rowBack
open Go.ChangeShapes Go.WideShapes Go.ChangeAt Go.RowKit Go.Proofs.YtebfilljdnhccaaW.PrintWords Go.Proofs.Ytebfilljdnhccaa.Opens
open Go.ChangeMaps (open_string shut_string)
set_option linter.unusedVariables false
theorem own : ownKnob Try.prog.godebug = none := by kernel_rfl
theorem laidOut : laidOutB Try.prog = true := by kernel_rfl
noncomputable def O3 : Opn Try.prog 3 (Kd.int .i64) := Opn.int Try.underlying3 (by kernel_rfl)
noncomputable def O2 : Opn Try.prog 2 (Kd.int .i64) := Opn.int Try.underlying2 (by kernel_rfl)
noncomputable def O42 : Opn Try.prog 42 (Kd.int .u64) := Opn.int Try.underlying42 (by kernel_rfl)
noncomputable def O9 : Opn Try.prog 9 Kd.string := Opn.string Try.underlying9 (by kernel_rfl)
noncomputable def O44 : Opn Try.prog 44 PA.k44 := Opn.struct (d := (Kd.pair (Kd.int .i64) (Kd.pair (Kd.int .i64) (Kd.pair (Kd.int .u64) Kd.string)))) (β := PA.S44) (fun x => (x.f0, x.f1, x.f2, x.f3)) (fun p => ⟨p.1, p.2.1, p.2.2.1, p.2.2.2⟩) (fun _ => rfl) Try.underlying44 (by kernel_rfl) (FOpn.cons rfl O3 (FOpn.cons rfl O2 (FOpn.cons rfl O42 (FOpn.last rfl O9))))
noncomputable def O46 : Opn Try.prog 46 PA.k46 := Opn.struct (d := (Kd.pair (Kd.int .i64) PA.k44)) (β := PA.S46) (fun x => (x.f0, x.f1)) (fun p => ⟨p.1, p.2⟩) (fun _ => rfl) Try.underlying46 (by kernel_rfl) (FOpn.cons rfl O3 (FOpn.last rfl O44))
noncomputable def O22 : Opn Try.prog 22 (Kd.slice 46 PA.k46) := Opn.slice Try.underlying22 (by kernel_rfl) O46
set_option maxRecDepth 100000 in
theorem lifted (os : Os) (started : os.Started) (H : Type) (enc : TypeId × Value → H) :
    ReturnsInHanded {} Try.checked os 6 .any (Rows.rowBackSpec.pre6 enc Try.prog Try.f6 Rows.rowBackRow.domain false) (Rows.rowBackSpec.post enc Try.prog Try.f6 false true false false) := by
  refine returnsInHanded_of_change_sized (C := Try.checked) own started (by kernel_rfl) Try.func6
    (ChangeSpec.witness6 (enc := enc) (C := Try.checked) false ⟨#[], #[.slice none 0 0], []⟩ 8 (by kernel_rfl) (by kernel_rfl) (by kernel_rfl) (by kernel_rfl)) ?_
  intro W base args ds gs before hval0 hW hcnd hsz0 _
  have hval : ∀ (j : Nat) t v, Try.f6.params[j]? = some t → args[j]? = some v → Value.okWide Try.prog W .any base t v := hval0
  have hW' := hW
  obtain ⟨p, q, hA0, hV, rfl, hfz, hnd⟩ := hW
  have hA : DataW.TrodAll enc Try.prog W 0 (fun _ => true) true Try.f6.params.toList args.toList ds p := hA0
  rw [Try.params6] at hA hval
  obtain ⟨v0, vs0, d0, ds0, p0, q0, hargs, rfl, rfl, h0, r0⟩ := trodAll_cons hA
  obtain ⟨rfl, rfl, rfl⟩ := trodAll_nil r0
  obtain rfl : args = #[v0] := by cases args; simp_all
  obtain ⟨rfl, rfl⟩ := trodVars_none hV
  have k0 := h0
  have lt0 : ∀ x ∈ p0, x.block < W.heap.size := by obtain ⟨m, hm⟩ := k0; exact DataW.trod_lt m _ _ _ hm
  obtain ⟨A0, l0, c0, rfl, hc0, hC0, hg0⟩ := O22.arg_slice Try.underlying22 (hval 0 22 v0 rfl rfl) h0
  have g0 : (l0.length ≤ maxLen ∧ ∀ x ∈ l0, ((Lit.int .i64 x.f0).wf = true ∧ ((Lit.int .i64 x.f1.f0).wf = true ∧ (Lit.int .i64 x.f1.f1).wf = true ∧ (Lit.int .u64 x.f1.f2).wf = true ∧ x.f1.f3.size ≤ maxLen))) := hg0
  clear hA0 hval0 hsz0
  obtain ⟨k, hf⟩ := Pure.RowBack l0 g0
  refine (PA.falseworklaw4_RowBack.calls (w := W) (h := hf) (hr0 := hC0) (hc0 := hc0)).mono fun e W' ⟨he, bel⟩ => ?_
  subst he
  exact ⟨_, rfl, _, _, _, [], _, [], hW', trodAll_mk1 (shut_bool Try.underlying4 _), (trodAll_cons_mk (Below.trod laidOut (by kernel_rfl) (of_decide_eq_true (by kernel_rfl)) k0 bel lt0) trodAll_mk0), rfl, bel.frame _, fun h => by cases h⟩
theorem over : Rows.rowBackRow.holds Try.pinned (OpenSpec.ofChange Rows.rowBackSpec) :=
  OpenClaim.holds_of_wide 6 Try.f6 rfl rfl rfl rfl rfl rfl rfl ⟨rfl, rfl, rfl, rfl, rfl⟩ rfl rfl rfl rfl rfl (by kernel_rfl) Try.func6 (by kernel_rfl)
    (of_decide_eq_true (by kernel_rfl)) (by unfold Func.isWrapper; first | (rw [if_pos (by decide +kernel)]; kernel_rfl) | (rw [if_neg (by decide +kernel)]; exact ⟨rfl, rfl⟩))
    (fun os started H enc _ => lifted os started H enc)
theorem proved : Rows.RowBackSaid := over
#print axioms proved
end Go.Proofs.Ytebfilljdnhccaa.rowBack
namespace Go.Proofs.Ytebfilljdnhccaa
/-- The row, under a short name, for the claim. -/
theorem rowBack_holds : Rows.RowBackSaid := rowBack.proved
end Go.Proofs.Ytebfilljdnhccaa
