/- The statement RowFills: whatever the input, the call returns true, and each argument reads behind it as it read before. No condition beyond the row's own. -/
import Derived.Test.YtebfilljdnhccaaRows
import Derived.Test.YtebfilljdnhccaaRFx7
import Derived.Test.YtebfilljdnhccaaRFx0
import Derived.Test.YtebfilljdnhccaaPureRowFills
import Derived.Test.YtebfilljdnhccaaOpens
import Derived.WalkKit
import Derived.ProofKit
import Derived.OpenShut
import Derived.ShutString
import Derived.ChangeOld
import Derived.Below
import Derived.SizedLaws
namespace Go.Proofs.Ytebfilljdnhccaa.rowFills
open Go.ChangeShapes Go.WideShapes Go.ChangeAt Go.RowKit Go.Proofs.YtebfilljdnhccaaW.PrintWords Go.Proofs.Ytebfilljdnhccaa.Opens
open Go.ChangeMaps (open_string shut_string)
set_option linter.unusedVariables false
theorem own : ownKnob Try.prog.godebug = none := by kernel_rfl
theorem laidOut : laidOutB Try.prog = true := by kernel_rfl
noncomputable def O3 : Opn Try.prog 3 (Kd.int .i64) := Opn.int Try.underlying3 (by kernel_rfl)
noncomputable def O2 : Opn Try.prog 2 (Kd.int .i64) := Opn.int Try.underlying2 (by kernel_rfl)
noncomputable def O42 : Opn Try.prog 42 (Kd.int .u64) := Opn.int Try.underlying42 (by kernel_rfl)
noncomputable def O9 : Opn Try.prog 9 Kd.string := Opn.string Try.underlying9 (by kernel_rfl)
noncomputable def O44 : Opn Try.prog 44 PA.k44 := Opn.struct (d := (Kd.pair (Kd.int .i64) (Kd.pair (Kd.int .i64) (Kd.pair (Kd.int .u64) Kd.string)))) (β := PA.S44) (fun x => (x.f0, x.f1, x.f2, x.f3)) (fun p => ⟨p.1, p.2.1, p.2.2.1, p.2.2.2⟩) (fun _ => rfl) Try.underlying44 (by kernel_rfl) (FOpn.cons rfl O3 (FOpn.cons rfl O2 (FOpn.cons rfl O42 (FOpn.last rfl O9))))
noncomputable def O46 : Opn Try.prog 46 PA.k46 := Opn.struct (d := (Kd.pair (Kd.int .i64) PA.k44)) (β := PA.S46) (fun x => (x.f0, x.f1)) (fun p => ⟨p.1, p.2⟩) (fun _ => rfl) Try.underlying46 (by kernel_rfl) (FOpn.cons rfl O3 (FOpn.last rfl O44))
noncomputable def O22 : Opn Try.prog 22 (Kd.slice 46 PA.k46) := Opn.slice Try.underlying22 (by kernel_rfl) O46
noncomputable def O51 : Opn Try.prog 51 PA.k51 := Opn.struct (d := (Kd.pair (Kd.int .i64) (Kd.pair Kd.string (Kd.pair (Kd.int .i64) (Kd.pair (Kd.int .i64) (Kd.pair (Kd.int .i64) PA.k44)))))) (β := PA.S51) (fun x => (x.f0, x.f1, x.f2, x.f3, x.f4, x.f5)) (fun p => ⟨p.1, p.2.1, p.2.2.1, p.2.2.2.1, p.2.2.2.2.1, p.2.2.2.2.2⟩) (fun _ => rfl) Try.underlying51 (by kernel_rfl) (FOpn.cons rfl O3 (FOpn.cons rfl O9 (FOpn.cons rfl O3 (FOpn.cons rfl O3 (FOpn.cons rfl O3 (FOpn.last rfl O44))))))
noncomputable def O31 : Opn Try.prog 31 (Kd.slice 51 PA.k51) := Opn.slice Try.underlying31 (by kernel_rfl) O51
set_option maxRecDepth 100000 in
theorem lifted (os : Os) (started : os.Started) (H : Type) (enc : TypeId × Value → H) :
    ReturnsInHanded {} Try.checked os 4 .any (Rows.rowFillsSpec.pre6 enc Try.prog Try.f4 Rows.rowFillsRow.domain false) (Rows.rowFillsSpec.post enc Try.prog Try.f4 false true false false) := by
  refine returnsInHanded_of_change_sized (C := Try.checked) own started (by kernel_rfl) Try.func4
    (ChangeSpec.witness6 (enc := enc) (C := Try.checked) false ⟨#[], #[.slice none 0 0, .slice none 0 0], []⟩ 8 (by kernel_rfl) (by kernel_rfl) (by kernel_rfl) (by kernel_rfl)) ?_
  intro W base args ds gs before hval0 hW hcnd hsz0 _
  have hval : ∀ (j : Nat) t v, Try.f4.params[j]? = some t → args[j]? = some v → Value.okWide Try.prog W .any base t v := hval0
  have hW' := hW
  have hsz : (DataW.weightsEach Try.prog (Try.f4.params.toList ++ Rows.rowFillsSpec.plain.varTypes Try.prog) (ds ++ gs)).all (· ≤ reachBytes) = true := hsz0
  obtain ⟨p, q, hA0, hV, rfl, hfz, hnd⟩ := hW
  have hA : DataW.TrodAll enc Try.prog W 0 (fun _ => true) true Try.f4.params.toList args.toList ds p := hA0
  rw [Try.params4] at hA hval hsz
  obtain ⟨v0, vs0, d0, ds0, p0, q0, hargs, rfl, rfl, h0, r0⟩ := trodAll_cons hA
  obtain ⟨v1, vs1, d1, ds1, p1, q1, rfl, rfl, rfl, h1, r1⟩ := trodAll_cons r0
  obtain ⟨rfl, rfl, rfl⟩ := trodAll_nil r1
  obtain rfl : args = #[v0, v1] := by cases args; simp_all
  obtain ⟨rfl, rfl⟩ := trodVars_none hV
  have k0 := h0
  have lt0 : ∀ x ∈ p0, x.block < W.heap.size := by obtain ⟨m, hm⟩ := k0; exact DataW.trod_lt m _ _ _ hm
  obtain ⟨A0, l0, c0, rfl, hc0, hC0, hg0⟩ := O22.arg_slice Try.underlying22 (hval 0 22 v0 rfl rfl) h0
  have g0 : (l0.length ≤ maxLen ∧ ∀ x ∈ l0, ((Lit.int .i64 x.f0).wf = true ∧ ((Lit.int .i64 x.f1.f0).wf = true ∧ (Lit.int .i64 x.f1.f1).wf = true ∧ (Lit.int .u64 x.f1.f2).wf = true ∧ x.f1.f3.size ≤ maxLen))) := hg0
  have b0 : l0.length * 48 ≤ 140737488351232 := by
    have z := slice_reach Try.underlying22 k0 hsz (j := 0) rfl rfl
    rw [show Try.prog.bytesOf 46 = 48 by kernel_rfl] at z
    exact z
  have k1 := h1
  have lt1 : ∀ x ∈ p1, x.block < W.heap.size := by obtain ⟨m, hm⟩ := k1; exact DataW.trod_lt m _ _ _ hm
  obtain ⟨A1, l1, c1, rfl, hc1, hC1, hg1⟩ := O31.arg_slice Try.underlying31 (hval 1 31 v1 rfl rfl) h1
  have g1 : (l1.length ≤ maxLen ∧ ∀ x ∈ l1, ((Lit.int .i64 x.f0).wf = true ∧ x.f1.size ≤ maxLen ∧ (Lit.int .i64 x.f2).wf = true ∧ (Lit.int .i64 x.f3).wf = true ∧ (Lit.int .i64 x.f4).wf = true ∧ ((Lit.int .i64 x.f5.f0).wf = true ∧ (Lit.int .i64 x.f5.f1).wf = true ∧ (Lit.int .u64 x.f5.f2).wf = true ∧ x.f5.f3.size ≤ maxLen))) := hg1
  have b1 : l1.length * 88 ≤ 140737488351232 := by
    have z := slice_reach Try.underlying31 k1 hsz (j := 1) rfl rfl
    rw [show Try.prog.bytesOf 51 = 88 by kernel_rfl] at z
    exact z
  clear hA0 hval0 hsz0 hsz
  obtain ⟨k, hf⟩ := Pure.RowFills l0 l1 g0 b0 g1 b1
  refine (PA.falseworklaw4_RowFills.calls (w := W) (h := hf) (hr0 := hC0) (hc0 := hc0) (hr1 := hC1) (hc1 := hc1)).mono fun e W' ⟨he, bel⟩ => ?_
  subst he
  exact ⟨_, rfl, _, _, _, [], _, [], hW', trodAll_mk1 (shut_bool Try.underlying4 _), (trodAll_cons_mk (Below.trod laidOut (by kernel_rfl) (of_decide_eq_true (by kernel_rfl)) k0 bel lt0) (trodAll_cons_mk (Below.trod laidOut (by kernel_rfl) (of_decide_eq_true (by kernel_rfl)) k1 bel lt1) trodAll_mk0)), rfl, bel.frame _, fun h => by cases h⟩
theorem over : Rows.rowFillsRow.holds Try.pinned (OpenSpec.ofChange Rows.rowFillsSpec) :=
  OpenClaim.holds_of_wide 4 Try.f4 rfl rfl rfl rfl rfl rfl rfl ⟨rfl, rfl, rfl, rfl, rfl⟩ rfl rfl rfl rfl rfl (by kernel_rfl) Try.func4 (by kernel_rfl)
    (of_decide_eq_true (by kernel_rfl)) (by unfold Func.isWrapper; first | (rw [if_pos (by decide +kernel)]; kernel_rfl) | (rw [if_neg (by decide +kernel)]; exact ⟨rfl, rfl⟩))
    (fun os started H enc _ => lifted os started H enc)
theorem proved : Rows.RowFillsSaid := over
#print axioms proved
end Go.Proofs.Ytebfilljdnhccaa.rowFills
namespace Go.Proofs.Ytebfilljdnhccaa
/-- The row, under a short name, for the claim. -/
theorem rowFills_holds : Rows.RowFillsSaid := rowFills.proved
end Go.Proofs.Ytebfilljdnhccaa
