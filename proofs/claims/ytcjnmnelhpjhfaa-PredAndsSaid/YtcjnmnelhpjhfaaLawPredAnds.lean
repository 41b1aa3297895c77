/- The statement PredAnds: whatever the input, the call returns true, and each argument reads behind it as it read before. No condition beyond the row's own. -/
import Derived.Test.YtcjnmnelhpjhfaaRows
import Derived.Test.YtcjnmnelhpjhfaaPNx10
import Derived.Test.YtcjnmnelhpjhfaaPNx0
import Derived.Test.YtcjnmnelhpjhfaaPurePredAnds
import Derived.Test.YtcjnmnelhpjhfaaOpens
import Derived.WalkKit
import Derived.ProofKit
import Derived.OpenShut
import Derived.ShutString
import Derived.ChangeOld
import Derived.Below
import Derived.SizedLaws
namespace Go.Proofs.Ytcjnmnelhpjhfaa.predAnds
open Go.ChangeShapes Go.WideShapes Go.ChangeAt Go.RowKit Go.Proofs.YtcjnmnelhpjhfaaW.PrintWords Go.Proofs.Ytcjnmnelhpjhfaa.Opens
open Go.ChangeMaps (open_string shut_string)
set_option linter.unusedVariables false
theorem own : ownKnob Try.prog.godebug = none := by kernel_rfl
theorem laidOut : laidOutB Try.prog = true := by kernel_rfl
noncomputable def O3 : Opn Try.prog 3 (Kd.int .i64) := Opn.int Try.underlying3 (by kernel_rfl)
noncomputable def O9 : Opn Try.prog 9 Kd.string := Opn.string Try.underlying9 (by kernel_rfl)
noncomputable def O2 : Opn Try.prog 2 (Kd.int .i64) := Opn.int Try.underlying2 (by kernel_rfl)
noncomputable def O38 : Opn Try.prog 38 (Kd.int .u64) := Opn.int Try.underlying38 (by kernel_rfl)
noncomputable def O40 : Opn Try.prog 40 PA.k40 := Opn.struct (d := (Kd.pair (Kd.int .i64) (Kd.pair (Kd.int .i64) (Kd.pair (Kd.int .u64) Kd.string)))) (β := PA.S40) (fun x => (x.f0, x.f1, x.f2, x.f3)) (fun p => ⟨p.1, p.2.1, p.2.2.1, p.2.2.2⟩) (fun _ => rfl) Try.underlying40 (by kernel_rfl) (FOpn.cons rfl O3 (FOpn.cons rfl O2 (FOpn.cons rfl O38 (FOpn.last rfl O9))))
noncomputable def O51 : Opn Try.prog 51 PA.k51 := Opn.struct (d := (Kd.pair (Kd.int .i64) (Kd.pair Kd.string (Kd.pair (Kd.int .i64) (Kd.pair (Kd.int .i64) (Kd.pair (Kd.int .i64) PA.k40)))))) (β := PA.S51) (fun x => (x.f0, x.f1, x.f2, x.f3, x.f4, x.f5)) (fun p => ⟨p.1, p.2.1, p.2.2.1, p.2.2.2.1, p.2.2.2.2.1, p.2.2.2.2.2⟩) (fun _ => rfl) Try.underlying51 (by kernel_rfl) (FOpn.cons rfl O3 (FOpn.cons rfl O9 (FOpn.cons rfl O3 (FOpn.cons rfl O3 (FOpn.cons rfl O3 (FOpn.last rfl O40))))))
noncomputable def O22 : Opn Try.prog 22 (Kd.slice 51 PA.k51) := Opn.slice Try.underlying22 (by kernel_rfl) O51
noncomputable def O31 : Opn Try.prog 31 (Kd.slice 40 PA.k40) := Opn.slice Try.underlying31 (by kernel_rfl) O40
noncomputable def O43 : Opn Try.prog 43 PA.k43 := Opn.struct (d := (Kd.pair Kd.string (Kd.pair (Kd.int .i64) PA.k40))) (β := PA.S43) (fun x => (x.f0, x.f1, x.f2)) (fun p => ⟨p.1, p.2.1, p.2.2⟩) (fun _ => rfl) Try.underlying43 (by kernel_rfl) (FOpn.cons rfl O9 (FOpn.cons rfl O3 (FOpn.last rfl O40)))
noncomputable def O23 : Opn Try.prog 23 (Kd.slice 43 PA.k43) := Opn.slice Try.underlying23 (by kernel_rfl) O43
set_option maxRecDepth 100000 in
theorem lifted (os : Os) (started : os.Started) (H : Type) (enc : TypeId × Value → H) :
    ReturnsInHanded {} Try.checked os 5 .any (Rows.predAndsSpec.pre6 enc Try.prog Try.f5 Rows.predAndsRow.domain false) (Rows.predAndsSpec.post enc Try.prog Try.f5 false true false false) := by
  refine returnsInHanded_of_change_sized (C := Try.checked) own started (by kernel_rfl) Try.func5
    (ChangeSpec.witness6 (enc := enc) (C := Try.checked) false ⟨#[], #[.slice none 0 0, .slice none 0 0, .slice none 0 0, .slice none 0 0], []⟩ 8 (by kernel_rfl) (by kernel_rfl) (by kernel_rfl) (by kernel_rfl)) ?_
  intro W base args ds gs before hval0 hW hcnd hsz0 _
  have hval : ∀ (j : Nat) t v, Try.f5.params[j]? = some t → args[j]? = some v → Value.okWide Try.prog W .any base t v := hval0
  have hW' := hW
  have hsz : (DataW.weightsEach Try.prog (Try.f5.params.toList ++ Rows.predAndsSpec.plain.varTypes Try.prog) (ds ++ gs)).all (· ≤ reachBytes) = true := hsz0
  obtain ⟨p, q, hA0, hV, rfl, hfz, hnd⟩ := hW
  have hA : DataW.TrodAll enc Try.prog W 0 (fun _ => true) true Try.f5.params.toList args.toList ds p := hA0
  rw [Try.params5] at hA hval hsz
  obtain ⟨v0, vs0, d0, ds0, p0, q0, hargs, rfl, rfl, h0, r0⟩ := trodAll_cons hA
  obtain ⟨v1, vs1, d1, ds1, p1, q1, rfl, rfl, rfl, h1, r1⟩ := trodAll_cons r0
  obtain ⟨v2, vs2, d2, ds2, p2, q2, rfl, rfl, rfl, h2, r2⟩ := trodAll_cons r1
  obtain ⟨v3, vs3, d3, ds3, p3, q3, rfl, rfl, rfl, h3, r3⟩ := trodAll_cons r2
  obtain ⟨rfl, rfl, rfl⟩ := trodAll_nil r3
  obtain rfl : args = #[v0, v1, v2, v3] := by cases args; simp_all
  obtain ⟨rfl, rfl⟩ := trodVars_none hV
  have k0 := h0
  have lt0 : ∀ x ∈ p0, x.block < W.heap.size := by obtain ⟨m, hm⟩ := k0; exact DataW.trod_lt m _ _ _ hm
  obtain ⟨A0, l0, c0, rfl, hc0, hC0, hg0⟩ := O22.arg_slice Try.underlying22 (hval 0 22 v0 rfl rfl) h0
  have g0 : (l0.length ≤ maxLen ∧ ∀ x ∈ l0, ((Lit.int .i64 x.f0).wf = true ∧ x.f1.size ≤ maxLen ∧ (Lit.int .i64 x.f2).wf = true ∧ (Lit.int .i64 x.f3).wf = true ∧ (Lit.int .i64 x.f4).wf = true ∧ ((Lit.int .i64 x.f5.f0).wf = true ∧ (Lit.int .i64 x.f5.f1).wf = true ∧ (Lit.int .u64 x.f5.f2).wf = true ∧ x.f5.f3.size ≤ maxLen))) := hg0
  have b0 : l0.length * 88 ≤ 140737488351232 := by
    have z := slice_reach Try.underlying22 k0 hsz (j := 0) rfl rfl
    rw [show Try.prog.bytesOf 51 = 88 by kernel_rfl] at z
    exact z
  have k1 := h1
  have lt1 : ∀ x ∈ p1, x.block < W.heap.size := by obtain ⟨m, hm⟩ := k1; exact DataW.trod_lt m _ _ _ hm
  obtain ⟨A1, l1, c1, rfl, hc1, hC1, hg1⟩ := O31.arg_slice Try.underlying31 (hval 1 31 v1 rfl rfl) h1
  have g1 : (l1.length ≤ maxLen ∧ ∀ x ∈ l1, ((Lit.int .i64 x.f0).wf = true ∧ (Lit.int .i64 x.f1).wf = true ∧ (Lit.int .u64 x.f2).wf = true ∧ x.f3.size ≤ maxLen)) := hg1
  have b1 : l1.length * 40 ≤ 140737488351232 := by
    have z := slice_reach Try.underlying31 k1 hsz (j := 1) rfl rfl
    rw [show Try.prog.bytesOf 40 = 40 by kernel_rfl] at z
    exact z
  have k2 := h2
  have lt2 : ∀ x ∈ p2, x.block < W.heap.size := by obtain ⟨m, hm⟩ := k2; exact DataW.trod_lt m _ _ _ hm
  obtain ⟨A2, l2, c2, rfl, hc2, hC2, hg2⟩ := O23.arg_slice Try.underlying23 (hval 2 23 v2 rfl rfl) h2
  have g2 : (l2.length ≤ maxLen ∧ ∀ x ∈ l2, (x.f0.size ≤ maxLen ∧ (Lit.int .i64 x.f1).wf = true ∧ ((Lit.int .i64 x.f2.f0).wf = true ∧ (Lit.int .i64 x.f2.f1).wf = true ∧ (Lit.int .u64 x.f2.f2).wf = true ∧ x.f2.f3.size ≤ maxLen))) := hg2
  have b2 : l2.length * 64 ≤ 140737488351232 := by
    have z := slice_reach Try.underlying23 k2 hsz (j := 2) rfl rfl
    rw [show Try.prog.bytesOf 43 = 64 by kernel_rfl] at z
    exact z
  have k3 := h3
  have lt3 : ∀ x ∈ p3, x.block < W.heap.size := by obtain ⟨m, hm⟩ := k3; exact DataW.trod_lt m _ _ _ hm
  obtain ⟨A3, l3, c3, rfl, hc3, hC3, hg3⟩ := O23.arg_slice Try.underlying23 (hval 3 23 v3 rfl rfl) h3
  have g3 : (l3.length ≤ maxLen ∧ ∀ x ∈ l3, (x.f0.size ≤ maxLen ∧ (Lit.int .i64 x.f1).wf = true ∧ ((Lit.int .i64 x.f2.f0).wf = true ∧ (Lit.int .i64 x.f2.f1).wf = true ∧ (Lit.int .u64 x.f2.f2).wf = true ∧ x.f2.f3.size ≤ maxLen))) := hg3
  have b3 : l3.length * 64 ≤ 140737488351232 := by
    have z := slice_reach Try.underlying23 k3 hsz (j := 3) rfl rfl
    rw [show Try.prog.bytesOf 43 = 64 by kernel_rfl] at z
    exact z
  clear hA0 hval0 hsz0 hsz
  obtain ⟨k, hf⟩ := Pure.PredAnds l0 l1 l2 l3 g0 b0 g1 b1 g2 b2 g3 b3
  refine (PA.falseworklaw18_PredAnds.calls (w := W) (h := hf) (hr0 := hC0) (hc0 := hc0) (hr1 := hC1) (hc1 := hc1) (hr2 := hC2) (hc2 := hc2) (hr3 := hC3) (hc3 := hc3)).mono fun e W' ⟨he, bel⟩ => ?_
  subst he
  exact ⟨_, rfl, _, _, _, [], _, [], hW', trodAll_mk1 (shut_bool Try.underlying4 _), (trodAll_cons_mk (Below.trod laidOut (by kernel_rfl) (of_decide_eq_true (by kernel_rfl)) k0 bel lt0) (trodAll_cons_mk (Below.trod laidOut (by kernel_rfl) (of_decide_eq_true (by kernel_rfl)) k1 bel lt1) (trodAll_cons_mk (Below.trod laidOut (by kernel_rfl) (of_decide_eq_true (by kernel_rfl)) k2 bel lt2) (trodAll_cons_mk (Below.trod laidOut (by kernel_rfl) (of_decide_eq_true (by kernel_rfl)) k3 bel lt3) trodAll_mk0)))), rfl, bel.frame _, fun h => by cases h⟩
theorem over : Rows.predAndsRow.holds Try.pinned (OpenSpec.ofChange Rows.predAndsSpec) :=
  OpenClaim.holds_of_wide 5 Try.f5 rfl rfl rfl rfl rfl rfl rfl ⟨rfl, rfl, rfl, rfl, rfl⟩ rfl rfl rfl rfl rfl (by kernel_rfl) Try.func5 (by kernel_rfl)
    (of_decide_eq_true (by kernel_rfl)) (by unfold Func.isWrapper; first | (rw [if_pos (by decide +kernel)]; kernel_rfl) | (rw [if_neg (by decide +kernel)]; exact ⟨rfl, rfl⟩))
    (fun os started H enc _ => lifted os started H enc)
theorem proved : Rows.PredAndsSaid := over
#print axioms proved
end Go.Proofs.Ytcjnmnelhpjhfaa.predAnds
namespace Go.Proofs.Ytcjnmnelhpjhfaa
/-- The row, under a short name, for the claim. -/
theorem predAnds_holds : Rows.PredAndsSaid := predAnds.proved
end Go.Proofs.Ytcjnmnelhpjhfaa
