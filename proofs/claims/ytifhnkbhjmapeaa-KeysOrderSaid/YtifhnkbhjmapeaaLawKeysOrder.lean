/- The statement KeysOrder: whatever the input, the call returns true, and each argument reads behind it as it read before. No condition beyond the row's own. -/
import Derived.Test.YtifhnkbhjmapeaaRows
import Derived.Test.YtifhnkbhjmapeaaKOx13
import Derived.Test.YtifhnkbhjmapeaaKOx0
import Derived.Test.YtifhnkbhjmapeaaPureKeysOrder
import Derived.Test.YtifhnkbhjmapeaaOpens
import Derived.WalkKit
import Derived.ProofKit
import Derived.OpenShut
import Derived.ShutString
import Derived.ChangeOld
import Derived.Below
import Derived.SizedLaws
namespace Go.Proofs.Ytifhnkbhjmapeaa.keysOrder
open Go.ChangeShapes Go.WideShapes Go.ChangeAt Go.RowKit Go.Proofs.YtifhnkbhjmapeaaW.PrintWords Go.Proofs.Ytifhnkbhjmapeaa.Opens
open Go.ChangeMaps (open_string shut_string)
set_option linter.unusedVariables false
theorem own : ownKnob Try.prog.godebug = none := by kernel_rfl
theorem laidOut : laidOutB Try.prog = true := by kernel_rfl
noncomputable def O3 : Opn Try.prog 3 (Kd.int .i64) := Opn.int Try.underlying3 (by kernel_rfl)
noncomputable def O2 : Opn Try.prog 2 (Kd.int .i64) := Opn.int Try.underlying2 (by kernel_rfl)
noncomputable def O22 : Opn Try.prog 22 (Kd.int .u64) := Opn.int Try.underlying22 (by kernel_rfl)
noncomputable def O9 : Opn Try.prog 9 Kd.string := Opn.string Try.underlying9 (by kernel_rfl)
noncomputable def O24 : Opn Try.prog 24 PA.k24 := Opn.struct (d := (Kd.pair (Kd.int .i64) (Kd.pair (Kd.int .i64) (Kd.pair (Kd.int .u64) Kd.string)))) (β := PA.S24) (fun x => (x.f0, x.f1, x.f2, x.f3)) (fun p => ⟨p.1, p.2.1, p.2.2.1, p.2.2.2⟩) (fun _ => rfl) Try.underlying24 (by kernel_rfl) (FOpn.cons rfl O3 (FOpn.cons rfl O2 (FOpn.cons rfl O22 (FOpn.last rfl O9))))
noncomputable def O36 : Opn Try.prog 36 (Kd.slice 24 PA.k24) := Opn.slice Try.underlying36 (by kernel_rfl) O24
set_option maxRecDepth 100000 in
theorem lifted (os : Os) (started : os.Started) (H : Type) (enc : TypeId × Value → H) :
    ReturnsInHanded {} Try.checked os 5 .any (Rows.keysOrderSpec.pre6 enc Try.prog Try.f5 Rows.keysOrderRow.domain false) (Rows.keysOrderSpec.post enc Try.prog Try.f5 false true false false) := by
  refine returnsInHanded_of_change_sized (C := Try.checked) own started (by kernel_rfl) Try.func5
    (ChangeSpec.witness6 (enc := enc) (C := Try.checked) false ⟨#[], #[.slice none 0 0, .slice none 0 0, .agg #[.int .i64 0, .int .i64 0, .int .u64 0, .string ByteArray.empty], .agg #[.int .i64 0, .int .i64 0, .int .u64 0, .string ByteArray.empty]], []⟩ 8 (by kernel_rfl) (by kernel_rfl) (by kernel_rfl) (by kernel_rfl)) ?_
  intro W base args ds gs before hval0 hW hcnd hsz0 _
  have hval : ∀ (j : Nat) t v, Try.f5.params[j]? = some t → args[j]? = some v → Value.okWide Try.prog W .any base t v := hval0
  have hW' := hW
  obtain ⟨p, q, hA0, hV, rfl, hfz, hnd⟩ := hW
  have hA : DataW.TrodAll enc Try.prog W 0 (fun _ => true) true Try.f5.params.toList args.toList ds p := hA0
  rw [Try.params5] at hA hval
  obtain ⟨v0, vs0, d0, ds0, p0, q0, hargs, rfl, rfl, h0, r0⟩ := trodAll_cons hA
  obtain ⟨v1, vs1, d1, ds1, p1, q1, rfl, rfl, rfl, h1, r1⟩ := trodAll_cons r0
  obtain ⟨v2, vs2, d2, ds2, p2, q2, rfl, rfl, rfl, h2, r2⟩ := trodAll_cons r1
  obtain ⟨v3, vs3, d3, ds3, p3, q3, rfl, rfl, rfl, h3, r3⟩ := trodAll_cons r2
  obtain ⟨rfl, rfl, rfl⟩ := trodAll_nil r3
  obtain rfl : args = #[v0, v1, v2, v3] := by cases args; simp_all
  obtain ⟨rfl, rfl⟩ := trodVars_none hV
  have k0 := h0
  have lt0 : ∀ x ∈ p0, x.block < W.heap.size := by obtain ⟨m, hm⟩ := k0; exact DataW.trod_lt m _ _ _ hm
  obtain ⟨A0, l0, c0, rfl, hc0, hC0, hg0⟩ := O36.arg_slice Try.underlying36 (hval 0 36 v0 rfl rfl) h0
  have g0 : (l0.length ≤ maxLen ∧ ∀ x ∈ l0, ((Lit.int .i64 x.f0).wf = true ∧ (Lit.int .i64 x.f1).wf = true ∧ (Lit.int .u64 x.f2).wf = true ∧ x.f3.size ≤ maxLen)) := hg0
  have k1 := h1
  have lt1 : ∀ x ∈ p1, x.block < W.heap.size := by obtain ⟨m, hm⟩ := k1; exact DataW.trod_lt m _ _ _ hm
  obtain ⟨A1, l1, c1, rfl, hc1, hC1, hg1⟩ := O36.arg_slice Try.underlying36 (hval 1 36 v1 rfl rfl) h1
  have g1 : (l1.length ≤ maxLen ∧ ∀ x ∈ l1, ((Lit.int .i64 x.f0).wf = true ∧ (Lit.int .i64 x.f1).wf = true ∧ (Lit.int .u64 x.f2).wf = true ∧ x.f3.size ≤ maxLen)) := hg1
  have k2 := h2
  have lt2 : ∀ x ∈ p2, x.block < W.heap.size := by obtain ⟨m, hm⟩ := k2; exact DataW.trod_lt m _ _ _ hm
  obtain ⟨cs2, x2, rfl, hk2, hg2⟩ := O24.arg_struct Try.underlying24 (hval 2 24 v2 rfl rfl) h2
  have g2 : ((Lit.int .i64 x2.f0).wf = true ∧ (Lit.int .i64 x2.f1).wf = true ∧ (Lit.int .u64 x2.f2).wf = true ∧ x2.f3.size ≤ maxLen) := hg2
  obtain ⟨c2_0, s2_0, e2_0, q2_0, m2_0⟩ := hk2
  have z2_0 := (show c2_0 = [.int .i64 (x2.f0)] from q2_0)
  obtain ⟨c2_1, s2_1, e2_1, q2_1, m2_1⟩ := m2_0
  have z2_1 := (show c2_1 = [.int .i64 (x2.f1)] from q2_1)
  obtain ⟨c2_2, s2_2, e2_2, q2_2, m2_2⟩ := m2_1
  have z2_2 := (show c2_2 = [.int .u64 (x2.f2)] from q2_2)
  have z2_3 := (show s2_2 = [.string (x2.f3)] from m2_2)
  obtain rfl : cs2 = #[.int .i64 (x2.f0), .int .i64 (x2.f1), .int .u64 (x2.f2), .string (x2.f3)] := by rw [← Array.toList_inj]; rw [e2_0, z2_0, e2_1, z2_1, e2_2, z2_2, z2_3]; rfl
  have k3 := h3
  have lt3 : ∀ x ∈ p3, x.block < W.heap.size := by obtain ⟨m, hm⟩ := k3; exact DataW.trod_lt m _ _ _ hm
  obtain ⟨cs3, x3, rfl, hk3, hg3⟩ := O24.arg_struct Try.underlying24 (hval 3 24 v3 rfl rfl) h3
  have g3 : ((Lit.int .i64 x3.f0).wf = true ∧ (Lit.int .i64 x3.f1).wf = true ∧ (Lit.int .u64 x3.f2).wf = true ∧ x3.f3.size ≤ maxLen) := hg3
  obtain ⟨c3_0, s3_0, e3_0, q3_0, m3_0⟩ := hk3
  have z3_0 := (show c3_0 = [.int .i64 (x3.f0)] from q3_0)
  obtain ⟨c3_1, s3_1, e3_1, q3_1, m3_1⟩ := m3_0
  have z3_1 := (show c3_1 = [.int .i64 (x3.f1)] from q3_1)
  obtain ⟨c3_2, s3_2, e3_2, q3_2, m3_2⟩ := m3_1
  have z3_2 := (show c3_2 = [.int .u64 (x3.f2)] from q3_2)
  have z3_3 := (show s3_2 = [.string (x3.f3)] from m3_2)
  obtain rfl : cs3 = #[.int .i64 (x3.f0), .int .i64 (x3.f1), .int .u64 (x3.f2), .string (x3.f3)] := by rw [← Array.toList_inj]; rw [e3_0, z3_0, e3_1, z3_1, e3_2, z3_2, z3_3]; rfl
  clear hA0 hval0 hsz0
  obtain ⟨k, hf⟩ := Pure.KeysOrder l0 l1 (x2.f0) (x2.f1) (x2.f2) (x2.f3) (x3.f0) (x3.f1) (x3.f2) (x3.f3) g0 g1 g2 g3
  refine (PA.falseworklaw21_KeysOrder.calls (w := W) (h := hf) (hr0 := hC0) (hc0 := hc0) (hr1 := hC1) (hc1 := hc1)).mono fun e W' ⟨he, bel⟩ => ?_
  subst he
  exact ⟨_, rfl, _, _, _, [], _, [], hW', trodAll_mk1 (shut_bool Try.underlying4 _), (trodAll_cons_mk (Below.trod laidOut (by kernel_rfl) (of_decide_eq_true (by kernel_rfl)) k0 bel lt0) (trodAll_cons_mk (Below.trod laidOut (by kernel_rfl) (of_decide_eq_true (by kernel_rfl)) k1 bel lt1) (trodAll_cons_mk (Below.trod laidOut (by kernel_rfl) (of_decide_eq_true (by kernel_rfl)) k2 bel lt2) (trodAll_cons_mk (Below.trod laidOut (by kernel_rfl) (of_decide_eq_true (by kernel_rfl)) k3 bel lt3) trodAll_mk0)))), rfl, bel.frame _, fun h => by cases h⟩
theorem over : Rows.keysOrderRow.holds Try.pinned (OpenSpec.ofChange Rows.keysOrderSpec) :=
  OpenClaim.holds_of_wide 5 Try.f5 rfl rfl rfl rfl rfl rfl rfl ⟨rfl, rfl, rfl, rfl, rfl⟩ rfl rfl rfl rfl rfl (by kernel_rfl) Try.func5 (by kernel_rfl)
    (of_decide_eq_true (by kernel_rfl)) (by unfold Func.isWrapper; first | (rw [if_pos (by decide +kernel)]; kernel_rfl) | (rw [if_neg (by decide +kernel)]; exact ⟨rfl, rfl⟩))
    (fun os started H enc _ => lifted os started H enc)
theorem proved : Rows.KeysOrderSaid := over
#print axioms proved
end Go.Proofs.Ytifhnkbhjmapeaa.keysOrder
namespace Go.Proofs.Ytifhnkbhjmapeaa
/-- The row, under a short name, for the claim. -/
theorem keysOrder_holds : Rows.KeysOrderSaid := keysOrder.proved
end Go.Proofs.Ytifhnkbhjmapeaa
