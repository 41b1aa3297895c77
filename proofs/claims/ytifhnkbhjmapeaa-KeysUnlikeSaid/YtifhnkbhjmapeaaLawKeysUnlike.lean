/- The statement KeysUnlike: whatever the input, the call returns true, and each argument reads behind it as it read before. No condition beyond the row's own. -/
import Derived.Test.YtifhnkbhjmapeaaRows
import Derived.Test.YtifhnkbhjmapeaaKUx9
import Derived.Test.YtifhnkbhjmapeaaKUx0
import Derived.Test.YtifhnkbhjmapeaaPureKeysUnlike
import Derived.Test.YtifhnkbhjmapeaaOpens
import Derived.WalkKit
import Derived.ProofKit
import Derived.OpenShut
import Derived.ShutString
import Derived.ChangeOld
import Derived.Below
import Derived.SizedLaws
namespace Go.Proofs.Ytifhnkbhjmapeaa.keysUnlike
open Go.ChangeShapes Go.WideShapes Go.ChangeAt Go.RowKit Go.Proofs.YtifhnkbhjmapeaaW.PrintWords Go.Proofs.Ytifhnkbhjmapeaa.Opens
open Go.ChangeMaps (open_string shut_string)
set_option linter.unusedVariables false
theorem own : ownKnob Try.prog.godebug = none := by kernel_rfl
theorem laidOut : laidOutB Try.prog = true := by kernel_rfl
noncomputable def O3 : Opn Try.prog 3 (Kd.int .i64) := Opn.int Try.underlying3 (by kernel_rfl)
noncomputable def O2 : Opn Try.prog 2 (Kd.int .i64) := Opn.int Try.underlying2 (by kernel_rfl)
noncomputable def O22 : Opn Try.prog 22 (Kd.int .u64) := Opn.int Try.underlying22 (by kernel_rfl)
noncomputable def O9 : Opn Try.prog 9 Kd.string := Opn.string Try.underlying9 (by kernel_rfl)
noncomputable def O24 : Opn Try.prog 24 PA.k24 := Opn.struct (d := (Kd.pair (Kd.int .i64) (Kd.pair (Kd.int .i64) (Kd.pair (Kd.int .u64) Kd.string)))) (β := PA.S24) (fun x => (x.f0, x.f1, x.f2, x.f3)) (fun p => ⟨p.1, p.2.1, p.2.2.1, p.2.2.2⟩) (fun _ => rfl) Try.underlying24 (by kernel_rfl) (FOpn.cons rfl O3 (FOpn.cons rfl O2 (FOpn.cons rfl O22 (FOpn.last rfl O9))))
noncomputable def O36 : Opn Try.prog 36 (Kd.slice 24 PA.k24) := Opn.slice Try.underlying36 (by kernel_rfl) O24
set_option maxRecDepth 100000 in
theorem lifted (os : Os) (started : os.Started) (H : Type) (enc : TypeId × Value → H) :
    ReturnsInHanded {} Try.checked os 4 .any (Rows.keysUnlikeSpec.pre6 enc Try.prog Try.f4 Rows.keysUnlikeRow.domain false) (Rows.keysUnlikeSpec.post enc Try.prog Try.f4 false true false false) := by
  refine returnsInHanded_of_change_sized (C := Try.checked) own started (by kernel_rfl) Try.func4
    (ChangeSpec.witness6 (enc := enc) (C := Try.checked) false ⟨#[], #[.bool false, .slice none 0 0, .slice none 0 0, .agg #[.int .i64 0, .int .i64 0, .int .u64 0, .string ByteArray.empty], .agg #[.int .i64 0, .int .i64 0, .int .u64 0, .string ByteArray.empty]], []⟩ 8 (by kernel_rfl) (by kernel_rfl) (by kernel_rfl) (by kernel_rfl)) ?_
  intro W base args ds gs before hval0 hW hcnd hsz0 _
  have hval : ∀ (j : Nat) t v, Try.f4.params[j]? = some t → args[j]? = some v → Value.okWide Try.prog W .any base t v := hval0
  have hW' := hW
  obtain ⟨p, q, hA0, hV, rfl, hfz, hnd⟩ := hW
  have hA : DataW.TrodAll enc Try.prog W 0 (fun _ => true) true Try.f4.params.toList args.toList ds p := hA0
  rw [Try.params4] at hA hval
  obtain ⟨v0, vs0, d0, ds0, p0, q0, hargs, rfl, rfl, h0, r0⟩ := trodAll_cons hA
  obtain ⟨v1, vs1, d1, ds1, p1, q1, rfl, rfl, rfl, h1, r1⟩ := trodAll_cons r0
  obtain ⟨v2, vs2, d2, ds2, p2, q2, rfl, rfl, rfl, h2, r2⟩ := trodAll_cons r1
  obtain ⟨v3, vs3, d3, ds3, p3, q3, rfl, rfl, rfl, h3, r3⟩ := trodAll_cons r2
  obtain ⟨v4, vs4, d4, ds4, p4, q4, rfl, rfl, rfl, h4, r4⟩ := trodAll_cons r3
  obtain ⟨rfl, rfl, rfl⟩ := trodAll_nil r4
  obtain rfl : args = #[v0, v1, v2, v3, v4] := by cases args; simp_all
  obtain ⟨rfl, rfl⟩ := trodVars_none hV
  have k0 := h0
  have lt0 : ∀ x ∈ p0, x.block < W.heap.size := by obtain ⟨m, hm⟩ := k0; exact DataW.trod_lt m _ _ _ hm
  obtain ⟨a0, rfl, -, -⟩ := open_bool Try.underlying4 (hval 0 4 v0 rfl rfl) h0
  have k1 := h1
  have lt1 : ∀ x ∈ p1, x.block < W.heap.size := by obtain ⟨m, hm⟩ := k1; exact DataW.trod_lt m _ _ _ hm
  obtain ⟨A1, l1, c1, rfl, hc1, hC1, hg1⟩ := O36.arg_slice Try.underlying36 (hval 1 36 v1 rfl rfl) h1
  have g1 : (l1.length ≤ maxLen ∧ ∀ x ∈ l1, ((Lit.int .i64 x.f0).wf = true ∧ (Lit.int .i64 x.f1).wf = true ∧ (Lit.int .u64 x.f2).wf = true ∧ x.f3.size ≤ maxLen)) := hg1
  have k2 := h2
  have lt2 : ∀ x ∈ p2, x.block < W.heap.size := by obtain ⟨m, hm⟩ := k2; exact DataW.trod_lt m _ _ _ hm
  obtain ⟨A2, l2, c2, rfl, hc2, hC2, hg2⟩ := O36.arg_slice Try.underlying36 (hval 2 36 v2 rfl rfl) h2
  have g2 : (l2.length ≤ maxLen ∧ ∀ x ∈ l2, ((Lit.int .i64 x.f0).wf = true ∧ (Lit.int .i64 x.f1).wf = true ∧ (Lit.int .u64 x.f2).wf = true ∧ x.f3.size ≤ maxLen)) := hg2
  have k3 := h3
  have lt3 : ∀ x ∈ p3, x.block < W.heap.size := by obtain ⟨m, hm⟩ := k3; exact DataW.trod_lt m _ _ _ hm
  obtain ⟨cs3, x3, rfl, hk3, hg3⟩ := O24.arg_struct Try.underlying24 (hval 3 24 v3 rfl rfl) h3
  have g3 : ((Lit.int .i64 x3.f0).wf = true ∧ (Lit.int .i64 x3.f1).wf = true ∧ (Lit.int .u64 x3.f2).wf = true ∧ x3.f3.size ≤ maxLen) := hg3
  obtain ⟨c3_0, s3_0, e3_0, q3_0, m3_0⟩ := hk3
  have z3_0 := (show c3_0 = [.int .i64 (x3.f0)] from q3_0)
  obtain ⟨c3_1, s3_1, e3_1, q3_1, m3_1⟩ := m3_0
  have z3_1 := (show c3_1 = [.int .i64 (x3.f1)] from q3_1)
  obtain ⟨c3_2, s3_2, e3_2, q3_2, m3_2⟩ := m3_1
  have z3_2 := (show c3_2 = [.int .u64 (x3.f2)] from q3_2)
  have z3_3 := (show s3_2 = [.string (x3.f3)] from m3_2)
  obtain rfl : cs3 = #[.int .i64 (x3.f0), .int .i64 (x3.f1), .int .u64 (x3.f2), .string (x3.f3)] := by rw [← Array.toList_inj]; rw [e3_0, z3_0, e3_1, z3_1, e3_2, z3_2, z3_3]; rfl
  have k4 := h4
  have lt4 : ∀ x ∈ p4, x.block < W.heap.size := by obtain ⟨m, hm⟩ := k4; exact DataW.trod_lt m _ _ _ hm
  obtain ⟨cs4, x4, rfl, hk4, hg4⟩ := O24.arg_struct Try.underlying24 (hval 4 24 v4 rfl rfl) h4
  have g4 : ((Lit.int .i64 x4.f0).wf = true ∧ (Lit.int .i64 x4.f1).wf = true ∧ (Lit.int .u64 x4.f2).wf = true ∧ x4.f3.size ≤ maxLen) := hg4
  obtain ⟨c4_0, s4_0, e4_0, q4_0, m4_0⟩ := hk4
  have z4_0 := (show c4_0 = [.int .i64 (x4.f0)] from q4_0)
  obtain ⟨c4_1, s4_1, e4_1, q4_1, m4_1⟩ := m4_0
  have z4_1 := (show c4_1 = [.int .i64 (x4.f1)] from q4_1)
  obtain ⟨c4_2, s4_2, e4_2, q4_2, m4_2⟩ := m4_1
  have z4_2 := (show c4_2 = [.int .u64 (x4.f2)] from q4_2)
  have z4_3 := (show s4_2 = [.string (x4.f3)] from m4_2)
  obtain rfl : cs4 = #[.int .i64 (x4.f0), .int .i64 (x4.f1), .int .u64 (x4.f2), .string (x4.f3)] := by rw [← Array.toList_inj]; rw [e4_0, z4_0, e4_1, z4_1, e4_2, z4_2, z4_3]; rfl
  clear hA0 hval0 hsz0
  obtain ⟨k, hf⟩ := Pure.KeysUnlike a0 l1 l2 (x3.f0) (x3.f1) (x3.f2) (x3.f3) (x4.f0) (x4.f1) (x4.f2) (x4.f3) g1 g2 g3 g4
  refine (PA.falseworklaw21_KeysUnlike.calls (w := W) (h := hf) (hr1 := hC1) (hc1 := hc1) (hr2 := hC2) (hc2 := hc2)).mono fun e W' ⟨he, bel⟩ => ?_
  subst he
  exact ⟨_, rfl, _, _, _, [], _, [], hW', trodAll_mk1 (shut_bool Try.underlying4 _), (trodAll_cons_mk (Below.trod laidOut (by kernel_rfl) (of_decide_eq_true (by kernel_rfl)) k0 bel lt0) (trodAll_cons_mk (Below.trod laidOut (by kernel_rfl) (of_decide_eq_true (by kernel_rfl)) k1 bel lt1) (trodAll_cons_mk (Below.trod laidOut (by kernel_rfl) (of_decide_eq_true (by kernel_rfl)) k2 bel lt2) (trodAll_cons_mk (Below.trod laidOut (by kernel_rfl) (of_decide_eq_true (by kernel_rfl)) k3 bel lt3) (trodAll_cons_mk (Below.trod laidOut (by kernel_rfl) (of_decide_eq_true (by kernel_rfl)) k4 bel lt4) trodAll_mk0))))), rfl, bel.frame _, fun h => by cases h⟩
theorem over : Rows.keysUnlikeRow.holds Try.pinned (OpenSpec.ofChange Rows.keysUnlikeSpec) :=
  OpenClaim.holds_of_wide 4 Try.f4 rfl rfl rfl rfl rfl rfl rfl ⟨rfl, rfl, rfl, rfl, rfl⟩ rfl rfl rfl rfl rfl (by kernel_rfl) Try.func4 (by kernel_rfl)
    (of_decide_eq_true (by kernel_rfl)) (by unfold Func.isWrapper; first | (rw [if_pos (by decide +kernel)]; kernel_rfl) | (rw [if_neg (by decide +kernel)]; exact ⟨rfl, rfl⟩))
    (fun os started H enc _ => lifted os started H enc)
theorem proved : Rows.KeysUnlikeSaid := over
#print axioms proved
end Go.Proofs.Ytifhnkbhjmapeaa.keysUnlike
namespace Go.Proofs.Ytifhnkbhjmapeaa
/-- The row, under a short name, for the claim. -/
theorem keysUnlike_holds : Rows.KeysUnlikeSaid := keysUnlike.proved
end Go.Proofs.Ytifhnkbhjmapeaa
