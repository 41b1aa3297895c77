/- The statement RowTurns: whatever the input, the call returns true, and each argument reads behind it as it read before. No condition beyond the row's own. -/
import Derived.Test.YtebfilljdnhccaaRows
import Derived.Test.YtebfilljdnhccaaRTx10
import Derived.Test.YtebfilljdnhccaaRTx0
import Derived.Test.YtebfilljdnhccaaPureRowTurns
import Derived.Test.YtebfilljdnhccaaOpens
import Derived.WalkKit
import Derived.ProofKit
import Derived.OpenShut
import Derived.ShutString
import Derived.ChangeOld
import Derived.Below
import Derived.SizedLaws
namespace Go.Proofs.Ytebfilljdnhccaa.rowTurns
open Go.ChangeShapes Go.WideShapes Go.ChangeAt Go.RowKit Go.Proofs.YtebfilljdnhccaaW.PrintWords Go.Proofs.Ytebfilljdnhccaa.Opens
open Go.ChangeMaps (open_string shut_string)
set_option linter.unusedVariables false
theorem own : ownKnob Try.prog.godebug = none := by kernel_rfl
theorem laidOut : laidOutB Try.prog = true := by kernel_rfl
noncomputable def O3 : Opn Try.prog 3 (Kd.int .i64) := Opn.int Try.underlying3 (by kernel_rfl)
noncomputable def O2 : Opn Try.prog 2 (Kd.int .i64) := Opn.int Try.underlying2 (by kernel_rfl)
noncomputable def O42 : Opn Try.prog 42 (Kd.int .u64) := Opn.int Try.underlying42 (by kernel_rfl)
noncomputable def O9 : Opn Try.prog 9 Kd.string := Opn.string Try.underlying9 (by kernel_rfl)
noncomputable def O44 : Opn Try.prog 44 PA.k44 := Opn.struct (d := (Kd.pair (Kd.int .i64) (Kd.pair (Kd.int .i64) (Kd.pair (Kd.int .u64) Kd.string)))) (β := PA.S44) (fun x => (x.f0, x.f1, x.f2, x.f3)) (fun p => ⟨p.1, p.2.1, p.2.2.1, p.2.2.2⟩) (fun _ => rfl) Try.underlying44 (by kernel_rfl) (FOpn.cons rfl O3 (FOpn.cons rfl O2 (FOpn.cons rfl O42 (FOpn.last rfl O9))))
noncomputable def O46 : Opn Try.prog 46 PA.k46 := Opn.struct (d := (Kd.pair (Kd.int .i64) PA.k44)) (β := PA.S46) (fun x => (x.f0, x.f1)) (fun p => ⟨p.1, p.2⟩) (fun _ => rfl) Try.underlying46 (by kernel_rfl) (FOpn.cons rfl O3 (FOpn.last rfl O44))
noncomputable def O22 : Opn Try.prog 22 (Kd.slice 46 PA.k46) := Opn.slice Try.underlying22 (by kernel_rfl) O46
noncomputable def O51 : Opn Try.prog 51 PA.k51 := Opn.struct (d := (Kd.pair (Kd.int .i64) (Kd.pair Kd.string (Kd.pair (Kd.int .i64) (Kd.pair (Kd.int .i64) (Kd.pair (Kd.int .i64) PA.k44)))))) (β := PA.S51) (fun x => (x.f0, x.f1, x.f2, x.f3, x.f4, x.f5)) (fun p => ⟨p.1, p.2.1, p.2.2.1, p.2.2.2.1, p.2.2.2.2.1, p.2.2.2.2.2⟩) (fun _ => rfl) Try.underlying51 (by kernel_rfl) (FOpn.cons rfl O3 (FOpn.cons rfl O9 (FOpn.cons rfl O3 (FOpn.cons rfl O3 (FOpn.cons rfl O3 (FOpn.last rfl O44))))))
noncomputable def O31 : Opn Try.prog 31 (Kd.slice 51 PA.k51) := Opn.slice Try.underlying31 (by kernel_rfl) O51
set_option maxRecDepth 100000 in
theorem lifted (os : Os) (started : os.Started) (H : Type) (enc : TypeId × Value → H) :
    ReturnsInHanded {} Try.checked os 8 .any (Rows.rowTurnsSpec.pre6 enc Try.prog Try.f8 Rows.rowTurnsRow.domain false) (Rows.rowTurnsSpec.post enc Try.prog Try.f8 false true false false) := by
  refine returnsInHanded_of_change_sized (C := Try.checked) own started (by kernel_rfl) Try.func8
    (ChangeSpec.witness6 (enc := enc) (C := Try.checked) false ⟨#[], #[.slice none 0 0, .int .i64 0, .agg #[.int .i64 0, .int .i64 0, .int .u64 0, .string ByteArray.empty], .slice none 0 0], []⟩ 8 (by kernel_rfl) (by kernel_rfl) (by kernel_rfl) (by kernel_rfl)) ?_
  intro W base args ds gs before hval0 hW hcnd hsz0 _
  have hval : ∀ (j : Nat) t v, Try.f8.params[j]? = some t → args[j]? = some v → Value.okWide Try.prog W .any base t v := hval0
  have hW' := hW
  obtain ⟨p, q, hA0, hV, rfl, hfz, hnd⟩ := hW
  have hA : DataW.TrodAll enc Try.prog W 0 (fun _ => true) true Try.f8.params.toList args.toList ds p := hA0
  rw [Try.params8] at hA hval
  obtain ⟨v0, vs0, d0, ds0, p0, q0, hargs, rfl, rfl, h0, r0⟩ := trodAll_cons hA
  obtain ⟨v1, vs1, d1, ds1, p1, q1, rfl, rfl, rfl, h1, r1⟩ := trodAll_cons r0
  obtain ⟨v2, vs2, d2, ds2, p2, q2, rfl, rfl, rfl, h2, r2⟩ := trodAll_cons r1
  obtain ⟨v3, vs3, d3, ds3, p3, q3, rfl, rfl, rfl, h3, r3⟩ := trodAll_cons r2
  obtain ⟨rfl, rfl, rfl⟩ := trodAll_nil r3
  obtain rfl : args = #[v0, v1, v2, v3] := by cases args; simp_all
  obtain ⟨rfl, rfl⟩ := trodVars_none hV
  have k0 := h0
  have lt0 : ∀ x ∈ p0, x.block < W.heap.size := by obtain ⟨m, hm⟩ := k0; exact DataW.trod_lt m _ _ _ hm
  obtain ⟨A0, l0, c0, rfl, hc0, hC0, hg0⟩ := O22.arg_slice Try.underlying22 (hval 0 22 v0 rfl rfl) h0
  have g0 : (l0.length ≤ maxLen ∧ ∀ x ∈ l0, ((Lit.int .i64 x.f0).wf = true ∧ ((Lit.int .i64 x.f1.f0).wf = true ∧ (Lit.int .i64 x.f1.f1).wf = true ∧ (Lit.int .u64 x.f1.f2).wf = true ∧ x.f1.f3.size ≤ maxLen))) := hg0
  have k1 := h1
  have lt1 : ∀ x ∈ p1, x.block < W.heap.size := by obtain ⟨m, hm⟩ := k1; exact DataW.trod_lt m _ _ _ hm
  obtain ⟨a1, rfl, -, -, w1⟩ := open_int Try.underlying3 (hval 1 3 v1 rfl rfl) h1
  have k2 := h2
  have lt2 : ∀ x ∈ p2, x.block < W.heap.size := by obtain ⟨m, hm⟩ := k2; exact DataW.trod_lt m _ _ _ hm
  obtain ⟨cs2, x2, rfl, hk2, hg2⟩ := O44.arg_struct Try.underlying44 (hval 2 44 v2 rfl rfl) h2
  have g2 : ((Lit.int .i64 x2.f0).wf = true ∧ (Lit.int .i64 x2.f1).wf = true ∧ (Lit.int .u64 x2.f2).wf = true ∧ x2.f3.size ≤ maxLen) := hg2
  obtain ⟨c2_0, s2_0, e2_0, q2_0, m2_0⟩ := hk2
  have z2_0 := (show c2_0 = [.int .i64 (x2.f0)] from q2_0)
  obtain ⟨c2_1, s2_1, e2_1, q2_1, m2_1⟩ := m2_0
  have z2_1 := (show c2_1 = [.int .i64 (x2.f1)] from q2_1)
  obtain ⟨c2_2, s2_2, e2_2, q2_2, m2_2⟩ := m2_1
  have z2_2 := (show c2_2 = [.int .u64 (x2.f2)] from q2_2)
  have z2_3 := (show s2_2 = [.string (x2.f3)] from m2_2)
  obtain rfl : cs2 = #[.int .i64 (x2.f0), .int .i64 (x2.f1), .int .u64 (x2.f2), .string (x2.f3)] := by rw [← Array.toList_inj]; rw [e2_0, z2_0, e2_1, z2_1, e2_2, z2_2, z2_3]; rfl
  have k3 := h3
  have lt3 : ∀ x ∈ p3, x.block < W.heap.size := by obtain ⟨m, hm⟩ := k3; exact DataW.trod_lt m _ _ _ hm
  obtain ⟨A3, l3, c3, rfl, hc3, hC3, hg3⟩ := O31.arg_slice Try.underlying31 (hval 3 31 v3 rfl rfl) h3
  have g3 : (l3.length ≤ maxLen ∧ ∀ x ∈ l3, ((Lit.int .i64 x.f0).wf = true ∧ x.f1.size ≤ maxLen ∧ (Lit.int .i64 x.f2).wf = true ∧ (Lit.int .i64 x.f3).wf = true ∧ (Lit.int .i64 x.f4).wf = true ∧ ((Lit.int .i64 x.f5.f0).wf = true ∧ (Lit.int .i64 x.f5.f1).wf = true ∧ (Lit.int .u64 x.f5.f2).wf = true ∧ x.f5.f3.size ≤ maxLen))) := hg3
  clear hA0 hval0 hsz0
  obtain ⟨k, hf⟩ := Pure.RowTurns l0 a1 (x2.f0) (x2.f1) (x2.f2) (x2.f3) l3 g0 w1 g2 g3
  refine (PA.falseworklaw4_RowTurns.calls (w := W) (h := hf) (hr0 := hC0) (hc0 := hc0) (hr3 := hC3) (hc3 := hc3)).mono fun e W' ⟨he, bel⟩ => ?_
  subst he
  exact ⟨_, rfl, _, _, _, [], _, [], hW', trodAll_mk1 (shut_bool Try.underlying4 _), (trodAll_cons_mk (Below.trod laidOut (by kernel_rfl) (of_decide_eq_true (by kernel_rfl)) k0 bel lt0) (trodAll_cons_mk (Below.trod laidOut (by kernel_rfl) (of_decide_eq_true (by kernel_rfl)) k1 bel lt1) (trodAll_cons_mk (Below.trod laidOut (by kernel_rfl) (of_decide_eq_true (by kernel_rfl)) k2 bel lt2) (trodAll_cons_mk (Below.trod laidOut (by kernel_rfl) (of_decide_eq_true (by kernel_rfl)) k3 bel lt3) trodAll_mk0)))), rfl, bel.frame _, fun h => by cases h⟩
theorem over : Rows.rowTurnsRow.holds Try.pinned (OpenSpec.ofChange Rows.rowTurnsSpec) :=
  OpenClaim.holds_of_wide 8 Try.f8 rfl rfl rfl rfl rfl rfl rfl ⟨rfl, rfl, rfl, rfl, rfl⟩ rfl rfl rfl rfl rfl (by kernel_rfl) Try.func8 (by kernel_rfl)
    (of_decide_eq_true (by kernel_rfl)) (by unfold Func.isWrapper; first | (rw [if_pos (by decide +kernel)]; kernel_rfl) | (rw [if_neg (by decide +kernel)]; exact ⟨rfl, rfl⟩))
    (fun os started H enc _ => lifted os started H enc)
theorem proved : Rows.RowTurnsSaid := over
#print axioms proved
end Go.Proofs.Ytebfilljdnhccaa.rowTurns
namespace Go.Proofs.Ytebfilljdnhccaa
/-- The row, under a short name, for the claim. -/
theorem rowTurns_holds : Rows.RowTurnsSaid := rowTurns.proved
end Go.Proofs.Ytebfilljdnhccaa
