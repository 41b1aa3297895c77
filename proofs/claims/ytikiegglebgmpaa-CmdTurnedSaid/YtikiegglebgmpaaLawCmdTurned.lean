/- The statement CmdTurned: whatever the input, the call returns true, and each argument reads behind it as it read before. No condition beyond the row's own. -/
import Derived.Test.YtikiegglebgmpaaRows
import Derived.Test.YtikiegglebgmpaaCTx16
import Derived.Test.YtikiegglebgmpaaCTx0
import Derived.Test.YtikiegglebgmpaaPureCmdTurned
import Derived.Test.YtikiegglebgmpaaCTOpens
import Derived.WalkKit
import Derived.ProofKit
import Derived.OpenShut
import Derived.ShutString
import Derived.ChangeOld
import Derived.Below
import Derived.SizedLaws
namespace Go.Proofs.Ytikiegglebgmpaa.cmdTurned
open Go.ChangeShapes Go.WideShapes Go.ChangeAt Go.RowKit Go.Proofs.YtikiegglebgmpaaW.PrintWords Go.Proofs.Ytikiegglebgmpaa.Opens
open Go.ChangeMaps (open_string shut_string)
set_option linter.unusedVariables false
theorem own : ownKnob Try.prog.godebug = none := by kernel_rfl
theorem laidOut : laidOutB Try.prog = true := by kernel_rfl
noncomputable def O3 : Opn Try.prog 3 (Kd.int .i64) := Opn.int Try.underlying3 (by kernel_rfl)
noncomputable def O9 : Opn Try.prog 9 Kd.string := Opn.string Try.underlying9 (by kernel_rfl)
noncomputable def O22 : Opn Try.prog 22 (Kd.slice 9 Kd.string) := Opn.slice Try.underlying22 (by kernel_rfl) O9
noncomputable def O50 : Opn Try.prog 50 PA.k50 := Opn.struct (d := (Kd.pair Kd.string Kd.string)) (β := PA.S50) (fun x => (x.f0, x.f1)) (fun p => ⟨p.1, p.2⟩) (fun _ => rfl) Try.underlying50 (by kernel_rfl) (FOpn.cons rfl O9 (FOpn.last rfl O9))
noncomputable def O23 : Opn Try.prog 23 (Kd.slice 50 PA.k50) := Opn.slice Try.underlying23 (by kernel_rfl) O50
noncomputable def O4 : Opn Try.prog 4 Kd.bool := Opn.bool Try.underlying4 (by kernel_rfl)
noncomputable def O41 : Opn Try.prog 41 PA.k41 := Opn.struct (d := (Kd.pair Kd.string (Kd.pair Kd.string Kd.bool))) (β := PA.S41) (fun x => (x.f0, x.f1, x.f2)) (fun p => ⟨p.1, p.2.1, p.2.2⟩) (fun _ => rfl) Try.underlying41 (by kernel_rfl) (FOpn.cons rfl O9 (FOpn.cons rfl O9 (FOpn.last rfl O4)))
noncomputable def O24 : Opn Try.prog 24 (Kd.slice 41 PA.k41) := Opn.slice Try.underlying24 (by kernel_rfl) O41
noncomputable def O2 : Opn Try.prog 2 (Kd.int .i64) := Opn.int Try.underlying2 (by kernel_rfl)
noncomputable def O43 : Opn Try.prog 43 (Kd.int .u64) := Opn.int Try.underlying43 (by kernel_rfl)
noncomputable def O45 : Opn Try.prog 45 PA.k45 := Opn.struct (d := (Kd.pair (Kd.int .i64) (Kd.pair (Kd.int .i64) (Kd.pair (Kd.int .u64) Kd.string)))) (β := PA.S45) (fun x => (x.f0, x.f1, x.f2, x.f3)) (fun p => ⟨p.1, p.2.1, p.2.2.1, p.2.2.2⟩) (fun _ => rfl) Try.underlying45 (by kernel_rfl) (FOpn.cons rfl O3 (FOpn.cons rfl O2 (FOpn.cons rfl O43 (FOpn.last rfl O9))))
noncomputable def O42 : Opn Try.prog 42 (Kd.slice 45 PA.k45) := Opn.slice Try.underlying42 (by kernel_rfl) O45
noncomputable def O25 : Opn Try.prog 25 (Kd.slice 42 (Kd.slice 45 PA.k45)) := Opn.slice Try.underlying25 (by kernel_rfl) O42
noncomputable def O27 : Opn Try.prog 27 (Kd.iso (Kd.pair (Kd.int .i64) (Kd.pair (Kd.int .i64) (Kd.pair (Kd.int .i64) (Kd.pair (Kd.int .i64) (Kd.pair (Kd.slice 9 Kd.string) (Kd.pair (Kd.slice 50 PA.k50) (Kd.pair (Kd.slice 41 PA.k41) (Kd.pair (Kd.int .i64) (Kd.pair (Kd.int .i64) (Kd.pair (Kd.int .i64) (Kd.pair Kd.string (Kd.pair (Kd.int .i64) (Kd.slice 42 (Kd.slice 45 PA.k45)))))))))))))) id) := Opn.struct (d := (Kd.pair (Kd.int .i64) (Kd.pair (Kd.int .i64) (Kd.pair (Kd.int .i64) (Kd.pair (Kd.int .i64) (Kd.pair (Kd.slice 9 Kd.string) (Kd.pair (Kd.slice 50 PA.k50) (Kd.pair (Kd.slice 41 PA.k41) (Kd.pair (Kd.int .i64) (Kd.pair (Kd.int .i64) (Kd.pair (Kd.int .i64) (Kd.pair Kd.string (Kd.pair (Kd.int .i64) (Kd.slice 42 (Kd.slice 45 PA.k45))))))))))))))) id id (fun _ => rfl) Try.underlying27 (by kernel_rfl) (FOpn.cons rfl O3 (FOpn.cons rfl O3 (FOpn.cons rfl O3 (FOpn.cons rfl O3 (FOpn.cons rfl O22 (FOpn.cons rfl O23 (FOpn.cons rfl O24 (FOpn.cons rfl O3 (FOpn.cons rfl O3 (FOpn.cons rfl O3 (FOpn.cons rfl O9 (FOpn.cons rfl O3 (FOpn.last rfl O25)))))))))))))
set_option maxRecDepth 100000 in
theorem lifted (os : Os) (started : os.Started) (H : Type) (enc : TypeId × Value → H) :
    ReturnsInHanded {} Try.checked os 7 .any (Rows.cmdTurnedSpec.pre6 enc Try.prog Try.f7 Rows.cmdTurnedRow.domain false) (Rows.cmdTurnedSpec.post enc Try.prog Try.f7 false true false false) := by
  refine returnsInHanded_of_change_sized (C := Try.checked) own started (by kernel_rfl) Try.func7
    (ChangeSpec.witness6 (enc := enc) (C := Try.checked) false ⟨#[], #[.agg #[.int .i64 0, .int .i64 0, .int .i64 0, .int .i64 0, .slice none 0 0, .slice none 0 0, .slice none 0 0, .int .i64 0, .int .i64 0, .int .i64 0, .string ByteArray.empty, .int .i64 0, .slice none 0 0], .int .i64 0, .int .u8 0], []⟩ 8 (by kernel_rfl) (by kernel_rfl) (by kernel_rfl) (by kernel_rfl)) ?_
  intro W base args ds gs before hval0 hW hcnd hsz0 _
  have hval : ∀ (j : Nat) t v, Try.f7.params[j]? = some t → args[j]? = some v → Value.okWide Try.prog W .any base t v := hval0
  have hW' := hW
  obtain ⟨p, q, hA0, hV, rfl, hfz, hnd⟩ := hW
  have hA : DataW.TrodAll enc Try.prog W 0 (fun _ => true) true Try.f7.params.toList args.toList ds p := hA0
  rw [Try.params7] at hA hval
  obtain ⟨v0, vs0, d0, ds0, p0, q0, hargs, rfl, rfl, h0, r0⟩ := trodAll_cons hA
  obtain ⟨v1, vs1, d1, ds1, p1, q1, rfl, rfl, rfl, h1, r1⟩ := trodAll_cons r0
  obtain ⟨v2, vs2, d2, ds2, p2, q2, rfl, rfl, rfl, h2, r2⟩ := trodAll_cons r1
  obtain ⟨rfl, rfl, rfl⟩ := trodAll_nil r2
  obtain rfl : args = #[v0, v1, v2] := by cases args; simp_all
  obtain ⟨rfl, rfl⟩ := trodVars_none hV
  have k0 := h0
  have lt0 : ∀ x ∈ p0, x.block < W.heap.size := by obtain ⟨m, hm⟩ := k0; exact DataW.trod_lt m _ _ _ hm
  obtain ⟨cs0, x0, rfl, hk0, hg0⟩ := O27.arg_struct Try.underlying27 (hval 0 27 v0 rfl rfl) h0
  have g0 : ((Lit.int .i64 x0.1).wf = true ∧ (Lit.int .i64 x0.2.1).wf = true ∧ (Lit.int .i64 x0.2.2.1).wf = true ∧ (Lit.int .i64 x0.2.2.2.1).wf = true ∧ (x0.2.2.2.2.1.length ≤ maxLen ∧ ∀ x ∈ x0.2.2.2.2.1, x.size ≤ maxLen) ∧ (x0.2.2.2.2.2.1.length ≤ maxLen ∧ ∀ x ∈ x0.2.2.2.2.2.1, (x.f0.size ≤ maxLen ∧ x.f1.size ≤ maxLen)) ∧ (x0.2.2.2.2.2.2.1.length ≤ maxLen ∧ ∀ x ∈ x0.2.2.2.2.2.2.1, (x.f0.size ≤ maxLen ∧ x.f1.size ≤ maxLen ∧ True)) ∧ (Lit.int .i64 x0.2.2.2.2.2.2.2.1).wf = true ∧ (Lit.int .i64 x0.2.2.2.2.2.2.2.2.1).wf = true ∧ (Lit.int .i64 x0.2.2.2.2.2.2.2.2.2.1).wf = true ∧ x0.2.2.2.2.2.2.2.2.2.2.1.size ≤ maxLen ∧ (Lit.int .i64 x0.2.2.2.2.2.2.2.2.2.2.2.1).wf = true ∧ (x0.2.2.2.2.2.2.2.2.2.2.2.2.length ≤ maxLen ∧ ∀ x ∈ x0.2.2.2.2.2.2.2.2.2.2.2.2, (x.length ≤ maxLen ∧ ∀ y : PA.S45, y ∈ x → ((Lit.int .i64 y.f0).wf = true ∧ (Lit.int .i64 y.f1).wf = true ∧ (Lit.int .u64 y.f2).wf = true ∧ y.f3.size ≤ maxLen)))) := hg0
  obtain ⟨c0_0, s0_0, e0_0, q0_0, m0_0⟩ := hk0
  have z0_0 := (show c0_0 = [.int .i64 (x0.1)] from q0_0)
  obtain ⟨c0_1, s0_1, e0_1, q0_1, m0_1⟩ := m0_0
  have z0_1 := (show c0_1 = [.int .i64 (x0.2.1)] from q0_1)
  obtain ⟨c0_2, s0_2, e0_2, q0_2, m0_2⟩ := m0_1
  have z0_2 := (show c0_2 = [.int .i64 (x0.2.2.1)] from q0_2)
  obtain ⟨c0_3, s0_3, e0_3, q0_3, m0_3⟩ := m0_2
  have z0_3 := (show c0_3 = [.int .i64 (x0.2.2.2.1)] from q0_3)
  obtain ⟨c0_4, s0_4, e0_4, q0_4, m0_4⟩ := m0_3
  obtain ⟨A0_4, n0_4, z0_4, hc0_4, hC0_4⟩ := q0_4
  obtain ⟨c0_5, s0_5, e0_5, q0_5, m0_5⟩ := m0_4
  obtain ⟨A0_5, n0_5, z0_5, hc0_5, hC0_5⟩ := q0_5
  obtain ⟨c0_6, s0_6, e0_6, q0_6, m0_6⟩ := m0_5
  obtain ⟨A0_6, n0_6, z0_6, hc0_6, hC0_6⟩ := q0_6
  obtain ⟨c0_7, s0_7, e0_7, q0_7, m0_7⟩ := m0_6
  have z0_7 := (show c0_7 = [.int .i64 (x0.2.2.2.2.2.2.2.1)] from q0_7)
  obtain ⟨c0_8, s0_8, e0_8, q0_8, m0_8⟩ := m0_7
  have z0_8 := (show c0_8 = [.int .i64 (x0.2.2.2.2.2.2.2.2.1)] from q0_8)
  obtain ⟨c0_9, s0_9, e0_9, q0_9, m0_9⟩ := m0_8
  have z0_9 := (show c0_9 = [.int .i64 (x0.2.2.2.2.2.2.2.2.2.1)] from q0_9)
  obtain ⟨c0_10, s0_10, e0_10, q0_10, m0_10⟩ := m0_9
  have z0_10 := (show c0_10 = [.string (x0.2.2.2.2.2.2.2.2.2.2.1)] from q0_10)
  obtain ⟨c0_11, s0_11, e0_11, q0_11, m0_11⟩ := m0_10
  have z0_11 := (show c0_11 = [.int .i64 (x0.2.2.2.2.2.2.2.2.2.2.2.1)] from q0_11)
  obtain ⟨A0_12, n0_12, z0_12, hc0_12, hC0_12⟩ := m0_11
  obtain rfl : cs0 = #[.int .i64 (x0.1), .int .i64 (x0.2.1), .int .i64 (x0.2.2.1), .int .i64 (x0.2.2.2.1), .slice A0_4 (x0.2.2.2.2.1).length n0_4, .slice A0_5 (x0.2.2.2.2.2.1).length n0_5, .slice A0_6 (x0.2.2.2.2.2.2.1).length n0_6, .int .i64 (x0.2.2.2.2.2.2.2.1), .int .i64 (x0.2.2.2.2.2.2.2.2.1), .int .i64 (x0.2.2.2.2.2.2.2.2.2.1), .string (x0.2.2.2.2.2.2.2.2.2.2.1), .int .i64 (x0.2.2.2.2.2.2.2.2.2.2.2.1), .slice A0_12 (x0.2.2.2.2.2.2.2.2.2.2.2.2).length n0_12] := by rw [← Array.toList_inj]; rw [e0_0, z0_0, e0_1, z0_1, e0_2, z0_2, e0_3, z0_3, e0_4, z0_4, e0_5, z0_5, e0_6, z0_6, e0_7, z0_7, e0_8, z0_8, e0_9, z0_9, e0_10, z0_10, e0_11, z0_11, z0_12]; rfl
  have k1 := h1
  have lt1 : ∀ x ∈ p1, x.block < W.heap.size := by obtain ⟨m, hm⟩ := k1; exact DataW.trod_lt m _ _ _ hm
  obtain ⟨a1, rfl, -, -, w1⟩ := open_int Try.underlying3 (hval 1 3 v1 rfl rfl) h1
  have k2 := h2
  have lt2 : ∀ x ∈ p2, x.block < W.heap.size := by obtain ⟨m, hm⟩ := k2; exact DataW.trod_lt m _ _ _ hm
  obtain ⟨a2, rfl, -, -, w2⟩ := open_int Try.underlying5 (hval 2 5 v2 rfl rfl) h2
  clear hA0 hval0 hsz0
  obtain ⟨k, hf⟩ := Pure.CmdTurned (x0.1) (x0.2.1) (x0.2.2.1) (x0.2.2.2.1) (x0.2.2.2.2.1) (x0.2.2.2.2.2.1) (x0.2.2.2.2.2.2.1) (x0.2.2.2.2.2.2.2.1) (x0.2.2.2.2.2.2.2.2.1) (x0.2.2.2.2.2.2.2.2.2.1) (x0.2.2.2.2.2.2.2.2.2.2.1) (x0.2.2.2.2.2.2.2.2.2.2.2.1) (x0.2.2.2.2.2.2.2.2.2.2.2.2) a1 a2 g0 w1 w2
  refine (PA.falseworklaw13_CmdTurned.calls (w := W) (h := hf) (hr0_4 := hC0_4) (hc0_4 := hc0_4) (hr0_5 := hC0_5) (hc0_5 := hc0_5) (hr0_6 := hC0_6) (hc0_6 := hc0_6) (hr0_12 := hC0_12) (hc0_12 := hc0_12)).mono fun e W' ⟨he, bel⟩ => ?_
  subst he
  exact ⟨_, rfl, _, _, _, [], _, [], hW', trodAll_mk1 (shut_bool Try.underlying4 _), (trodAll_cons_mk (Below.trod laidOut (by kernel_rfl) (of_decide_eq_true (by kernel_rfl)) k0 bel lt0) (trodAll_cons_mk (Below.trod laidOut (by kernel_rfl) (of_decide_eq_true (by kernel_rfl)) k1 bel lt1) (trodAll_cons_mk (Below.trod laidOut (by kernel_rfl) (of_decide_eq_true (by kernel_rfl)) k2 bel lt2) trodAll_mk0))), rfl, bel.frame _, fun h => by cases h⟩
theorem over : Rows.cmdTurnedRow.holds Try.pinned (OpenSpec.ofChange Rows.cmdTurnedSpec) :=
  OpenClaim.holds_of_wide 7 Try.f7 rfl rfl rfl rfl rfl rfl rfl ⟨rfl, rfl, rfl, rfl, rfl⟩ rfl rfl rfl rfl rfl (by kernel_rfl) Try.func7 (by kernel_rfl)
    (of_decide_eq_true (by kernel_rfl)) (by unfold Func.isWrapper; first | (rw [if_pos (by decide +kernel)]; kernel_rfl) | (rw [if_neg (by decide +kernel)]; exact ⟨rfl, rfl⟩))
    (fun os started H enc _ => lifted os started H enc)
theorem proved : Rows.CmdTurnedSaid := over
#print axioms proved
end Go.Proofs.Ytikiegglebgmpaa.cmdTurned
namespace Go.Proofs.Ytikiegglebgmpaa
/-- The row, under a short name, for the claim. -/
theorem cmdTurned_holds : Rows.CmdTurnedSaid := cmdTurned.proved
end Go.Proofs.Ytikiegglebgmpaa
