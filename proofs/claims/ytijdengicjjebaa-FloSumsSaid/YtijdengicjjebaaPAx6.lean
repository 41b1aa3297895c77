/- Contracts of the Go functions of this seat: what each call returns is what a Lean function of its arguments says; each theorem bears its own conditions. Written by a program of this session (wip/tools/mkprint.py). -/
import Derived.Test.YtijdengicjjebaaPAx0
namespace Go.Proofs.Ytijdengicjjebaa.PA
open Go.RowKit Go.Proofs.YtijdengicjjebaaW.PrintWords Go.Proofs.YtijdengicjjebaaW.PrintLast Go.Proofs.YtijdengicjjebaaW.PrintMore
attribute [local go_sem] max2_int min2_int max_two min_two max_three min_three max_four min_four   -- for this text's walks alone
set_option linter.unusedVariables false
set_option linter.unusedSimpArgs false

attribute [local go_sem ↓ high] unary_xor_u64 ux_if_u64
attribute [local go_sem] str_gtr str_leq str_geq
/-! ### falseworkref1_Of: function 20 -/
mutual
def falseworkref1_Of.j0 : Nat → Int → Int → Option (Int)
  | 0, _, _ => none
  | k + 1, x3, x4 => falseworkref1_Of.l0 k x3 x4 0 0
def falseworkref1_Of.l0 : Nat → Int → Int → Int → Int → Option (Int)
  | 0, _, _, _, _ => none
  | k + 1, x3, x4, x5, x6 => if x6 < 64 then (if 0 ≤ (IntKind.u64.wrap (x6)) then (if (Go.bits .and .u64 (shr .u64 x4 (IntKind.u64.wrap (x6))) 1) = 1 then (falseworkref1_Of.l0 k x3 x4 x6 (wrap64 (x6 + 1))) else (falseworkref1_Of.l0 k x3 x4 x5 (wrap64 (x6 + 1)))) else (none)) else (if x5 ≤ 52 then (if 0 ≤ (IntKind.u64.wrap (wrap64 (52 - x5))) then (some (Go.bits .or .u64 (Go.bits .or .u64 x3 (IntKind.u64.wrap ((IntKind.u64.wrap (wrap64 (x5 + 1023))) * 4503599627370496))) (Go.bits .and .u64 (shl .u64 x4 (IntKind.u64.wrap (wrap64 (52 - x5)))) 4503599627370495))) else (none)) else (if 0 ≤ (IntKind.u64.wrap (wrap64 (x5 - 52))) then (if 0 ≤ (IntKind.u64.wrap ((IntKind.u64.wrap (wrap64 (x5 - 52))) - 1)) then (if (Go.bits .and .u64 x4 (IntKind.u64.wrap ((shl .u64 1 (IntKind.u64.wrap (wrap64 (x5 - 52)))) - 1))) > (shl .u64 1 (IntKind.u64.wrap ((IntKind.u64.wrap (wrap64 (x5 - 52))) - 1))) then (falseworkref1_Of.j2 k x3 x5 (shr .u64 x4 (IntKind.u64.wrap (wrap64 (x5 - 52)))) true) else (if (Go.bits .and .u64 x4 (IntKind.u64.wrap ((shl .u64 1 (IntKind.u64.wrap (wrap64 (x5 - 52)))) - 1))) = (shl .u64 1 (IntKind.u64.wrap ((IntKind.u64.wrap (wrap64 (x5 - 52))) - 1))) then (falseworkref1_Of.j2 k x3 x5 (shr .u64 x4 (IntKind.u64.wrap (wrap64 (x5 - 52)))) ((Go.bits .and .u64 (shr .u64 x4 (IntKind.u64.wrap (wrap64 (x5 - 52)))) 1) == 1)) else (falseworkref1_Of.j2 k x3 x5 (shr .u64 x4 (IntKind.u64.wrap (wrap64 (x5 - 52)))) false))) else (none)) else (none)))
def falseworkref1_Of.j2 : Nat → Int → Int → Int → Bool → Option (Int)
  | 0, _, _, _, _ => none
  | k + 1, x3, x5, x8, x71 => if x71 = true then (if (IntKind.u64.wrap (x8 + 1)) = 9007199254740992 then (some (Go.bits .or .u64 (Go.bits .or .u64 x3 (IntKind.u64.wrap ((IntKind.u64.wrap (wrap64 ((wrap64 (x5 + 1)) + 1023))) * 4503599627370496))) (Go.bits .and .u64 ((IntKind.u64.wrap (x8 + 1)) / 2) 4503599627370495))) else (some (Go.bits .or .u64 (Go.bits .or .u64 x3 (IntKind.u64.wrap ((IntKind.u64.wrap (wrap64 (x5 + 1023))) * 4503599627370496))) (Go.bits .and .u64 (IntKind.u64.wrap (x8 + 1)) 4503599627370495)))) else (if x8 = 9007199254740992 then (some (Go.bits .or .u64 (Go.bits .or .u64 x3 (IntKind.u64.wrap ((IntKind.u64.wrap (wrap64 ((wrap64 (x5 + 1)) + 1023))) * 4503599627370496))) (Go.bits .and .u64 (x8 / 2) 4503599627370495))) else (some (Go.bits .or .u64 (Go.bits .or .u64 x3 (IntKind.u64.wrap ((IntKind.u64.wrap (wrap64 (x5 + 1023))) * 4503599627370496))) (Go.bits .and .u64 x8 4503599627370495))))
end
def falseworkref1_Of.f (k : Nat) (a0 : Int) : Option (Int) := if a0 = 0 then (some 0) else (if a0 < 0 then (falseworkref1_Of.j0 k 9223372036854775808 (IntKind.u64.wrap (-(IntKind.u64.wrap (a0))))) else (falseworkref1_Of.j0 k 0 (IntKind.u64.wrap (a0))))
theorem falseworkref1_Of.mono_l : ∀ k, (∀ y0 y1, LeO (falseworkref1_Of.j0 k y0 y1) (falseworkref1_Of.j0 (k + 1) y0 y1)) ∧ (∀ y0 y1 y2 y3, LeO (falseworkref1_Of.l0 k y0 y1 y2 y3) (falseworkref1_Of.l0 (k + 1) y0 y1 y2 y3)) ∧ (∀ y0 y1 y2 y3, LeO (falseworkref1_Of.j2 k y0 y1 y2 y3) (falseworkref1_Of.j2 (k + 1) y0 y1 y2 y3))
  | 0 => ⟨fun _ _ r h => by simp [falseworkref1_Of.j0] at h, fun _ _ _ _ r h => by simp [falseworkref1_Of.l0] at h, fun _ _ _ _ r h => by simp [falseworkref1_Of.j2] at h⟩
  | k + 1 => by
    obtain ⟨ih0, ih1, ih2⟩ := falseworkref1_Of.mono_l k
    refine ⟨?_, ?_, ?_⟩
    · intro y0 y1
      unfold falseworkref1_Of.j0
      repeat' first
      | (with_reducible exact ih0 _ _)
      | (with_reducible exact ih1 _ _ _ _)
      | (with_reducible exact ih2 _ _ _ _)
      | (with_reducible exact LeO.refl _)
      | (with_reducible exact LeO.none _)
      | (with_reducible refine LeO.ite ?_ ?_)
      | (with_reducible refine LeO.bind ?_ (fun _ => ?_))
      | exact ih0 _ _
      | exact ih1 _ _ _ _
      | exact ih2 _ _ _ _
      | exact LeO.none _
      | refine LeO.ite ?_ ?_
      | refine LeO.bind ?_ (fun _ => ?_)
    · intro y0 y1 y2 y3
      unfold falseworkref1_Of.l0
      repeat' first
      | (with_reducible exact ih0 _ _)
      | (with_reducible exact ih1 _ _ _ _)
      | (with_reducible exact ih2 _ _ _ _)
      | (with_reducible exact LeO.refl _)
      | (with_reducible exact LeO.none _)
      | (with_reducible refine LeO.ite ?_ ?_)
      | (with_reducible refine LeO.bind ?_ (fun _ => ?_))
      | exact ih0 _ _
      | exact ih1 _ _ _ _
      | exact ih2 _ _ _ _
      | exact LeO.none _
      | refine LeO.ite ?_ ?_
      | refine LeO.bind ?_ (fun _ => ?_)
    · intro y0 y1 y2 y3
      unfold falseworkref1_Of.j2
      repeat' first
      | (with_reducible exact ih0 _ _)
      | (with_reducible exact ih1 _ _ _ _)
      | (with_reducible exact ih2 _ _ _ _)
      | (with_reducible exact LeO.refl _)
      | (with_reducible exact LeO.none _)
      | (with_reducible refine LeO.ite ?_ ?_)
      | (with_reducible refine LeO.bind ?_ (fun _ => ?_))
      | exact ih0 _ _
      | exact ih1 _ _ _ _
      | exact ih2 _ _ _ _
      | exact LeO.none _
      | refine LeO.ite ?_ ?_
      | refine LeO.bind ?_ (fun _ => ?_)
theorem falseworkref1_Of.mono : ∀ a0 k, LeO (falseworkref1_Of.f k a0) (falseworkref1_Of.f (k + 1) a0) := by
  intro a0 k
  obtain ⟨ih0, ih1, ih2⟩ := falseworkref1_Of.mono_l k
  unfold falseworkref1_Of.f
  repeat' first
      | (with_reducible exact ih0 _ _)
      | (with_reducible exact ih1 _ _ _ _)
      | (with_reducible exact ih2 _ _ _ _)
      | (with_reducible exact LeO.refl _)
      | (with_reducible exact LeO.none _)
      | (with_reducible refine LeO.ite ?_ ?_)
      | (with_reducible refine LeO.bind ?_ (fun _ => ?_))
      | exact ih0 _ _
      | exact ih1 _ _ _ _
      | exact ih2 _ _ _ _
      | exact LeO.none _
      | refine LeO.ite ?_ ?_
      | refine LeO.bind ?_ (fun _ => ?_)
set_option maxHeartbeats 8000000 in
set_option maxRecDepth 100000 in
theorem falseworkref1_Of.calls (k : Nat) (a0 : Int) (r : Int) (w : World) (h : falseworkref1_Of.f k a0 = some r) :
    Calls Try.prog 20 #[.int .i64 a0] w fun e w' => e = .returned (.int .u64 r) ∧ Drawn0 w w' := by
  have H : (if a0 = 0 then (some 0) else (if a0 < 0 then (falseworkref1_Of.j0 k 9223372036854775808 (IntKind.u64.wrap (-(IntKind.u64.wrap (a0))))) else (falseworkref1_Of.j0 k 0 (IntKind.u64.wrap (a0))))) = some r := h
  clear h
  by_cases c2 : a0 = 0
  · rw [if_pos c2] at H
    have c2b0 : (a0 == 0) = true := beq_iff_eq.mpr c2
    have c2b1 : (a0 != 0) = false := bne_eq_false_iff_eq.mpr c2
    clear c2
    obtain rfl := Option.some.inj H
    go_enter Try.func20, Try.ntmps20
    go_wp2
    go_ret
    exact ⟨by first | rfl | (simp; done) | (simp [*]; done), by repeat (first | exact Drawn0.refl _ | apply Drawn0.step)⟩
  · rw [if_neg c2] at H
    have c2b0 : (a0 == 0) = false := beq_eq_false_iff_ne.mpr c2
    have c2b1 : (a0 != 0) = true := bne_iff_ne.mpr c2
    have HC3 := Aside0.mk H
    clear H
    go_enter Try.func20, Try.ntmps20
    go_upto_if 16 with (fail)
    go_cut [3, 4] (fun v3 v4 wc => ∃ (kq : Nat) (x3_2 : Int) (x4_2 : Int), v3 = .int .u64 x3_2 ∧ v4 = .int .u64 x4_2 ∧ Aside0 (falseworkref1_Of.j0 kq x3_2 x4_2 = some r) ∧ Aside0 (kq ≤ k) ∧ Drawn0 w wc)
    case first =>
      have H := HC3.out
      clear HC3
      by_cases c4 : a0 < 0
      · rw [if_pos c4] at H
        have c4b0 : decide (a0 < 0) = true := decide_eq_true c4
        clear c4
        (first | rw [c4b0] | (simp only [i64_w, i32_w]; rw [c4b0]) | skip)
        have H' := Aside0.mk H
        clear H
        go_wp2
        go_meet
        case rel => exact ⟨_, (9223372036854775808), (IntKind.u64.wrap (-(IntKind.u64.wrap (a0)))), (by first | rfl | (simp; done) | (simp [*]; done)), (by first | rfl | (simp; done) | (simp [*]; done)), H', ⟨by first | omega | exact Nat.le_refl _⟩, by repeat (first | exact Drawn0.refl _ | apply Drawn0.step)⟩
      · rw [if_neg c4] at H
        have c4b0 : decide (a0 < 0) = false := decide_eq_false c4
        clear c4
        (first | rw [c4b0] | (simp only [i64_w, i32_w]; rw [c4b0]) | skip)
        have H' := Aside0.mk H
        clear H
        go_wp2
        go_meet
        case rel => exact ⟨_, (0), (IntKind.u64.wrap (a0)), (by first | rfl | (simp; done) | (simp [*]; done)), (by first | rfl | (simp; done) | (simp [*]; done)), H', ⟨by first | omega | exact Nat.le_refl _⟩, by repeat (first | exact Drawn0.refl _ | apply Drawn0.step)⟩
    case rest =>
      clear HC3
      try clear c2
      try clear c2b0
      try clear c2b1
      try clear p2
      try clear c4
      try clear c4b0
      obtain ⟨kq, x3_2, x4_2, rfl, rfl, HA, HJ2, ⟨mc2, rfl⟩⟩ := hcut
      cases kq with
      | zero => exact absurd HA.out (by simp [falseworkref1_Of.j0])
      | succ kj2 =>
        have H := HA.out
        clear HA
        simp only [falseworkref1_Of.j0] at H
        have H' := Aside0.mk H
        clear H
        go_wp2
        go_loopg [5, 6] kj2 (fun kq v5 v6 w' => ∃ (x5_2 : Int) (x6_2 : Int), v5 = .int .i64 x5_2 ∧ v6 = .int .i64 x6_2 ∧ Aside0 (falseworkref1_Of.l0 kq x3_2 x4_2 x5_2 x6_2 = some r) ∧ Aside0 (kq ≤ kj2) ∧ Drawn0 w w')
        case atStart => exact ⟨(0), (0), (by first | rfl | (simp; done) | (simp [*]; done)), (by first | rfl | (simp; done) | (simp [*]; done)), H', ⟨Nat.le_refl _⟩, by repeat (first | exact Drawn0.refl _ | apply Drawn0.step)⟩
        case round =>
          clear H'
          try clear c2
          try clear c2b0
          try clear c2b1
          try clear p2
          try clear c4
          try clear c4b0
          try clear p2
          obtain ⟨x5_2, x6_2, rfl, rfl, HA, HK2, ⟨m2, rfl⟩⟩ := hrel
          cases gk with
          | zero => exact absurd HA.out (by simp [falseworkref1_Of.l0])
          | succ k2 =>
            have H := HA.out
            clear HA
            simp only [falseworkref1_Of.l0] at H
            by_cases c5 : x6_2 < 64
            · rw [if_pos c5] at H
              have c5b0 : decide (x6_2 < 64) = true := decide_eq_true c5
              clear c5
              obtain ⟨ji6, hji6⟩ : ∃ j_ : Int, (IntKind.u64.wrap (x6_2)) = j_ := ⟨_, rfl⟩
              replace H : (if 0 ≤ (ji6) then (if (Go.bits .and .u64 (shr .u64 x4_2 (ji6)) 1) = 1 then (falseworkref1_Of.l0 k2 x3_2 x4_2 x6_2 (wrap64 (x6_2 + 1))) else (falseworkref1_Of.l0 k2 x3_2 x4_2 x5_2 (wrap64 (x6_2 + 1)))) else (none)) = some r := by first | (rw [hji6] at H; exact H) | (simp only [hji6] at H ⊢; exact H)
              by_cases c7 : 0 ≤ (ji6)
              · rw [if_pos c7] at H
                have c7b0 := eq_true c7
                have c7b1 : decide (0 ≤ (ji6)) = true := decide_eq_true c7
                clear c7
                obtain ⟨ji8, hji8⟩ : ∃ j_ : Int, (shr .u64 x4_2 (ji6)) = j_ := ⟨_, rfl⟩
                replace H : (if (Go.bits .and .u64 (ji8) 1) = 1 then (falseworkref1_Of.l0 k2 x3_2 x4_2 x6_2 (wrap64 (x6_2 + 1))) else (falseworkref1_Of.l0 k2 x3_2 x4_2 x5_2 (wrap64 (x6_2 + 1)))) = some r := by first | (rw [hji8] at H; exact H) | (simp only [hji8] at H ⊢; exact H)
                have hji8_ : (x4_2 / 2 ^ min (ji6).toNat 64) = ji8 := hji8
                have hji8z : (ji6) ≤ 64 → (x4_2 / 2 ^ (ji6).toNat) = ji8 := shr_small hji8
                by_cases c9 : (Go.bits .and .u64 (ji8) 1) = 1
                · rw [if_pos c9] at H
                  have c9b0 : ((Go.bits .and .u64 (ji8) 1) == 1) = true := beq_iff_eq.mpr c9
                  have c9b1 : ((Go.bits .and .u64 (ji8) 1) != 1) = false := bne_eq_false_iff_eq.mpr c9
                  clear c9
                  have H' := Aside0.mk H
                  clear H
                  go_wp2
                  go_roundg k2
                  case measure => have := HJ2.out; have := HK2.out; omega
                  case rel => exact ⟨(x6_2), (wrap64 (x6_2 + 1)), (by first | rfl | (simp; done) | (simp [*]; done)), (by first | rfl | (simp; done) | (simp [*]; done)), H', ⟨by have := HJ2.out; have := HK2.out; omega⟩, by repeat (first | exact Drawn0.refl _ | apply Drawn0.step)⟩
                · rw [if_neg c9] at H
                  have c9b0 : ((Go.bits .and .u64 (ji8) 1) == 1) = false := beq_eq_false_iff_ne.mpr c9
                  have c9b1 : ((Go.bits .and .u64 (ji8) 1) != 1) = true := bne_iff_ne.mpr c9
                  have H' := Aside0.mk H
                  clear H
                  go_wp2
                  go_roundg k2
                  case measure => have := HJ2.out; have := HK2.out; omega
                  case rel => exact ⟨(x5_2), (wrap64 (x6_2 + 1)), (by first | rfl | (simp; done) | (simp [*]; done)), (by first | rfl | (simp; done) | (simp [*]; done)), H', ⟨by have := HJ2.out; have := HK2.out; omega⟩, by repeat (first | exact Drawn0.refl _ | apply Drawn0.step)⟩
              · rw [if_neg c7] at H
                exact absurd H (by simp)
            · rw [if_neg c5] at H
              have c5b0 : decide (x6_2 < 64) = false := decide_eq_false c5
              clear c5
              by_cases c10 : x5_2 ≤ 52
              · rw [if_pos c10] at H
                have c10b0 : decide (x5_2 ≤ 52) = true := decide_eq_true c10
                clear c10
                obtain ⟨ji11, hji11⟩ : ∃ j_ : Int, (IntKind.u64.wrap (wrap64 (52 - x5_2))) = j_ := ⟨_, rfl⟩
                replace H : (if 0 ≤ (ji11) then (some (Go.bits .or .u64 (Go.bits .or .u64 x3_2 (IntKind.u64.wrap ((IntKind.u64.wrap (wrap64 (x5_2 + 1023))) * 4503599627370496))) (Go.bits .and .u64 (shl .u64 x4_2 (ji11)) 4503599627370495))) else (none)) = some r := by first | (rw [hji11] at H; exact H) | (simp only [hji11] at H ⊢; exact H)
                by_cases c12 : 0 ≤ (ji11)
                · rw [if_pos c12] at H
                  have c12b0 := eq_true c12
                  have c12b1 : decide (0 ≤ (ji11)) = true := decide_eq_true c12
                  clear c12
                  obtain ⟨ji13, hji13⟩ : ∃ j_ : Int, (shl .u64 x4_2 (ji11)) = j_ := ⟨_, rfl⟩
                  replace H : (some (Go.bits .or .u64 (Go.bits .or .u64 x3_2 (IntKind.u64.wrap ((IntKind.u64.wrap (wrap64 (x5_2 + 1023))) * 4503599627370496))) (Go.bits .and .u64 (ji13) 4503599627370495))) = some r := by first | (rw [hji13] at H; exact H) | (simp only [hji13] at H ⊢; exact H)
                  have hji13_ : (IntKind.u64.wrap (x4_2 * 2 ^ min (ji11).toNat 64)) = ji13 := hji13
                  have hji13z : (ji11) ≤ 64 → (IntKind.u64.wrap (x4_2 * 2 ^ (ji11).toNat)) = ji13 := shl_small hji13
                  obtain rfl := Option.some.inj H
                  go_wp2
                  go_ret
                  exact ⟨by first | rfl | (simp; done) | (simp only [← hji11, ← hji13] <;> (first | rfl | simp)) | (simp [*]; done), by repeat (first | exact Drawn0.refl _ | apply Drawn0.step)⟩
                · rw [if_neg c12] at H
                  exact absurd H (by simp)
              · rw [if_neg c10] at H
                have c10b0 : decide (x5_2 ≤ 52) = false := decide_eq_false c10
                clear c10
                obtain ⟨ji14, hji14⟩ : ∃ j_ : Int, (IntKind.u64.wrap (wrap64 (x5_2 - 52))) = j_ := ⟨_, rfl⟩
                replace H : (if 0 ≤ (ji14) then (if 0 ≤ (IntKind.u64.wrap ((ji14) - 1)) then (if (Go.bits .and .u64 x4_2 (IntKind.u64.wrap ((shl .u64 1 (ji14)) - 1))) > (shl .u64 1 (IntKind.u64.wrap ((ji14) - 1))) then (falseworkref1_Of.j2 k2 x3_2 x5_2 (shr .u64 x4_2 (ji14)) true) else (if (Go.bits .and .u64 x4_2 (IntKind.u64.wrap ((shl .u64 1 (ji14)) - 1))) = (shl .u64 1 (IntKind.u64.wrap ((ji14) - 1))) then (falseworkref1_Of.j2 k2 x3_2 x5_2 (shr .u64 x4_2 (ji14)) ((Go.bits .and .u64 (shr .u64 x4_2 (ji14)) 1) == 1)) else (falseworkref1_Of.j2 k2 x3_2 x5_2 (shr .u64 x4_2 (ji14)) false))) else (none)) else (none)) = some r := by first | (rw [hji14] at H; exact H) | (simp only [hji14] at H ⊢; exact H)
                by_cases c15 : 0 ≤ (ji14)
                · rw [if_pos c15] at H
                  have c15b0 := eq_true c15
                  have c15b1 : decide (0 ≤ (ji14)) = true := decide_eq_true c15
                  clear c15
                  obtain ⟨ji16, hji16⟩ : ∃ j_ : Int, (shr .u64 x4_2 (ji14)) = j_ := ⟨_, rfl⟩
                  replace H : (if 0 ≤ (IntKind.u64.wrap ((ji14) - 1)) then (if (Go.bits .and .u64 x4_2 (IntKind.u64.wrap ((shl .u64 1 (ji14)) - 1))) > (shl .u64 1 (IntKind.u64.wrap ((ji14) - 1))) then (falseworkref1_Of.j2 k2 x3_2 x5_2 ji16 true) else (if (Go.bits .and .u64 x4_2 (IntKind.u64.wrap ((shl .u64 1 (ji14)) - 1))) = (shl .u64 1 (IntKind.u64.wrap ((ji14) - 1))) then (falseworkref1_Of.j2 k2 x3_2 x5_2 ji16 ((Go.bits .and .u64 (ji16) 1) == 1)) else (falseworkref1_Of.j2 k2 x3_2 x5_2 ji16 false))) else (none)) = some r := by first | (rw [hji16] at H; exact H) | (simp only [hji16] at H ⊢; exact H)
                  have hji16_ : (x4_2 / 2 ^ min (ji14).toNat 64) = ji16 := hji16
                  have hji16z : (ji14) ≤ 64 → (x4_2 / 2 ^ (ji14).toNat) = ji16 := shr_small hji16
                  have c17b0 := eq_true (of_decide_eq_true (by first | (with_reducible assumption) | assumption) : 0 ≤ (ji14))
                  obtain ⟨ji18, hji18⟩ : ∃ j_ : Int, (shl .u64 1 (ji14)) = j_ := ⟨_, rfl⟩
                  replace H : (if 0 ≤ (IntKind.u64.wrap ((ji14) - 1)) then (if (Go.bits .and .u64 x4_2 (IntKind.u64.wrap ((ji18) - 1))) > (shl .u64 1 (IntKind.u64.wrap ((ji14) - 1))) then (falseworkref1_Of.j2 k2 x3_2 x5_2 ji16 true) else (if (Go.bits .and .u64 x4_2 (IntKind.u64.wrap ((ji18) - 1))) = (shl .u64 1 (IntKind.u64.wrap ((ji14) - 1))) then (falseworkref1_Of.j2 k2 x3_2 x5_2 ji16 ((Go.bits .and .u64 (ji16) 1) == 1)) else (falseworkref1_Of.j2 k2 x3_2 x5_2 ji16 false))) else (none)) = some r := by first | (rw [hji18] at H; exact H) | (simp only [hji18] at H ⊢; exact H)
                  have hji18_ : (IntKind.u64.wrap (1 * 2 ^ min (ji14).toNat 64)) = ji18 := hji18
                  have hji18z : (ji14) ≤ 64 → (IntKind.u64.wrap (1 * 2 ^ (ji14).toNat)) = ji18 := shl_small hji18
                  have hji18u : (IntKind.u64.wrap (2 ^ min (ji14).toNat 64)) = ji18 := by have h_ := hji18_; rw [Int.one_mul] at h_; exact h_
                  have hji18v : (ji14) ≤ 64 → (IntKind.u64.wrap (2 ^ (ji14).toNat)) = ji18 := fun hle_ => by have h_ := hji18z hle_; rw [Int.one_mul] at h_; exact h_
                  obtain ⟨ji19, hji19⟩ : ∃ j_ : Int, (IntKind.u64.wrap ((ji14) - 1)) = j_ := ⟨_, rfl⟩
                  replace H : (if 0 ≤ (ji19) then (if (Go.bits .and .u64 x4_2 (IntKind.u64.wrap ((ji18) - 1))) > (shl .u64 1 (ji19)) then (falseworkref1_Of.j2 k2 x3_2 x5_2 ji16 true) else (if (Go.bits .and .u64 x4_2 (IntKind.u64.wrap ((ji18) - 1))) = (shl .u64 1 (ji19)) then (falseworkref1_Of.j2 k2 x3_2 x5_2 ji16 ((Go.bits .and .u64 (ji16) 1) == 1)) else (falseworkref1_Of.j2 k2 x3_2 x5_2 ji16 false))) else (none)) = some r := by first | (rw [hji19] at H; exact H) | (simp only [hji19] at H ⊢; exact H)
                  by_cases c20 : 0 ≤ (ji19)
                  · rw [if_pos c20] at H
                    have c20b0 := eq_true c20
                    have c20b1 : decide (0 ≤ (ji19)) = true := decide_eq_true c20
                    clear c20
                    obtain ⟨ji21, hji21⟩ : ∃ j_ : Int, (shl .u64 1 (ji19)) = j_ := ⟨_, rfl⟩
                    replace H : (if (Go.bits .and .u64 x4_2 (IntKind.u64.wrap ((ji18) - 1))) > (ji21) then (falseworkref1_Of.j2 k2 x3_2 x5_2 ji16 true) else (if (Go.bits .and .u64 x4_2 (IntKind.u64.wrap ((ji18) - 1))) = (ji21) then (falseworkref1_Of.j2 k2 x3_2 x5_2 ji16 ((Go.bits .and .u64 (ji16) 1) == 1)) else (falseworkref1_Of.j2 k2 x3_2 x5_2 ji16 false))) = some r := by first | (rw [hji21] at H; exact H) | (simp only [hji21] at H ⊢; exact H)
                    have hji21_ : (IntKind.u64.wrap (1 * 2 ^ min (ji19).toNat 64)) = ji21 := hji21
                    have hji21z : (ji19) ≤ 64 → (IntKind.u64.wrap (1 * 2 ^ (ji19).toNat)) = ji21 := shl_small hji21
                    have hji21u : (IntKind.u64.wrap (2 ^ min (ji19).toNat 64)) = ji21 := by have h_ := hji21_; rw [Int.one_mul] at h_; exact h_
                    have hji21v : (ji19) ≤ 64 → (IntKind.u64.wrap (2 ^ (ji19).toNat)) = ji21 := fun hle_ => by have h_ := hji21z hle_; rw [Int.one_mul] at h_; exact h_
                    have HC22 := Aside0.mk H
                    clear H
                    go_upto_region 20 with (fail)
                    go_cut [71] (fun v71 wc => ∃ (kq : Nat) (x71_21 : Bool), v71 = .bool x71_21 ∧ Aside0 (falseworkref1_Of.j2 kq x3_2 x5_2 ji16 x71_21 = some r) ∧ Aside0 (kq ≤ k2) ∧ Drawn0 w wc)
                    case first =>
                      have H := HC22.out
                      clear HC22
                      by_cases c23 : (Go.bits .and .u64 x4_2 (IntKind.u64.wrap ((ji18) - 1))) > (ji21)
                      · rw [if_pos c23] at H
                        have c23b0 : decide ((ji21) < (Go.bits .and .u64 x4_2 (IntKind.u64.wrap ((ji18) - 1)))) = true := decide_eq_true c23
                        clear c23
                        (first | rw [c23b0] | (simp only [i64_w, i32_w]; rw [c23b0]) | skip)
                        have H' := Aside0.mk H
                        clear H
                        go_wp2
                        go_meet
                        case rel => exact ⟨_, (true), (by first | rfl | (simp; done) | (simp [*]; done)), H', ⟨by have := HJ2.out; have := HK2.out; first | omega | exact Nat.le_refl _⟩, by repeat (first | exact Drawn0.refl _ | apply Drawn0.step)⟩
                      · rw [if_neg c23] at H
                        have c23b0 : decide ((ji21) < (Go.bits .and .u64 x4_2 (IntKind.u64.wrap ((ji18) - 1)))) = false := decide_eq_false c23
                        clear c23
                        (first | rw [c23b0] | (simp only [i64_w, i32_w]; rw [c23b0]) | skip)
                        by_cases c24 : (Go.bits .and .u64 x4_2 (IntKind.u64.wrap ((ji18) - 1))) = (ji21)
                        · rw [if_pos c24] at H
                          have c24b0 : ((Go.bits .and .u64 x4_2 (IntKind.u64.wrap ((ji18) - 1))) == (ji21)) = true := beq_iff_eq.mpr c24
                          have c24b1 : ((Go.bits .and .u64 x4_2 (IntKind.u64.wrap ((ji18) - 1))) != (ji21)) = false := bne_eq_false_iff_eq.mpr c24
                          clear c24
                          have H' := Aside0.mk H
                          clear H
                          go_wp2
                          go_meet
                          case rel => exact ⟨_, (((Go.bits .and .u64 (ji16) 1) == 1)), (by first | rfl | (simp; done) | (simp only [← hji16] <;> (first | rfl | simp)) | (simp [*]; done)), H', ⟨by have := HJ2.out; have := HK2.out; first | omega | exact Nat.le_refl _⟩, by repeat (first | exact Drawn0.refl _ | apply Drawn0.step)⟩
                        · rw [if_neg c24] at H
                          have c24b0 : ((Go.bits .and .u64 x4_2 (IntKind.u64.wrap ((ji18) - 1))) == (ji21)) = false := beq_eq_false_iff_ne.mpr c24
                          have c24b1 : ((Go.bits .and .u64 x4_2 (IntKind.u64.wrap ((ji18) - 1))) != (ji21)) = true := bne_iff_ne.mpr c24
                          have H' := Aside0.mk H
                          clear H
                          go_wp2
                          go_meet
                          case rel => exact ⟨_, (false), (by first | rfl | (simp; done) | (simp [*]; done)), H', ⟨by have := HJ2.out; have := HK2.out; first | omega | exact Nat.le_refl _⟩, by repeat (first | exact Drawn0.refl _ | apply Drawn0.step)⟩
                    case rest =>
                      clear HC22
                      try clear c1
                      try clear c2
                      try clear c2b0
                      try clear c2b1
                      try clear p2
                      try clear c4
                      try clear c4b0
                      try clear c5
                      try clear c5b0
                      try clear p6
                      try clear c7
                      try clear c7b0
                      try clear c7b1
                      try clear c9
                      try clear c9b0
                      try clear c9b1
                      try clear c10
                      try clear c10b0
                      try clear c12
                      try clear c12b0
                      try clear c12b1
                      try clear c15
                      try clear c15b0
                      try clear c15b1
                      try clear c17
                      try clear c17b0
                      try clear c20
                      try clear c20b0
                      try clear c20b1
                      try clear c23
                      try clear c23b0
                      try clear c24
                      try clear c24b0
                      try clear c24b1
                      try clear p2
                      obtain ⟨kq, x71_21, rfl, HA, HJ21, ⟨mc21, rfl⟩⟩ := hcut
                      cases kq with
                      | zero => exact absurd HA.out (by simp [falseworkref1_Of.j2])
                      | succ kj21 =>
                        have H := HA.out
                        clear HA
                        simp only [falseworkref1_Of.j2] at H
                        by_cases c25 : x71_21 = true
                        · subst c25
                          have H1 : (if (IntKind.u64.wrap (ji16 + 1)) = 9007199254740992 then (some (Go.bits .or .u64 (Go.bits .or .u64 x3_2 (IntKind.u64.wrap ((IntKind.u64.wrap (wrap64 ((wrap64 (x5_2 + 1)) + 1023))) * 4503599627370496))) (Go.bits .and .u64 ((IntKind.u64.wrap (ji16 + 1)) / 2) 4503599627370495))) else (some (Go.bits .or .u64 (Go.bits .or .u64 x3_2 (IntKind.u64.wrap ((IntKind.u64.wrap (wrap64 (x5_2 + 1023))) * 4503599627370496))) (Go.bits .and .u64 (IntKind.u64.wrap (ji16 + 1)) 4503599627370495)))) = some r := by rw [if_pos rfl] at H; exact H
                          clear H
                          have H := H1
                          clear H1
                          by_cases c26 : (IntKind.u64.wrap (ji16 + 1)) = 9007199254740992
                          · rw [if_pos c26] at H
                            have c26b0 : ((IntKind.u64.wrap (ji16 + 1)) == 9007199254740992) = true := beq_iff_eq.mpr c26
                            have c26b1 : ((IntKind.u64.wrap (ji16 + 1)) != 9007199254740992) = false := bne_eq_false_iff_eq.mpr c26
                            clear c26
                            obtain rfl := Option.some.inj H
                            go_wp2
                            go_ret
                            exact ⟨by first | rfl | (simp; done) | (simp only [← hji14, ← hji16, ← hji18, ← hji19, ← hji21] <;> (first | rfl | simp)) | (simp [*]; done), by repeat (first | exact Drawn0.refl _ | apply Drawn0.step)⟩
                          · rw [if_neg c26] at H
                            have c26b0 : ((IntKind.u64.wrap (ji16 + 1)) == 9007199254740992) = false := beq_eq_false_iff_ne.mpr c26
                            have c26b1 : ((IntKind.u64.wrap (ji16 + 1)) != 9007199254740992) = true := bne_iff_ne.mpr c26
                            obtain rfl := Option.some.inj H
                            go_wp2
                            go_ret
                            exact ⟨by first | rfl | (simp; done) | (simp only [← hji14, ← hji16, ← hji18, ← hji19, ← hji21] <;> (first | rfl | simp)) | (simp [*]; done), by repeat (first | exact Drawn0.refl _ | apply Drawn0.step)⟩
                        · replace c25 := Bool.eq_false_iff.mpr c25
                          subst c25
                          have H1 : (if ji16 = 9007199254740992 then (some (Go.bits .or .u64 (Go.bits .or .u64 x3_2 (IntKind.u64.wrap ((IntKind.u64.wrap (wrap64 ((wrap64 (x5_2 + 1)) + 1023))) * 4503599627370496))) (Go.bits .and .u64 (ji16 / 2) 4503599627370495))) else (some (Go.bits .or .u64 (Go.bits .or .u64 x3_2 (IntKind.u64.wrap ((IntKind.u64.wrap (wrap64 (x5_2 + 1023))) * 4503599627370496))) (Go.bits .and .u64 ji16 4503599627370495)))) = some r := by rw [if_neg (show ¬ (false = true) by decide)] at H; exact H
                          clear H
                          have H := H1
                          clear H1
                          by_cases c27 : ji16 = 9007199254740992
                          · rw [if_pos c27] at H
                            have c27b0 : (ji16 == 9007199254740992) = true := beq_iff_eq.mpr c27
                            have c27b1 : (ji16 != 9007199254740992) = false := bne_eq_false_iff_eq.mpr c27
                            clear c27
                            obtain rfl := Option.some.inj H
                            go_wp2
                            go_ret
                            exact ⟨by first | rfl | (simp; done) | (simp only [← hji14, ← hji16, ← hji18, ← hji19, ← hji21] <;> (first | rfl | simp)) | (simp [*]; done), by repeat (first | exact Drawn0.refl _ | apply Drawn0.step)⟩
                          · rw [if_neg c27] at H
                            have c27b0 : (ji16 == 9007199254740992) = false := beq_eq_false_iff_ne.mpr c27
                            have c27b1 : (ji16 != 9007199254740992) = true := bne_iff_ne.mpr c27
                            obtain rfl := Option.some.inj H
                            go_wp2
                            go_ret
                            exact ⟨by first | rfl | (simp; done) | (simp only [← hji14, ← hji16, ← hji18, ← hji19, ← hji21] <;> (first | rfl | simp)) | (simp [*]; done), by repeat (first | exact Drawn0.refl _ | apply Drawn0.step)⟩
                  · rw [if_neg c20] at H
                    exact absurd H (by simp)
                · rw [if_neg c15] at H
                  exact absurd H (by simp)

end Go.Proofs.Ytijdengicjjebaa.PA
