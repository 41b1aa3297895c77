/- Which commands may be: what the document's function comes to: the same truth as the program's. -/
import Derived.Test.YtikiegglebgmpaaCMx0
import Derived.Test.YtikiegglebgmpaaCMx5
import Derived.Test.YtikiegglebgmpaaCMx7
import Derived.Test.YtikiegglebgmpaaCMx8
import Derived.Test.YtikiegglebgmpaaCMx9
import Derived.Test.YtikiegglebgmpaaCMx10
import Derived.Test.YtikiegglebgmpaaCmdMay
namespace Go.Proofs.Ytikiegglebgmpaa.PA
open Go.RowKit Go.Proofs.YtikiegglebgmpaaW.PrintWords Go.Proofs.YtikiegglebgmpaaW.PrintLast Go.Proofs.Ytikiegglebgmpaa.Plain

theorem rises_at (l : List ByteArray) (h4 : l.length ≤ maxLen) : ∀ i, i ≤ l.length → Tells (fun k => falseworkref6_rises.l0 k l (i : Int)) (keysOk (pk l i) (l.drop i)) := by
  refine downT _ _ ?_ (fun i hi ih => ?_)
  · rw [List.drop_length]
    refine Tells.const 0 (fun k _ => ?_)
    simp only [falseworkref6_rises.l0]
    rw [if_neg (by omega)]; rfl
  · rw [keysOk_at hi]
    by_cases hs : (l.getD i ByteArray.empty).size ≤ 1000
    · rw [decide_eq_true hs, Bool.true_and]
      by_cases hz : 0 < i
      · have hb : befo (pk l i) (l.getD i ByteArray.empty) = Op.bytesLess (l.getD (i - 1) ByteArray.empty).toList (l.getD i ByteArray.empty).toList := by rw [pk_pos hz]; rfl
        have hM := h4
        unfold maxLen at hM
        have hw := wm hz (show i ≤ 9223372036854775807 by omega)
        cases hl : Op.bytesLess (l.getD (i - 1) ByteArray.empty).toList (l.getD i ByteArray.empty).toList
        · rw [hb, hl]
          refine Tells.const 0 (fun k hk => ?_)
          simp only [falseworkref6_rises.l0]
          rw [if_pos (by omega), if_pos (by omega), rdN, if_neg (by omega), if_pos (by omega), hw, if_pos (by omega), if_pos (by omega), rdN, hl]; rfl
        · rw [hb, hl, Bool.true_and]
          refine ih.step 0 (fun k hk => ?_)
          simp only [falseworkref6_rises.l0]
          rw [if_pos (by omega), if_pos (by omega), rdN, if_neg (by omega), if_pos (by omega), hw, if_pos (by omega), if_pos (by omega), rdN, hl, if_pos rfl, wi hi h4]
      · obtain rfl : i = 0 := by omega
        have hb : befo (pk l 0) (l.getD 0 ByteArray.empty) = true := rfl
        rw [hb, Bool.true_and]
        refine ih.step 0 (fun k hk => ?_)
        simp only [falseworkref6_rises.l0]
        rw [if_pos (by omega), if_pos (by omega), rdN, if_neg (by omega), if_neg (by omega), wi hi h4]
    · rw [decide_eq_false hs]
      refine Tells.const 0 (fun k hk => ?_)
      simp only [falseworkref6_rises.l0]
      rw [if_pos (by omega), if_pos (by omega), rdN, if_pos (by omega)]; rfl
theorem rises_is (l : List ByteArray) (h4 : l.length ≤ maxLen) : Tells (fun k => falseworkref6_rises.f k l) (keysOk none l) := by
  have h := rises_at l h4 0 (Nat.zero_le _)
  rw [List.drop_zero] at h
  exact h.eq (fun _ => rfl)
theorem pv_pos {l : List Wx} {i : Nat} (h : 0 < i) : cmd_writes.pv l i = some (l.getD (i - 1) z41).f0 := by
  obtain ⟨m, rfl⟩ : ∃ m, i = m + 1 := ⟨i - 1, by omega⟩
  rfl
theorem rwrites_at (l : List Wx) (h4 : l.length ≤ maxLen) : ∀ i, i ≤ l.length → Tells (fun k => falseworkref6_writes.l0 k l (i : Int)) (cmd_writes.chk (cmd_writes.pv l i) (l.drop i)) := by
  refine downT _ _ ?_ (fun i hi ih => ?_)
  · rw [List.drop_length]
    refine Tells.const 0 (fun k _ => ?_)
    simp only [falseworkref6_writes.l0]
    rw [if_neg (by omega)]; rfl
  · have hst : cmd_writes.chk (cmd_writes.pv l i) (l.drop i) = (cmd_writes.ok (cmd_writes.pv l i) (l.getD i z41) && cmd_writes.chk (cmd_writes.pv l (i + 1)) (l.drop (i + 1))) := cmd_writes.chk_step (cmd_writes.drop_at hi) _
    rw [hst]
    unfold cmd_writes.ok
    by_cases h0 : (l.getD i z41).f0.size ≤ 1000
    · rw [decide_eq_true h0, Bool.true_and]
      by_cases h1 : (l.getD i z41).f1.size ≤ 10000
      · rw [decide_eq_true h1, Bool.true_and]
        have fin : ∀ (G : Nat → Option Bool), (∀ k, falseworkref6_writes.l0 (k + 1) l (i : Int) = G k) →
            (∀ k, G k = (if (i : Int) > 0 then (if 0 ≤ (wrap64 ((i : Int) - 1)) then (if (wrap64 ((i : Int) - 1)) < (l.length : Int) then (if ((Op.bytesLess (((rd_T41 l (wrap64 ((i : Int) - 1))).f0).toList) (((rd_T41 l (i : Int)).f0).toList)) = true) then (falseworkref6_writes.l0 k l (wrap64 ((i : Int) + 1))) else (some false)) else (none)) else (none)) else (falseworkref6_writes.l0 k l (wrap64 ((i : Int) + 1))))) →
            Tells (fun k => falseworkref6_writes.l0 k l (i : Int)) ((match cmd_writes.pv l i with | none => true | some q => Op.bytesLess q.toList (l.getD i z41).f0.toList) && cmd_writes.chk (cmd_writes.pv l (i + 1)) (l.drop (i + 1))) := by
          intro G hG hk
          by_cases hz : 0 < i
          · rw [pv_pos hz]
            have hM := h4
            unfold maxLen at hM
            have hw := wm hz (show i ≤ 9223372036854775807 by omega)
            show Tells _ (Op.bytesLess (l.getD (i - 1) z41).f0.toList (l.getD i z41).f0.toList && cmd_writes.chk (cmd_writes.pv l (i + 1)) (l.drop (i + 1)))
            cases hl : Op.bytesLess (l.getD (i - 1) z41).f0.toList (l.getD i z41).f0.toList
            · refine Tells.const 0 (fun k _ => ?_)
              rw [hG, hk, if_pos (by omega), hw, if_pos (by omega), if_pos (by omega), rdW, rdW, hl]; rfl
            · rw [Bool.true_and]
              refine ih.step 0 (fun k _ => ?_)
              rw [hG, hk, if_pos (by omega), hw, if_pos (by omega), if_pos (by omega), rdW, rdW, hl, if_pos rfl, wi hi h4]
          · obtain rfl : i = 0 := by omega
            show Tells _ (true && cmd_writes.chk (cmd_writes.pv l (0 + 1)) (l.drop (0 + 1)))
            rw [Bool.true_and]
            refine ih.step 0 (fun k _ => ?_)
            rw [hG, hk, if_neg (by omega), wi hi h4]
        cases hd : (l.getD i z41).f2
        · rw [Bool.false_and, Bool.not_false, Bool.true_and]
          refine fin _ (fun k => ?_) (fun k => rfl)
          simp only [falseworkref6_writes.l0]
          rw [if_pos (by omega), if_pos (by omega), rdW, if_neg (by omega), if_neg (by omega), hd, if_neg (by decide)]
        · by_cases he : (l.getD i z41).f1.toList = []
          · rw [show ((l.getD i z41).f1.toList != []) = false by rw [he]; rfl, Bool.and_false, Bool.not_false, Bool.true_and]
            refine fin _ (fun k => ?_) (fun k => rfl)
            simp only [falseworkref6_writes.l0]
            rw [if_pos (by omega), if_pos (by omega), rdW, if_neg (by omega), if_neg (by omega), hd, if_pos rfl, if_pos he]
          · rw [show ((l.getD i z41).f1.toList != []) = true from by simpa using he]
            refine Tells.const 0 (fun k _ => ?_)
            simp only [falseworkref6_writes.l0]
            rw [if_pos (by omega), if_pos (by omega), rdW, if_neg (by omega), if_neg (by omega), hd, if_pos rfl, if_neg he]; rfl
      · rw [decide_eq_false h1]
        refine Tells.const 0 (fun k _ => ?_)
        simp only [falseworkref6_writes.l0]
        rw [if_pos (by omega), if_pos (by omega), rdW, if_neg (by omega), if_pos (by omega)]; rfl
    · rw [decide_eq_false h0]
      refine Tells.const 0 (fun k _ => ?_)
      simp only [falseworkref6_writes.l0]
      rw [if_pos (by omega), if_pos (by omega), rdW, if_pos (by omega)]; rfl
theorem rwrites_is (l : List Wx) (h4 : l.length ≤ maxLen) : Tells (fun k => falseworkref6_writes.f k l) (cmd_writes.chk none l) := by
  have h := rwrites_at l h4 0 (Nat.zero_le _)
  rw [List.drop_zero] at h
  exact h.eq (fun _ => rfl)
theorem time_is (n : Int) : falseworkref6_time.f n = some (timeOk n) := by
  unfold falseworkref6_time.f timeOk
  by_cases h : n ≥ 0
  · rw [if_pos h, decide_eq_true (show 0 ≤ n by omega), Bool.true_and]
  · rw [if_neg h, decide_eq_false (show ¬ 0 ≤ n by omega)]; rfl
section
variable (a0 a1 a2 a3 : Int) (l4 : List ByteArray) (l5 : List Rx) (l6 : List Wx) (a7 a8 a9 : Int) (a10 : ByteArray) (a11 : Int) (l12 : List (List Vx))
theorem rmay_rows (hl : l12.length ≤ maxLen) (hr : ∀ r ∈ l12, r.length ≤ maxLen ∧ ∀ x ∈ r, (Lit.int .u64 x.f2).wf = true) (h4 : l4.length ≤ maxLen) (h6 : l6.length ≤ maxLen) :
    ∀ i, i ≤ l12.length → Tells (fun k => falseworkref6_CmdMay.l1 k (i : Int) a0 a1 a2 a3 l4 l5 l6 a7 a8 a9 a10 a11 l12) ((l12.drop i).all rowOk && (keysOk none l4 && cmd_writes.chk none l6)) := by
  refine downT _ _ ?_ (fun i hi ih => ?_)
  · rw [List.drop_length, List.all_nil, Bool.true_and]
    refine ((rises_is l4 h4).and (rwrites_is l6 h6)).step 0 (fun k _ => ?_)
    simp only [falseworkref6_CmdMay.l1]
    rw [if_neg (by omega)]
    cases falseworkref6_rises.f k l4 with
    | none => rfl
    | some t =>
      rw [Option.bind_some, Option.bind_some]
      cases t
      · rfl
      · rw [if_pos rfl, if_pos rfl]; cases falseworkref6_writes.f k l6 <;> rfl
  · rw [all_at hi []]
    obtain ⟨row, hrow⟩ : ∃ r, l12.getD i [] = r := ⟨_, rfl⟩
    have hm := hr row (by rw [← hrow, List.getD_eq_getElem?_getD, List.getElem?_eq_getElem hi, Option.getD_some]; exact List.getElem_mem hi)
    rw [hrow]
    unfold rowOk
    by_cases h8 : row.length ≤ 8
    · rw [decide_eq_true h8, Bool.true_and]
      have inner : ∀ e, e ≤ row.length → Tells (fun k => falseworkref6_CmdMay.l2 k (i : Int) (e : Int) a0 a1 a2 a3 l4 l5 l6 a7 a8 a9 a10 a11 l12) ((row.drop e).all mayV && ((l12.drop (i + 1)).all rowOk && (keysOk none l4 && cmd_writes.chk none l6))) := by
        refine downT _ _ ?_ (fun e he ie => ?_)
        · rw [List.drop_length, List.all_nil, Bool.true_and]
          refine ih.step 0 (fun k _ => ?_)
          simp only [falseworkref6_CmdMay.l2]
          rw [if_pos (by omega), if_pos (by omega), rdL, hrow, if_neg (by omega), wi hi hl]
        · rw [all_at he z45]
          have hv : (Lit.int .u64 (row.getD e z45).f2).wf = true := hm.2 _ (by rw [List.getD_eq_getElem?_getD, List.getElem?_eq_getElem he, Option.getD_some]; exact List.getElem_mem he)
          cases hp : mayV (row.getD e z45)
          · refine Tells.const 0 (fun k _ => ?_)
            simp only [falseworkref6_CmdMay.l2]
            rw [if_pos (by omega), if_pos (by omega), rdL, hrow, if_pos (by omega), if_pos (by omega), rdV, ref_may_v hv, Option.bind_some, hp]; rfl
          · rw [Bool.true_and]
            refine ie.step 0 (fun k _ => ?_)
            simp only [falseworkref6_CmdMay.l2]
            rw [if_pos (by omega), if_pos (by omega), rdL, hrow, if_pos (by omega), if_pos (by omega), rdV, ref_may_v hv, Option.bind_some, hp, if_pos rfl, wi he hm.1]
      have h0 := inner 0 (Nat.zero_le _)
      rw [List.drop_zero, ← Bool.and_assoc] at h0
      refine h0.step 0 (fun k _ => ?_)
      simp only [falseworkref6_CmdMay.l1]
      rw [if_pos (by omega), if_pos (by omega), rdL, hrow, if_neg (by omega)]
      rfl
    · rw [decide_eq_false h8]
      refine Tells.const 0 (fun k _ => ?_)
      simp only [falseworkref6_CmdMay.l1]
      rw [if_pos (by omega), if_pos (by omega), rdL, hrow, if_pos (by omega)]; rfl
theorem rmay_ranges (Z : Bool) (hz : Tells (fun k => falseworkref6_CmdMay.l1 k 0 a0 a1 a2 a3 l4 l5 l6 a7 a8 a9 a10 a11 l12) Z) (h5 : l5.length ≤ maxLen) :
    ∀ i, i ≤ l5.length → Tells (fun k => falseworkref6_CmdMay.l0 k (i : Int) a0 a1 a2 a3 l4 l5 l6 a7 a8 a9 a10 a11 l12) ((l5.drop i).all (fun r => decide (r.f0.size ≤ 1000) && decide (r.f1.size ≤ 1000)) && Z) := by
  refine downT _ _ ?_ (fun i hi ih => ?_)
  · rw [List.drop_length, List.all_nil, Bool.true_and]
    refine hz.step 0 (fun k _ => ?_)
    simp only [falseworkref6_CmdMay.l0]
    rw [if_neg (by omega)]
  · rw [all_at hi z50]
    by_cases h0 : (l5.getD i z50).f0.size ≤ 1000
    · rw [decide_eq_true h0, Bool.true_and]
      by_cases h1 : (l5.getD i z50).f1.size ≤ 1000
      · rw [decide_eq_true h1, Bool.true_and]
        refine ih.step 0 (fun k _ => ?_)
        simp only [falseworkref6_CmdMay.l0]
        rw [if_pos (by omega), if_pos (by omega), rdR, if_neg (by omega), if_neg (by omega), wi hi h5]
      · rw [decide_eq_false h1]
        refine Tells.const 0 (fun k _ => ?_)
        simp only [falseworkref6_CmdMay.l0]
        rw [if_pos (by omega), if_pos (by omega), rdR, if_neg (by omega), if_pos (by omega)]; rfl
    · rw [decide_eq_false h0]
      refine Tells.const 0 (fun k _ => ?_)
      simp only [falseworkref6_CmdMay.l0]
      rw [if_pos (by omega), if_pos (by omega), rdR, if_pos (by omega)]; rfl
theorem rmay_is (h4 : l4.length ≤ maxLen) (h5 : l5.length ≤ maxLen) (h6 : l6.length ≤ maxLen) (hl : l12.length ≤ maxLen) (hr : ∀ r ∈ l12, r.length ≤ maxLen ∧ ∀ x ∈ r, (Lit.int .u64 x.f2).wf = true) :
    Tells (fun k => falseworkref6_CmdMay.f k a0 a1 a2 a3 l4 l5 l6 a7 a8 a9 a10 a11 l12) (cmdOk a0 a1 a2 a3 l4 l5 l6 a7 a8 a9 a10 a11 l12) := by
  obtain ⟨R, hR⟩ : ∃ R : Bool, R = (l12.all rowOk && (keysOk none l4 && cmd_writes.chk none l6)) := ⟨_, rfl⟩
  have h1 := rmay_rows a0 a1 a2 a3 l4 l5 l6 a7 a8 a9 a10 a11 l12 hl hr h4 h6 0 (Nat.zero_le _)
  rw [List.drop_zero, ← hR] at h1
  have h2 := rmay_ranges a0 a1 a2 a3 l4 l5 l6 a7 a8 a9 a10 a11 l12 R h1 h5 0 (Nat.zero_le _)
  rw [List.drop_zero] at h2
  have j1 : ∀ b : Bool, Tells (fun k => falseworkref6_CmdMay.j1 k b a0 a1 a2 a3 l4 l5 l6 a7 a8 a9 a10 a11 l12) (!b && (rangesOk l5 && R)) := by
    intro b
    cases b
    · exact h2.step 0 (fun k _ => by simp only [falseworkref6_CmdMay.j1]; rfl)
    · exact Tells.const 0 (fun k _ => by simp only [falseworkref6_CmdMay.j1]; rfl)
  have j0t : Tells (fun k => falseworkref6_CmdMay.j0 k true a0 a1 a2 a3 l4 l5 l6 a7 a8 a9 a10 a11 l12) false := Tells.const 0 (fun k _ => by simp only [falseworkref6_CmdMay.j0]; rfl)
  have j0f : Tells (fun k => falseworkref6_CmdMay.j0 k false a0 a1 a2 a3 l4 l5 l6 a7 a8 a9 a10 a11 l12)
      (decide (l4.length ≤ 200) && (decide (l5.length ≤ 50) && (decide (l6.length ≤ 200) && (decide (a10.size ≤ 1000) && (decide (0 ≤ a11) && (decide (a11 ≤ 21) && (decide (l12.length ≤ 200) && (rangesOk l5 && R)))))))) := by
    have jt := j1 true
    by_cases c0 : (l4.length : Int) > 200
    · rw [decide_eq_false (show ¬ l4.length ≤ 200 by omega)]; exact jt.step 0 (fun k _ => by simp only [falseworkref6_CmdMay.j0]; rw [if_neg (by decide), if_pos c0])
    rw [decide_eq_true (show l4.length ≤ 200 by omega), Bool.true_and]
    by_cases c1 : (l5.length : Int) > 50
    · rw [decide_eq_false (show ¬ l5.length ≤ 50 by omega)]; exact jt.step 0 (fun k _ => by simp only [falseworkref6_CmdMay.j0]; rw [if_neg (by decide), if_neg c0, if_pos c1])
    rw [decide_eq_true (show l5.length ≤ 50 by omega), Bool.true_and]
    by_cases c2 : (l6.length : Int) > 200
    · rw [decide_eq_false (show ¬ l6.length ≤ 200 by omega)]; exact jt.step 0 (fun k _ => by simp only [falseworkref6_CmdMay.j0]; rw [if_neg (by decide), if_neg c0, if_neg c1, if_pos c2])
    rw [decide_eq_true (show l6.length ≤ 200 by omega), Bool.true_and]
    by_cases c3 : (a10.size : Int) > 1000
    · rw [decide_eq_false (show ¬ a10.size ≤ 1000 by omega)]; exact jt.step 0 (fun k _ => by simp only [falseworkref6_CmdMay.j0]; rw [if_neg (by decide), if_neg c0, if_neg c1, if_neg c2, if_pos c3])
    rw [decide_eq_true (show a10.size ≤ 1000 by omega), Bool.true_and]
    by_cases c4 : a11 < 0
    · rw [decide_eq_false (show ¬ 0 ≤ a11 by omega)]; exact jt.step 0 (fun k _ => by simp only [falseworkref6_CmdMay.j0]; rw [if_neg (by decide), if_neg c0, if_neg c1, if_neg c2, if_neg c3, if_pos c4])
    rw [decide_eq_true (show 0 ≤ a11 by omega), Bool.true_and]
    by_cases c5 : a11 > 21
    · rw [decide_eq_false (show ¬ a11 ≤ 21 by omega)]; exact jt.step 0 (fun k _ => by simp only [falseworkref6_CmdMay.j0]; rw [if_neg (by decide), if_neg c0, if_neg c1, if_neg c2, if_neg c3, if_neg c4, if_pos c5])
    rw [decide_eq_true (show a11 ≤ 21 by omega), Bool.true_and]
    have e7 : decide (l12.length ≤ 200) = !(decide ((l12.length : Int) > 200)) := by
      rw [← decide_not]; exact decide_eq_decide.mpr (by omega)
    rw [e7]
    exact (j1 (decide ((l12.length : Int) > 200))).step 0 (fun k _ => by simp only [falseworkref6_CmdMay.j0]; rw [if_neg (by decide), if_neg c0, if_neg c1, if_neg c2, if_neg c3, if_neg c4, if_neg c5])
  have e : cmdOk a0 a1 a2 a3 l4 l5 l6 a7 a8 a9 a10 a11 l12 = (decide (0 ≤ a0) && (decide (a0 ≤ 5) && (decide (0 ≤ a1) && (decide (a1 ≤ 100) && (timeOk a2 && (timeOk a3 && (timeOk a7 && (timeOk a8 && (timeOk a9 && (decide (l4.length ≤ 200) && (decide (l5.length ≤ 50) && (decide (l6.length ≤ 200) && (decide (a10.size ≤ 1000) && (decide (0 ≤ a11) && (decide (a11 ≤ 21) && (decide (l12.length ≤ 200) && (rangesOk l5 && R))))))))))))))))) := by
    rw [hR]
    unfold cmdOk
    simp only [List.all_cons, List.all_nil, Bool.and_true]
    ac_rfl
  rw [e]
  by_cases c0 : a0 < 0
  · rw [decide_eq_false (show ¬ 0 ≤ a0 by omega)]; exact j0t.eq (fun k => by unfold falseworkref6_CmdMay.f; rw [if_pos c0])
  rw [decide_eq_true (show 0 ≤ a0 by omega), Bool.true_and]
  by_cases c1 : a0 > 5
  · rw [decide_eq_false (show ¬ a0 ≤ 5 by omega)]; exact j0t.eq (fun k => by unfold falseworkref6_CmdMay.f; rw [if_neg c0, if_pos c1])
  rw [decide_eq_true (show a0 ≤ 5 by omega), Bool.true_and]
  by_cases c2 : a1 < 0
  · rw [decide_eq_false (show ¬ 0 ≤ a1 by omega)]; exact j0t.eq (fun k => by unfold falseworkref6_CmdMay.f; rw [if_neg c0, if_neg c1, if_pos c2])
  rw [decide_eq_true (show 0 ≤ a1 by omega), Bool.true_and]
  by_cases c3 : a1 > 100
  · rw [decide_eq_false (show ¬ a1 ≤ 100 by omega)]; exact j0t.eq (fun k => by unfold falseworkref6_CmdMay.f; rw [if_neg c0, if_neg c1, if_neg c2, if_pos c3])
  rw [decide_eq_true (show a1 ≤ 100 by omega), Bool.true_and]
  have f0 : ∀ k, falseworkref6_CmdMay.f k a0 a1 a2 a3 l4 l5 l6 a7 a8 a9 a10 a11 l12 = (if timeOk a2 = true then (if timeOk a3 = true then (if timeOk a7 = true then (if timeOk a8 = true then falseworkref6_CmdMay.j0 k (!timeOk a9) a0 a1 a2 a3 l4 l5 l6 a7 a8 a9 a10 a11 l12 else falseworkref6_CmdMay.j0 k true a0 a1 a2 a3 l4 l5 l6 a7 a8 a9 a10 a11 l12) else falseworkref6_CmdMay.j0 k true a0 a1 a2 a3 l4 l5 l6 a7 a8 a9 a10 a11 l12) else falseworkref6_CmdMay.j0 k true a0 a1 a2 a3 l4 l5 l6 a7 a8 a9 a10 a11 l12) else falseworkref6_CmdMay.j0 k true a0 a1 a2 a3 l4 l5 l6 a7 a8 a9 a10 a11 l12) := by
    intro k
    unfold falseworkref6_CmdMay.f
    rw [if_neg c0, if_neg c1, if_neg c2, if_neg c3]
    simp only [time_is, Option.bind_some]
  cases t2 : timeOk a2
  · exact j0t.eq (fun k => by rw [f0, t2]; rfl)
  cases t3 : timeOk a3
  · exact j0t.eq (fun k => by rw [f0, t2, t3]; rfl)
  cases t7 : timeOk a7
  · exact j0t.eq (fun k => by rw [f0, t2, t3, t7]; rfl)
  cases t8 : timeOk a8
  · exact j0t.eq (fun k => by rw [f0, t2, t3, t7, t8]; rfl)
  cases t9 : timeOk a9
  · exact j0t.eq (fun k => by rw [f0, t2, t3, t7, t8, t9]; rfl)
  simp only [Bool.true_and]
  exact j0f.eq (fun k => by rw [f0, t2, t3, t7, t8, t9]; rfl)
end
end Go.Proofs.Ytikiegglebgmpaa.PA
