/- A row lies among its table's rows alone, an entry among its index' entries, and among those of all values that it begins with: for all numbers and values; of rows that are long, and of values that may not be, nothing is asked. -/
import Derived.Test.YtifhnkbhjmapeaaKWx5
import Derived.Test.YtifhnkbhjmapeaaKWx9
import Derived.Test.YtifhnkbhjmapeaaKWx10
import Derived.Test.YtifhnkbhjmapeaaLibsKW
namespace Go.Proofs.Ytifhnkbhjmapeaa.Pure
open Go.RowKit Go.Proofs.Ytifhnkbhjmapeaa.PA Go.Proofs.YtifhnkbhjmapeaaW.PrintWords Go.Proofs.YtifhnkbhjmapeaaW.PrintLast Go.Proofs.Ytifhnkbhjmapeaa.Plain

def withinB (k lo hi : List UInt8) : Bool := if less k lo = true then false else if hi = [] then true else less k hi
theorem within_is (a b c : List UInt8) : falseworkref7_Within.f (txt a) (txt b) (txt c) = some (withinB a b c) := by
  unfold falseworkref7_Within.f withinB
  simp only [toList_data, txt_data]
  show (if less a b = true then some false else if c = [] then some true else some (less a c)) = _
  split
  · rfl
  · split <;> rfl
theorem after_ne : ∀ {l h : List UInt8}, after l = some h → h ≠ []
  | [], h, e => by cases e
  | b :: r, h, e => by
    cases hr : after r with
    | none =>
      rw [after_none b hr] at e
      split at e
      · cases e
      · cases e; simp
    | some q => rw [after_some b hr] at e; cases e; simp
theorem after_head {c : UInt8} (r : List UInt8) (h : c ≠ 255) : ∃ q, after (c :: r) = some q := by
  cases hr : after r with
  | none => exact ⟨_, by rw [after_none c hr, if_neg h]⟩
  | some q => exact ⟨_, after_some c hr⟩
/-- Within is: it begins so. -/
theorem withinB_iff {c : UInt8} (r k : List UInt8) (h : c ≠ 255) : withinB k (c :: r) (hiL (c :: r)) = true ↔ (c :: r) <+: k := by
  obtain ⟨q, hq⟩ := after_head r h
  have hw := (within (c :: r) k).2 q hq
  unfold withinB hiL
  rw [hq, hw]
  show (if _ then false else if q = [] then true else less k q) = true ↔ _
  rw [if_neg (after_ne hq)]
  cases less k (c :: r) <;> simp
theorem prefix_nine {a b : List UInt8} (h : a.length = b.length) (p : List UInt8) : a <+: b ++ p ↔ a = b := by
  constructor
  · rintro ⟨q, hq⟩
    exact (List.append_inj hq h).1
  · rintro rfl; exact List.prefix_append _ _
theorem vn_inj {a b : Int} (ha : (Lit.int .i64 a).wf = true) (hb : (Lit.int .i64 b).wf = true) : vn a = vn b ↔ a = b := by
  constructor
  · intro h
    have h1 := (be8_inj (biased_lt (i64_bounds ha)) (biased_lt (i64_bounds hb))).1 (List.cons.inj h).2
    have a1 := i64_bounds ha
    have b1 := i64_bounds hb
    unfold biased at h1
    omega
  · intro h; rw [h]
theorem KeysWithin (tb ot : Int) (u : Bool) (l : List Vc) (f0 f1 f2 : Int) (f3 : ByteArray) (n : Int) (ht : (Lit.int .i64 tb).wf = true) (ho : (Lit.int .i64 ot).wf = true)
    (gl : l.length ≤ maxLen ∧ ∀ x ∈ l, ((Lit.int .i64 x.f0).wf = true ∧ (Lit.int .i64 x.f1).wf = true ∧ (Lit.int .u64 x.f2).wf = true ∧ x.f3.size ≤ maxLen))
    (gx : Vc.Good ⟨f0, f1, f2, f3⟩) (hn : (Lit.int .u8 n).wf = true) : ∃ K, falseworklaw21_KeysWithin.f K tb ot u l f0 f1 f2 f3 n = some true := by
  obtain ⟨x, rfl, rfl, rfl, rfl⟩ : ∃ x : Vc, x.f0 = f0 ∧ x.f1 = f1 ∧ x.f2 = f2 ∧ x.f3 = f3 := ⟨⟨f0, f1, f2, f3⟩, rfl, rfl, rfl, rfl⟩
  replace gx : x.Good := gx
  have g : ∀ y ∈ l, y.Good := gl.2
  have hn' : 0 ≤ n ∧ n < 256 := by
    have h1 : IntKind.u8.min ≤ n ∧ n ≤ IntKind.u8.max := by simpa [Lit.wf] using hn
    have h2 : IntKind.u8.min = 0 := by decide
    have h3 : IntKind.u8.max = 255 := by decide
    rw [h2, h3] at h1
    omega
  refine ⟨2200, ?_⟩
  have aw : ∀ k, 70 ≤ k → falseworklaw21_awake.f k = some true := keys_awake_true
  have w7 : (Lit.int .i64 7).wf = true := by decide
  have w8 : (Lit.int .i64 8).wf = true := by decide
  have gnil : ∀ y ∈ ([] : List Vc), y.Good := fun y hy => by cases hy
  have j1 : l.length ≤ 50 → falseworklaw21_KeysWithin.j1 2199 tb u l n false x.f0 x.f1 x.f2 x.f3 = some true := by
    intro hl
    obtain ⟨cs, hcs, hcl⟩ := index_is l.length u hl 2198 (by decide)
    simp only [falseworklaw21_KeysWithin.j1, Bool.false_eq_true, if_false]
    rw [hcs]
    simp only [Option.bind_some]
    rw [keys_entry_is ht w7 _ _ _ _ l g gx 2198 (by decide)]
    simp only [falseworklaw21_num.f, Option.bind_some]
    rw [hcl, aw 2198 (by decide)]
    by_cases c1 : (l.length = l.length ∧ ¬ x.f0 = 0 ∧ x.put.2 = 0) ∧ (l.length ≤ 16 ∧ (putT l).2 = 0)
    · obtain ⟨s, hs, hkey⟩ : ∃ s : List UInt8, entryL tb 7 l.length u l x = (s, x.put.1, 0) ∧ keyL tb 7 l <+: s := by
        unfold entryL
        rw [if_pos c1]
        refine ⟨_, rfl, ?_⟩
        split
        · exact List.prefix_refl _
        · exact List.prefix_append _ _
      rw [hs, if_pos rfl]
      have hm1 : wrap64 ((l.length : Int) + 1) = (l.length : Int) + 1 := by unfold wrap64; omega
      have hm2 : wrap64 n = n := by unfold wrap64; omega
      have hm3 : Int.tmod n ((l.length : Int) + 1) = n % ((l.length : Int) + 1) := Int.tmod_eq_emod_of_nonneg hn'.1
      have hm4 := Int.emod_nonneg n (show ((l.length : Int) + 1) ≠ 0 by omega)
      have hm5 := Int.emod_lt_of_pos n (show 0 < ((l.length : Int) + 1) by omega)
      rw [hm1, hm2, hm3, if_neg (by omega), if_pos hm4, if_pos (by omega)]
      generalize n % ((l.length : Int) + 1) = q at *
      obtain ⟨m, rfl⟩ : ∃ m : Nat, q = (m : Int) := ⟨q.toNat, by omega⟩
      rw [Int.toNat_natCast]
      obtain ⟨p1, p2, p3⟩ := putT_cut l m c1.2.2
      have gt : ∀ y ∈ l.take m, y.Good := fun y hy => g y (List.mem_of_mem_take hy)
      have e1 : entriesL tb 7 (l.take m) = (keyL tb 7 (l.take m), hiL (keyL tb 7 (l.take m)), 0) := by
        unfold entriesL
        rw [if_pos ⟨by rw [List.length_take]; omega, p1⟩]
      have e2 : entriesL tb 8 [] = (keyL tb 8 [], hiL (keyL tb 8 []), 0) := rfl
      rw [keys_entries_is ht w7 _ gt 2198 (by decide), keys_entries_is ht w8 _ gnil 2198 (by decide), e1, e2]
      simp only [Option.bind_some, if_true]
      have hw1 : withinB s (keyL tb 7 (l.take m)) (hiL (keyL tb 7 (l.take m))) = true := by
        refine (withinB_iff (c := 105) ((vn tb ++ vn 7) ++ (putT (l.take m)).1) s (by decide)).2 ?_
        refine List.IsPrefix.trans ?_ hkey
        show (105 :: (vn tb ++ vn 7)) ++ (putT (l.take m)).1 <+: (105 :: (vn tb ++ vn 7)) ++ (putT l).1
        rw [p3, ← List.append_assoc]
        exact List.prefix_append _ _
      have hw2 : withinB s (keyL tb 8 []) (hiL (keyL tb 8 [])) = false := by
        rw [← Bool.not_eq_true]
        intro h
        have ek : keyL tb 8 [] = 105 :: ((vn tb ++ vn 8) ++ []) := by simp [keyL, putT]
        rw [ek] at h
        have h := (withinB_iff (c := 105) ((vn tb ++ vn 8) ++ []) s (by decide)).1 h
        obtain ⟨r1, hr1⟩ := h
        obtain ⟨r2, hr2⟩ := hkey
        rw [← hr1] at hr2
        have hq : (105 :: (vn tb ++ vn 7)) ++ ((putT l).1 ++ r2) = (105 :: (vn tb ++ vn 8)) ++ ([] ++ r1) := by
          rw [← List.append_assoc, ← List.append_assoc]; exact hr2
        have h1 := (List.append_inj hq rfl).1
        have h2 := (List.append_inj (List.cons.inj h1).2 rfl).2
        exact absurd ((vn_inj w7 w8).1 h2) (by decide)
      have hw3 : withinB s [114] [115] = false := by
        obtain ⟨r2, hr2⟩ := hkey
        have : less s [114] = true := by
          rw [← hr2]
          show less (105 :: _) [114] = true
          rw [less_unlike (by decide)]; decide
        unfold withinB
        rw [if_pos this]
      have hlast : falseworkref7_Within.f (txt s) (⟨#[114]⟩ : ByteArray) (⟨#[115]⟩ : ByteArray) = some (withinB s [114] [115]) := within_is s [114] [115]
      rw [within_is, hw1]
      simp only [Option.bind_some, if_true]
      rw [within_is, hw2]
      simp only [Option.bind_some, Bool.false_eq_true, if_false]
      rw [hlast, hw3]
      simp only [Option.bind_some, Bool.false_eq_true, if_false]
    · have e1 : entryL tb 7 l.length u l x = ([], [], 1) := by unfold entryL; rw [if_neg c1]
      rw [e1, if_neg (by decide)]; rfl
  have j0t : falseworklaw21_KeysWithin.j0 2200 tb ot u l n true x.f0 x.f1 x.f2 x.f3 = some true := by
    simp only [falseworklaw21_KeysWithin.j0, if_true]; rw [aw 2199 (by decide)]; rfl
  have j0 : ∀ b : Bool, l.length ≤ 50 → falseworklaw21_KeysWithin.j0 2200 tb ot u l n b x.f0 x.f1 x.f2 x.f3 = some true := by
    intro b hl
    cases b
    · simp only [falseworklaw21_KeysWithin.j0, Bool.false_eq_true, if_false]
      rw [keys_row_is ht gx 2199 (by decide), keys_rows_is ht 2199 (by decide), keys_rows_is ho 2199 (by decide)]
      simp only [Option.bind_some, falseworklaw21_num.f]
      by_cases z1 : (rowL tb x).2 = 0
      · rw [if_pos z1]
        have hr : (rowL tb x).1 = 114 :: (vn tb ++ x.put.1) := by
          unfold rowL at z1 ⊢
          by_cases h : x.f0 = 0
          · rw [if_pos h] at z1; cases z1
          · rw [if_neg h] at z1 ⊢
            by_cases h' : x.put.2 = 0
            · rw [if_pos h']
            · rw [if_neg h'] at z1; cases z1
        rw [hr, within_is]
        have hw1 : withinB (114 :: (vn tb ++ x.put.1)) (rowsL tb) (hiL (rowsL tb)) = true := by
          refine (withinB_iff (vn tb) _ (by decide)).2 ?_
          rw [List.cons_prefix_cons]
          exact ⟨rfl, List.prefix_append _ _⟩
        rw [hw1]
        simp only [Option.bind_some, if_true]
        rw [within_is]
        simp only [Option.bind_some]
        have hw2 : (withinB (114 :: (vn tb ++ x.put.1)) (rowsL ot) (hiL (rowsL ot)) != (tb == ot)) = false := by
          rw [bne_eq_false_iff_eq]
          refine eq_of_beq (beq_of ?_)
          refine (withinB_iff (vn ot) _ (by decide)).trans ?_
          rw [List.cons_prefix_cons, prefix_nine (a := vn ot) (b := vn tb) rfl, vn_inj ho ht, beq_iff_eq]
          constructor
          · rintro ⟨-, h⟩; exact h.symm
          · intro h; exact ⟨rfl, h.symm⟩
        rw [hw2]
        exact j1 hl
      · rw [if_neg z1]; exact j1 hl
    · exact j0t
  unfold falseworklaw21_KeysWithin.f
  obtain ⟨ba, ha, la⟩ := keys_long_is l 2200 (by decide)
  rw [ha]
  simp only [Option.bind_some]
  cases ba
  · simp only [Bool.false_eq_true, if_false]
    exact j0 _ (la rfl)
  · exact j0t
end Go.Proofs.Ytifhnkbhjmapeaa.Pure
