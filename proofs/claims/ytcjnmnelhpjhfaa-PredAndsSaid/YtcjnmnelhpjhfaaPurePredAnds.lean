/- A row has two rows of conditions just as the lesser of both says, unknown between no and yes; their order does not matter: for all columns, values and conditions; of what is heavy nothing is asked. -/
import Derived.Test.YtcjnmnelhpjhfaaPNx0
import Derived.Test.YtcjnmnelhpjhfaaPNx2
import Derived.Test.YtcjnmnelhpjhfaaPNx3
import Derived.Test.YtcjnmnelhpjhfaaPNx9
import Derived.Test.YtcjnmnelhpjhfaaPNx10
import Derived.Test.YtcjnmnelhpjhfaaLibsPN
namespace Go.Proofs.Ytcjnmnelhpjhfaa.Pure
open Go.RowKit Go.Proofs.Ytcjnmnelhpjhfaa.PA Go.Proofs.YtcjnmnelhpjhfaaW.PrintWords Go.Proofs.YtcjnmnelhpjhfaaW.PrintLast Go.Proofs.Ytcjnmnelhpjhfaa.Plain

theorem checkL_append (cols : List Col) : ∀ (l m : List Cnd), checkL cols (l ++ m) = if checkL cols l = 0 then checkL cols m else checkL cols l
  | [], m => by simp [checkL]
  | c :: r, m => by
    rw [List.cons_append, checkL_cons, checkL_cons, checkL_append cols r m]
    by_cases h : checkC cols c = 0
    · rw [if_pos h, if_pos h]
    · rw [if_neg h, if_neg h, if_neg h]
theorem foldC_append (cols : List Col) (vals : List Vc) : ∀ (l m : List Cnd) (acc : Int), foldC cols vals acc (l ++ m) = foldC cols vals (foldC cols vals acc l) m
  | [], _, _ => rfl
  | _ :: r, m, _ => foldC_append cols vals r m _
def R3 (a : Int) : Prop := a = -1 ∨ a = 0 ∨ a = 1
theorem stepC_range {a b : Int} (ha : R3 a) (hb : R3 b) : R3 (stepC a b) := by
  rcases ha with h | h | h <;> rcases hb with e | e | e <;> subst h <;> subst e <;> first | exact .inl rfl | exact .inr (.inl rfl) | exact .inr (.inr rfl)
theorem stepC_assoc {a b c : Int} (ha : R3 a) (hb : R3 b) (hc : R3 c) : stepC (stepC a b) c = stepC a (stepC b c) := by
  rcases ha with h | h | h <;> rcases hb with e | e | e <;> rcases hc with q | q | q <;> subst h <;> subst e <;> subst q <;> rfl
theorem foldC_step (cols : List Col) (vals : List Vc) : ∀ (l : List Cnd) (acc : Int), R3 acc → foldC cols vals acc l = stepC acc (foldC cols vals 1 l)
  | [], acc, h => by rcases h with h | h | h <;> subst h <;> rfl
  | c :: r, acc, h => by
    have h1 := oneV_range (rd_T40 vals (pred_of.find c.f0 cols)) c
    show foldC cols vals (stepC acc _) r = stepC acc (foldC cols vals (stepC 1 _) r)
    rw [foldC_step cols vals r _ (stepC_range h h1), foldC_step cols vals r (stepC 1 _) (stepC_range (.inr (.inr rfl)) h1), ← stepC_assoc h (stepC_range (.inr (.inr rfl)) h1) (foldC_range cols vals r 1 (by simp))]
    congr 1
    rw [← stepC_assoc h (.inr (.inr rfl)) h1]
    rcases h with h | h | h <;> subst h <;> rfl
theorem testV_err {cols : List Col} {vals : List Vc} {l : List Cnd} (h : ¬ checkL cols l = 0) : testV cols vals l = (0, checkL cols l) := by unfold testV; rw [if_neg h]
theorem testV_len {cols : List Col} {vals : List Vc} {l : List Cnd} (h : checkL cols l = 0) (h2 : ¬ vals.length = cols.length) : testV cols vals l = (0, 1) := by unfold testV; rw [if_pos h, if_neg h2]
theorem testV_ok {cols : List Col} {vals : List Vc} {l : List Cnd} (h : checkL cols l = 0) (h2 : vals.length = cols.length) : testV cols vals l = (foldC cols vals 1 l, 0) := by unfold testV; rw [if_pos h, if_pos h2]
theorem PredAnds (cols : List Col) (vals : List Vc) (l m : List Cnd)
    (_ : cols.length ≤ maxLen ∧ ∀ x ∈ cols, ((Lit.int .i64 x.f0).wf = true ∧ x.f1.size ≤ maxLen ∧ (Lit.int .i64 x.f2).wf = true ∧ (Lit.int .i64 x.f3).wf = true ∧ (Lit.int .i64 x.f4).wf = true ∧ ((Lit.int .i64 x.f5.f0).wf = true ∧ (Lit.int .i64 x.f5.f1).wf = true ∧ (Lit.int .u64 x.f5.f2).wf = true ∧ x.f5.f3.size ≤ maxLen)))
    (bc : cols.length * 88 ≤ 140737488351232)
    (gv : vals.length ≤ maxLen ∧ ∀ x ∈ vals, ((Lit.int .i64 x.f0).wf = true ∧ (Lit.int .i64 x.f1).wf = true ∧ (Lit.int .u64 x.f2).wf = true ∧ x.f3.size ≤ maxLen))
    (bv : vals.length * 40 ≤ 140737488351232)
    (gl : l.length ≤ maxLen ∧ ∀ x ∈ l, (x.f0.size ≤ maxLen ∧ (Lit.int .i64 x.f1).wf = true ∧ ((Lit.int .i64 x.f2.f0).wf = true ∧ (Lit.int .i64 x.f2.f1).wf = true ∧ (Lit.int .u64 x.f2.f2).wf = true ∧ x.f2.f3.size ≤ maxLen)))
    (bl : l.length * 64 ≤ 140737488351232)
    (gm : m.length ≤ maxLen ∧ ∀ x ∈ m, (x.f0.size ≤ maxLen ∧ (Lit.int .i64 x.f1).wf = true ∧ ((Lit.int .i64 x.f2.f0).wf = true ∧ (Lit.int .i64 x.f2.f1).wf = true ∧ (Lit.int .u64 x.f2.f2).wf = true ∧ x.f2.f3.size ≤ maxLen)))
    (bm : m.length * 64 ≤ 140737488351232) : ∃ K, falseworklaw18_PredAnds.f K cols vals l m = some true := by
  have g : ∀ c ∈ l, Cnd.Good c := gl.2
  have g2 : ∀ c ∈ m, Cnd.Good c := gm.2
  have gw : ∀ v ∈ vals, v.Good := gv.2
  have aw : ∀ k, 70 ≤ k → falseworklaw18_awake.f k = some true := pred_awake_true
  have g12 : ∀ c ∈ l ++ m, Cnd.Good c := fun c hc => by rcases List.mem_append.1 hc with h | h; exact g c h; exact g2 c h
  have g21 : ∀ c ∈ m ++ l, Cnd.Good c := fun c hc => by rcases List.mem_append.1 hc with h | h; exact g2 c h; exact g c h
  obtain ⟨K, hK⟩ : ∃ K, K = 2 * (l.length + m.length) + vals.length + cols.length + 200 := ⟨_, rfl⟩
  refine ⟨K, ?_⟩
  have j0t : falseworklaw18_PredAnds.j0 K cols vals l m true = some true := by
    obtain ⟨k, rfl⟩ : ∃ k, K = k + 1 := ⟨K - 1, by omega⟩
    simp only [falseworklaw18_PredAnds.j0, if_true]; rw [aw k (by omega)]; rfl
  have j1t : ∀ (k : Nat) (a b x x16 y x18 : Int), 80 ≤ k → ¬ x16 = 0 → ¬ x18 = 0 → falseworklaw18_PredAnds.j1 k a b x x16 y x18 true = some true := by
    intro k a b x x16 y x18 hk h1 h2
    obtain ⟨k, rfl⟩ : ∃ q, k = q + 1 := ⟨k - 1, by omega⟩
    simp only [falseworklaw18_PredAnds.j1, falseworklaw18_num.f, if_true, Option.bind_some]
    rw [if_neg h1, if_neg h2, aw k (by omega)]; rfl
  have j1 : ∀ (k : Nat) (a b : Int), 80 ≤ k → R3 a → R3 b → falseworklaw18_PredAnds.j1 k a b (stepC a b) 0 (stepC b a) 0 false = some true := by
    intro k a b hk ha hb
    obtain ⟨k, rfl⟩ : ∃ q, k = q + 4 := ⟨k - 4, by omega⟩
    simp only [falseworklaw18_PredAnds.j1, falseworklaw18_PredAnds.j2, falseworklaw18_PredAnds.j3, falseworklaw18_PredAnds.j4, falseworklaw18_num.f, Option.bind_some, aw k (by omega)]
    rcases ha with h | h | h <;> rcases hb with e | e | e <;> subst h <;> subst e <;> rfl
  have j0 : l.length ≤ 3000 → m.length ≤ 3000 → falseworklaw18_PredAnds.j0 K cols vals l m false = some true := by
    intro h1 h2
    obtain ⟨k, rfl⟩ : ∃ k, K = k + 1 := ⟨K - 1, by omega⟩
    simp only [falseworklaw18_PredAnds.j0, Bool.false_eq_true, if_false]
    rw [test_is cols vals gw l g gl.1 k (by omega), test_is cols vals gw m g2 gm.1 k (by omega)]
    simp only [Option.bind_some, List.nil_append, List.length_nil]
    rw [if_pos (by omega), if_pos (by omega), if_pos (by omega), if_pos (by omega)]
    rw [test_is cols vals gw (l ++ m) g12 (by rw [List.length_append]; unfold maxLen; omega) k (by rw [List.length_append]; omega), test_is cols vals gw (m ++ l) g21 (by rw [List.length_append]; unfold maxLen; omega) k (by rw [List.length_append]; omega)]
    simp only [Option.bind_some, falseworklaw18_num.f]
    have c12 := checkL_append cols l m
    have c21 := checkL_append cols m l
    by_cases e1 : checkL cols l = 0
    · rw [if_pos e1] at c12
      by_cases e2 : checkL cols m = 0
      · rw [if_pos e2, e1] at c21
        rw [e2] at c12
        by_cases e3 : vals.length = cols.length
        · rw [testV_ok e1 e3, testV_ok e2 e3, testV_ok c12 e3, testV_ok c21 e3]
          have r1 := foldC_range cols vals l 1 (by simp)
          have r2 := foldC_range cols vals m 1 (by simp)
          have q1 : foldC cols vals 1 (l ++ m) = stepC (foldC cols vals 1 l) (foldC cols vals 1 m) := by rw [foldC_append, foldC_step cols vals m _ r1]
          have q2 : foldC cols vals 1 (m ++ l) = stepC (foldC cols vals 1 m) (foldC cols vals 1 l) := by rw [foldC_append, foldC_step cols vals l _ r2]
          rw [q1, q2]
          exact j1 k _ _ (by omega) r1 r2
        · rw [testV_len e1 e3, testV_len e2 e3, testV_len c12 e3, testV_len c21 e3]
          exact j1t k _ _ _ _ _ _ (by omega) (by decide) (by decide)
      · rw [if_neg e2] at c21
        have n12 : ¬ checkL cols (l ++ m) = 0 := by rw [c12]; exact e2
        have n21 : ¬ checkL cols (m ++ l) = 0 := by rw [c21]; exact e2
        rw [testV_err e2, testV_err n12, testV_err n21]
        have hb : (checkL cols m != 0) = true := bne_iff_ne.2 e2
        by_cases e3 : vals.length = cols.length
        · rw [testV_ok e1 e3]
          dsimp only
          rw [if_pos rfl, hb]
          exact j1t k _ _ _ _ _ _ (by omega) n12 n21
        · rw [testV_len e1 e3]
          exact j1t k _ _ _ _ _ _ (by omega) n12 n21
    · rw [if_neg e1] at c12
      have n12 : ¬ checkL cols (l ++ m) = 0 := by rw [c12]; exact e1
      have n21 : ¬ checkL cols (m ++ l) = 0 := by
        rw [c21]
        by_cases e2 : checkL cols m = 0
        · rw [if_pos e2]; exact e1
        · rw [if_neg e2]; exact e2
      rw [testV_err e1, testV_err n12, testV_err n21]
      dsimp only
      rw [if_neg e1]
      exact j1t k _ _ _ _ _ _ (by omega) n12 n21
  unfold falseworklaw18_PredAnds.f
  obtain ⟨ba, ha, la⟩ := heavy_is l vals cols (by omega) (by omega) (by omega) K (by omega)
  obtain ⟨bb, hb, lb⟩ := heavy_is m vals cols (by omega) (by omega) (by omega) K (by omega)
  rw [ha, hb]
  simp only [Option.bind_some]
  cases ba
  · cases bb
    · exact j0 (la rfl) (lb rfl)
    · exact j0t
  · exact j0t
end Go.Proofs.Ytcjnmnelhpjhfaa.Pure
