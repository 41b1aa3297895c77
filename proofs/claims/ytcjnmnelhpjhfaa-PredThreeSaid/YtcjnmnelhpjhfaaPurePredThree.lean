/- Of two values just one of the same, below, above holds; of null none is known; null is asked for by name: for all numbers. -/
import Derived.Test.YtcjnmnelhpjhfaaPDx0
import Derived.Test.YtcjnmnelhpjhfaaPDx2
import Derived.Test.YtcjnmnelhpjhfaaPDx7
import Derived.Test.YtcjnmnelhpjhfaaPDx8
import Derived.Test.YtcjnmnelhpjhfaaPDx9
import Derived.Test.YtcjnmnelhpjhfaaLibsPD
namespace Go.Proofs.Ytcjnmnelhpjhfaa.Pure
open Go.RowKit Go.Proofs.Ytcjnmnelhpjhfaa.PA Go.Proofs.YtcjnmnelhpjhfaaW.PrintWords Go.Proofs.YtcjnmnelhpjhfaaW.PrintLast Go.Proofs.Ytcjnmnelhpjhfaa.Plain

def qcols : List Col := [⟨1, ⟨#[97]⟩, 2, 4, 0, ⟨0, 0, 0, ⟨#[]⟩⟩⟩, ⟨2, ⟨#[98]⟩, 2, 4, 0, ⟨0, 0, 0, ⟨#[]⟩⟩⟩]
def qnum (a : Int) : Vc := ⟨2, a, 0, ⟨#[]⟩⟩
def qnull : Vc := ⟨0, 0, 0, ⟨#[]⟩⟩
def qvals (a : Int) : List Vc := [qnum a, qnull]
theorem fa : pred_of.find (⟨#[97]⟩ : ByteArray) qcols = ((0 : Nat) : Int) := by decide +kernel
theorem fb : pred_of.find (⟨#[98]⟩ : ByteArray) qcols = ((1 : Nat) : Int) := by decide +kernel
theorem check0 (nm : ByteArray) (i : Nat) (s : Int) (V : Vc) (h1 : 1 ≤ s) (h5 : s ≤ 5) (hm : mayV V = true) (hk : V.f0 = 0 ∨ V.f0 = 2) (hf : pred_of.find nm qcols = (i : Int)) (hi : (rd_T51 qcols (i : Int)).f2 = 2) : checkC qcols ⟨nm, s, V⟩ = 0 := by
  unfold checkC
  dsimp only
  rw [hf, if_neg (by omega), if_neg (by omega), if_neg (by omega), hm, if_neg (by decide), hi]
  rcases hk with hk | hk
  · rw [if_pos hk]
  · rw [if_neg (by omega), if_pos hk]
theorem step1 (r : Int) (h : r = -1 ∨ r = 0 ∨ r = 1) : stepC 1 r = r := by rcases h with rfl | rfl | rfl <;> rfl
theorem test1 (a : Int) (nm : ByteArray) (i : Nat) (s : Int) (V v : Vc) (h1 : 1 ≤ s) (h5 : s ≤ 5) (hm : mayV V = true) (hk : V.f0 = 0 ∨ V.f0 = 2) (hf : pred_of.find nm qcols = (i : Int)) (hi : (rd_T51 qcols (i : Int)).f2 = 2) (hv : rd_T40 (qvals a) (i : Int) = v) :
    testV qcols (qvals a) [⟨nm, s, V⟩] = (oneV v ⟨nm, s, V⟩, 0) := by
  unfold testV
  rw [checkL_cons, if_pos (check0 nm i s V h1 h5 hm hk hf hi), if_pos (show checkL qcols [] = 0 from rfl), if_pos (by rfl)]
  show (stepC 1 (oneV (rd_T40 (qvals a) (pred_of.find nm qcols)) ⟨nm, s, V⟩), (0 : Int)) = _
  rw [hf, hv, step1 _ (oneV_range _ _)]
theorem q_good {a : Int} (ha : (Lit.int .i64 a).wf = true) : ∀ v ∈ qvals a, Vc.Good v := all2 (num_good 2 a (by decide) ha) (num_good 0 0 (by decide) (by decide))
theorem wf_small {s : Int} (h1 : 1 ≤ s) (h5 : s ≤ 5) : (Lit.int .i64 s).wf = true := by
  have h2 : IntKind.i64.min = -9223372036854775808 := by decide
  have h3 : IntKind.i64.max = 9223372036854775807 := by decide
  have : IntKind.i64.min ≤ s ∧ s ≤ IntKind.i64.max := by rw [h2, h3]; omega
  simpa [Lit.wf] using this
theorem one_len : ([⟨⟨#[97]⟩, 1, qnull⟩] : List Cnd).length ≤ maxLen := by show 1 ≤ maxLen; unfold maxLen; omega
/-- One condition: what the test tells. -/
theorem ask_a {a : Int} (ha : (Lit.int .i64 a).wf = true) (s : Int) (V : Vc) (gV : V.Good) (h1 : 1 ≤ s) (h5 : s ≤ 5) (hm : mayV V = true) (hk : V.f0 = 0 ∨ V.f0 = 2) (K : Nat) (hK : 64 ≤ K) :
    pred_Test.f K qcols (qvals a) [⟨⟨#[97]⟩, s, V⟩] = some (oneV (qnum a) ⟨⟨#[97]⟩, s, V⟩, 0) := by
  rw [test_is qcols (qvals a) (q_good ha) [⟨⟨#[97]⟩, s, V⟩] (all1 (cnd_good 97 s V (wf_small h1 h5) gV)) one_len K (by show 2 * 1 + 60 ≤ K; omega), test1 a ⟨#[97]⟩ 0 s V (qnum a) h1 h5 hm hk fa (by decide +kernel) rfl]
theorem ask_b {a : Int} (ha : (Lit.int .i64 a).wf = true) (s : Int) (V : Vc) (gV : V.Good) (h1 : 1 ≤ s) (h5 : s ≤ 5) (hm : mayV V = true) (hk : V.f0 = 0 ∨ V.f0 = 2) (K : Nat) (hK : 64 ≤ K) :
    pred_Test.f K qcols (qvals a) [⟨⟨#[98]⟩, s, V⟩] = some (oneV qnull ⟨⟨#[98]⟩, s, V⟩, 0) := by
  rw [test_is qcols (qvals a) (q_good ha) [⟨⟨#[98]⟩, s, V⟩] (all1 (cnd_good 98 s V (wf_small h1 h5) gV)) one_len K (by show 2 * 1 + 60 ≤ K; omega), test1 a ⟨#[98]⟩ 1 s V qnull h1 h5 hm hk fb (by decide +kernel) rfl]
theorem may_null : mayV qnull = true := by decide +kernel
theorem null_good : qnull.Good := num_good 0 0 (by decide) (by decide)
theorem ask_ab {a : Int} (ha : (Lit.int .i64 a).wf = true) (K : Nat) (hK : 64 ≤ K) :
    pred_Test.f K qcols (qvals a) [⟨⟨#[97]⟩, 5, qnull⟩, ⟨⟨#[98]⟩, 5, qnull⟩] = some (0, 0) := by
  rw [test_is qcols (qvals a) (q_good ha) [⟨⟨#[97]⟩, 5, qnull⟩, ⟨⟨#[98]⟩, 5, qnull⟩] (all2 (cnd_good 97 5 _ (by decide) null_good) (cnd_good 98 5 _ (by decide) null_good)) (by show 2 ≤ maxLen; unfold maxLen; omega) K (by show 2 * 2 + 60 ≤ K; omega)]
  unfold testV
  rw [checkL_cons, if_pos (check0 ⟨#[97]⟩ 0 5 qnull (by decide) (by decide) may_null (.inl rfl) fa (by decide +kernel)), checkL_cons, if_pos (check0 ⟨#[98]⟩ 1 5 qnull (by decide) (by decide) may_null (.inl rfl) fb (by decide +kernel)), if_pos (show checkL qcols [] = 0 from rfl), if_pos (by rfl)]
  show some (stepC (stepC 1 (oneV (rd_T40 (qvals a) (pred_of.find ⟨#[97]⟩ qcols)) ⟨⟨#[97]⟩, 5, qnull⟩)) (oneV (rd_T40 (qvals a) (pred_of.find ⟨#[98]⟩ qcols)) ⟨⟨#[98]⟩, 5, qnull⟩), (0 : Int)) = _
  rw [fa, fb]
  rfl
/-- Once round: one of the three questions. -/
theorem round_is {a : Int} (ha : (Lit.int .i64 a).wf = true) (nul : Bool) (V : Vc) (gV : V.Good) (hm : mayV V = true) (hk : V.f0 = 0 ∨ V.f0 = 2) (hn : nul = true → V.f0 = 0) (n i : Int) (h1 : 1 ≤ i) (h3 : i ≤ 3) (K : Nat) (hK : 64 ≤ K) :
    falseworklaw18_PredThree.l0 (K + 1) nul (qvals a) n i V.f0 V.f1 V.f2 V.f3 = falseworklaw18_PredThree.l0 K nul (qvals a) (wrap64 (n + oneV (qnum a) ⟨⟨#[97]⟩, i, V⟩)) (wrap64 (i + 1)) V.f0 V.f1 V.f2 V.f3 := by
  have pa := ask_a ha i V gV h1 (by omega) hm hk K hK
  have pb := ask_b ha i V gV h1 (by omega) hm hk K hK
  have ob : oneV qnull ⟨⟨#[98]⟩, i, V⟩ = -1 := by
    unfold oneV
    dsimp only
    rw [if_neg (by omega), if_neg (by omega), if_pos (show qnull.f0 = 0 from rfl)]
  simp only [falseworklaw18_PredThree.l0]
  rw [if_pos h3]
  unfold falseworklaw18_cols.f falseworklaw18_num.f
  simp only [Option.bind_some]
  show (pred_Test.f K qcols (qvals a) [⟨⟨#[97]⟩, i, V⟩]).bind _ = _
  rw [pa, Option.bind_some]
  show (pred_Test.f K qcols (qvals a) [⟨⟨#[98]⟩, i, V⟩]).bind _ = _
  rw [pb, Option.bind_some]
  dsimp only
  rw [if_pos rfl, if_pos rfl, if_pos ob]
  cases nul
  · rw [if_neg (by decide)]
  · rw [if_pos rfl, if_pos]
    have h0 := hn rfl
    unfold oneV
    dsimp only
    rw [if_neg (by omega), if_neg (by omega), if_neg (show ¬ (qnum a).f0 = 0 from by show ¬ (2 : Int) = 0; decide), if_pos h0]
/-- Behind the three questions: those by name. -/
theorem last_is {a : Int} (ha : (Lit.int .i64 a).wf = true) (nul : Bool) (n x y z : Int) (s : ByteArray) (hn : nul = true ∨ n = 1) (K : Nat) (hK : 70 ≤ K) :
    falseworklaw18_PredThree.l0 (K + 1) nul (qvals a) n 4 x y z s = some true := by
  have p1 := ask_a ha 4 qnull null_good (by decide) (by decide) may_null (.inl rfl) K (by omega)
  have p2 := ask_b ha 4 qnull null_good (by decide) (by decide) may_null (.inl rfl) K (by omega)
  have p3 := ask_ab ha K (by omega)
  simp only [falseworklaw18_PredThree.l0]
  rw [if_neg (by decide)]
  unfold falseworklaw18_cols.f
  simp only [Option.bind_some]
  show (pred_Test.f K qcols (qvals a) [⟨⟨#[97]⟩, 4, qnull⟩]).bind _ = _
  rw [p1, Option.bind_some]
  show (pred_Test.f K qcols (qvals a) [⟨⟨#[98]⟩, 4, qnull⟩]).bind _ = _
  rw [p2, Option.bind_some]
  show (pred_Test.f K qcols (qvals a) [⟨⟨#[97]⟩, 5, qnull⟩, ⟨⟨#[98]⟩, 5, qnull⟩]).bind _ = _
  rw [p3, Option.bind_some, pred_awake_true K hK]
  have o1 : oneV (qnum a) ⟨⟨#[97]⟩, 4, qnull⟩ = 0 := rfl
  have o2 : oneV qnull ⟨⟨#[98]⟩, 4, qnull⟩ = 1 := rfl
  dsimp only
  rw [o1, o2]
  cases nul
  · have : n = 1 := by rcases hn with h | h; cases h; exact h
    rw [if_neg (by decide), if_pos this]; rfl
  · rw [if_pos rfl]; rfl
theorem PredThree : falseworklaw18_PredThree.Pure := by
  intro a b nul ha hb
  refine ⟨200, ?_⟩
  unfold falseworklaw18_PredThree.f
  rw [Option.bind_some]
  have w1 : wrap64 ((1 : Int) + 1) = 2 := by decide +kernel
  have w2 : wrap64 ((2 : Int) + 1) = 3 := by decide +kernel
  have w3 : wrap64 ((3 : Int) + 1) = 4 := by decide +kernel
  have go : ∀ (V : Vc), V.Good → mayV V = true → (V.f0 = 0 ∨ V.f0 = 2) → (nul = true → V.f0 = 0) → (nul = true ∨ V.f0 = 2) →
      falseworklaw18_PredThree.j0 200 nul (qvals a) V.f0 V.f1 V.f2 V.f3 = some true := by
    intro V gV hm hk hn hn2
    simp only [falseworklaw18_PredThree.j0]
    rw [round_is ha nul V gV hm hk hn 0 1 (by decide) (by decide) 198 (by decide), w1, round_is ha nul V gV hm hk hn _ 2 (by decide) (by decide) 197 (by decide), w2, round_is ha nul V gV hm hk hn _ 3 (by decide) (by decide) 196 (by decide), w3]
    refine last_is ha nul _ _ _ _ _ ?_ 195 (by decide)
    rcases hn2 with h | h
    · exact .inl h
    · right
      have o : ∀ s : Int, oneV (qnum a) ⟨⟨#[97]⟩, s, V⟩ = if s = 4 then 0 else if s = 5 then 1 else if s = 1 then (if vcmp (qnum a) V = 0 then 1 else 0) else if s = 2 then (if vcmp (qnum a) V < 0 then 1 else 0) else (if vcmp (qnum a) V > 0 then 1 else 0) := by
        intro s
        unfold oneV
        dsimp only
        rw [if_neg (show ¬ (qnum a).f0 = 0 from by show ¬ (2 : Int) = 0; decide), if_neg (show ¬ (qnum a).f0 = 0 from by show ¬ (2 : Int) = 0; decide), if_neg (show ¬ (qnum a).f0 = 0 from by show ¬ (2 : Int) = 0; decide), if_neg (c := V.f0 = 0) (by omega)]
      rw [o, o, o]
      generalize vcmp (qnum a) V = c
      have q1 : (if (1 : Int) = 4 then (0 : Int) else if (1 : Int) = 5 then 1 else if (1 : Int) = 1 then (if c = 0 then 1 else 0) else if (1 : Int) = 2 then (if c < 0 then 1 else 0) else (if c > 0 then 1 else 0)) = if c = 0 then 1 else 0 := rfl
      have q2 : (if (2 : Int) = 4 then (0 : Int) else if (2 : Int) = 5 then 1 else if (2 : Int) = 1 then (if c = 0 then 1 else 0) else if (2 : Int) = 2 then (if c < 0 then 1 else 0) else (if c > 0 then 1 else 0)) = if c < 0 then 1 else 0 := rfl
      have q3 : (if (3 : Int) = 4 then (0 : Int) else if (3 : Int) = 5 then 1 else if (3 : Int) = 1 then (if c = 0 then 1 else 0) else if (3 : Int) = 2 then (if c < 0 then 1 else 0) else (if c > 0 then 1 else 0)) = if c > 0 then 1 else 0 := rfl
      rw [q1, q2, q3]
      rcases Int.lt_trichotomy c 0 with h | h | h
      · rw [if_neg (by omega), if_pos h, if_neg (by omega)]; decide +kernel
      · rw [if_pos h, if_neg (by omega), if_neg (by omega)]; decide +kernel
      · rw [if_neg (by omega), if_neg (by omega), if_pos h]; decide +kernel
  cases nul
  · rw [if_neg (by decide)]
    have hm : mayV (qnum b) = true := by
      show mayB 2 b 0 [] = true
      rfl
    exact go (qnum b) (num_good 2 b (by decide) hb) hm (.inr rfl) (fun h => by cases h) (.inr rfl)
  · rw [if_pos rfl]
    exact go qnull null_good may_null (.inl rfl) (fun _ => rfl) (.inl rfl)
end Go.Proofs.Ytcjnmnelhpjhfaa.Pure
