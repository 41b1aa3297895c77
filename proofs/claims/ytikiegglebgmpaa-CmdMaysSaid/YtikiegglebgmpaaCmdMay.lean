/- Which commands may be: what the program's and the document's functions come to: one truth, told from some number of rounds on. -/
import Derived.Test.YtikiegglebgmpaaCMx0
import Derived.Test.YtikiegglebgmpaaCMx3
import Derived.Test.YtikiegglebgmpaaCMx4
import Derived.Test.YtikiegglebgmpaaCMx5
import Derived.Test.YtikiegglebgmpaaCMx6
import Derived.Test.YtikiegglebgmpaaCMx7
import Derived.Test.YtikiegglebgmpaaLibsCM
namespace Go.Proofs.Ytikiegglebgmpaa.PA
open Go.RowKit Go.Proofs.YtikiegglebgmpaaW.PrintWords Go.Proofs.YtikiegglebgmpaaW.PrintLast Go.Proofs.Ytikiegglebgmpaa.Plain

/-- From some number of rounds on this is told. -/
def Tells (F : Nat → Option Bool) (b : Bool) : Prop := ∃ K : Nat, ∀ k, K ≤ k → F k = some b
theorem Tells.step {F G : Nat → Option Bool} {b : Bool} (h : Tells G b) (m : Nat) (e : ∀ k, m ≤ k → F (k + 1) = G k) : Tells F b := by
  obtain ⟨K, h2⟩ := h
  refine ⟨K + m + 1, fun k hk => ?_⟩
  obtain ⟨j, rfl⟩ : ∃ j, k = j + 1 := ⟨k - 1, by omega⟩
  rw [e j (by omega), h2 j (by omega)]
theorem Tells.const {F : Nat → Option Bool} {b : Bool} (m : Nat) (e : ∀ k, m ≤ k → F (k + 1) = some b) : Tells F b :=
  ⟨m + 1, fun k hk => by obtain ⟨j, rfl⟩ : ∃ j, k = j + 1 := ⟨k - 1, by omega⟩; exact e j (by omega)⟩
theorem Tells.and {F G : Nat → Option Bool} {a b : Bool} (hF : Tells F a) (hG : Tells G b) : Tells (fun k => (F k).bind fun t => if t = true then G k else some false) (a && b) := by
  obtain ⟨K, h1⟩ := hF
  obtain ⟨J, h2⟩ := hG
  refine ⟨K + J, fun k hk => ?_⟩
  show ((F k).bind fun t => if t = true then G k else some false) = some (a && b)
  rw [h1 k (by omega), Option.bind_some]
  cases a
  · rfl
  · rw [if_pos rfl, h2 k (by omega)]; rfl
theorem Tells.eq {F G : Nat → Option Bool} {b : Bool} (h : Tells G b) (e : ∀ k, F k = G k) : Tells F b := by
  obtain ⟨K, h2⟩ := h
  exact ⟨K, fun k hk => by rw [e, h2 k hk]⟩
theorem downT (n : Nat) (P : Nat → Prop) (hn : P n) (st : ∀ i, i < n → P (i + 1) → P i) : ∀ i, i ≤ n → P i := by
  intro i hi
  obtain ⟨d, hd⟩ : ∃ d, i + d = n := ⟨n - i, by omega⟩
  clear hi
  revert i
  induction d with
  | zero => intro i hd; obtain rfl : i = n := by omega
            exact hn
  | succ d ih => intro i hd; exact st i (by omega) (ih (i + 1) (by omega))
def befo (p : Option ByteArray) (x : ByteArray) : Bool := match p with
  | none => true
  | some q => Op.bytesLess q.toList x.toList
def keysOk : Option ByteArray → List ByteArray → Bool
  | _, [] => true
  | p, x :: r => (decide (x.size ≤ 1000) && befo p x) && keysOk (some x) r
def rangesOk (l : List Rx) : Bool := l.all fun r => decide (r.f0.size ≤ 1000) && decide (r.f1.size ≤ 1000)
def mayV (x : Vx) : Bool := mayB x.f0 x.f1 x.f2.toNat x.f3.data.toList
def rowOk (r : List Vx) : Bool := decide (r.length ≤ 8) && r.all mayV
def timeOk (n : Int) : Bool := decide (0 ≤ n) && decide (n ≤ 1099511627776)
/-- May a command be? -/
def cmdOk (a0 a1 a2 a3 : Int) (l4 : List ByteArray) (l5 : List Rx) (l6 : List Wx) (a7 a8 a9 : Int) (a10 : ByteArray) (a11 : Int) (l12 : List (List Vx)) : Bool :=
  (decide (0 ≤ a0) && decide (a0 ≤ 5) && decide (0 ≤ a1) && decide (a1 ≤ 100) && decide (a10.size ≤ 1000) && decide (0 ≤ a11) && decide (a11 ≤ 21) && decide (l12.length ≤ 200)) &&
  ([a2, a3, a7, a8, a9].all timeOk && (l12.all rowOk && ((keysOk none l4 && (rangesOk l5 && (decide (l4.length ≤ 200) && decide (l5.length ≤ 50)))) && (cmd_writes.chk none l6 && decide (l6.length ≤ 200)))))
/-- The key ahead of a place. -/
def pk (l : List ByteArray) : Nat → Option ByteArray
  | 0 => none
  | n + 1 => some (l.getD n ByteArray.empty)
theorem keysOk_at {l : List ByteArray} {i : Nat} (h : i < l.length) : keysOk (pk l i) (l.drop i) = ((decide ((l.getD i ByteArray.empty).size ≤ 1000) && befo (pk l i) (l.getD i ByteArray.empty)) && keysOk (pk l (i + 1)) (l.drop (i + 1))) := by
  rw [dropD h ByteArray.empty]; rfl
theorem all_at {α : Type} {l : List α} {i : Nat} (h : i < l.length) (d : α) (f : α → Bool) : (l.drop i).all f = (f (l.getD i d) && (l.drop (i + 1)).all f) := by
  rw [dropD h d]; rfl
theorem may_v {x : Vx} (h : (Lit.int .u64 x.f2).wf = true) : value_May.f x.f0 x.f1 x.f2 x.f3 = some (mayV x) := by
  obtain ⟨n, e, hn⟩ := u64_nat h
  unfold mayV
  rw [e, value_may_is x.f0 x.f1 hn x.f3, Int.toNat_natCast]
theorem ref_may_v {x : Vx} (h : (Lit.int .u64 x.f2).wf = true) : falseworkref2_May.f x.f0 x.f1 x.f2 x.f3 = some (mayV x) := by
  obtain ⟨n, e, hn⟩ := u64_nat h
  unfold mayV
  rw [e, ref_may_is x.f0 x.f1 hn x.f3, Int.toNat_natCast]
theorem short1 (s : ByteArray) {k : Nat} (hk : 3 ≤ k) : cmd_short.f k [s] = some (decide (s.size ≤ 1000)) := by
  obtain ⟨j, rfl⟩ : ∃ j, k = j + 3 := ⟨k - 3, by omega⟩
  have e : rdOf ByteArray.empty [s] 0 = s := rfl
  have e1 : wrap64 (1 : Int) = 1 := by unfold wrap64; omega
  by_cases h : ((s.size : Int) > 1000)
  · have h2 : ¬ s.size ≤ 1000 := by omega
    simp [cmd_short.f, cmd_short.l0, e, h, h2]
  · have h2 : s.size ≤ 1000 := by omega
    simp [cmd_short.f, cmd_short.l0, e, e1, h, h2]
theorem short2 (s t : ByteArray) {k : Nat} (hk : 4 ≤ k) : cmd_short.f k [s, t] = some (decide (s.size ≤ 1000) && decide (t.size ≤ 1000)) := by
  obtain ⟨j, rfl⟩ : ∃ j, k = j + 4 := ⟨k - 4, by omega⟩
  have e : rdOf ByteArray.empty [s, t] 0 = s := rfl
  have e2 : rdOf ByteArray.empty [s, t] 1 = t := rfl
  have e1 : wrap64 (1 : Int) = 1 := by unfold wrap64; omega
  have e3 : wrap64 (2 : Int) = 2 := by unfold wrap64; omega
  by_cases h : ((s.size : Int) > 1000)
  · have h2 : ¬ s.size ≤ 1000 := by omega
    simp [cmd_short.f, cmd_short.l0, e, h, h2]
  · have h2 : s.size ≤ 1000 := by omega
    by_cases g : ((t.size : Int) > 1000)
    · have g2 : ¬ t.size ≤ 1000 := by omega
      simp [cmd_short.f, cmd_short.l0, e, e1, e2, h, h2, g, g2]
    · have g2 : t.size ≤ 1000 := by omega
      simp [cmd_short.f, cmd_short.l0, e, e1, e2, e3, h, h2, g, g2]
theorem wm {i : Nat} (h : 0 < i) (hn : i ≤ 9223372036854775807) : wrap64 ((i : Int) - 1) = ((i - 1 : Nat) : Int) := by unfold wrap64; omega
theorem rdN (l : List ByteArray) (i : Nat) : rdOf ByteArray.empty l (i : Int) = l.getD i ByteArray.empty := by unfold rdOf; rw [Int.toNat_natCast]
theorem rdR (l : List Rx) (i : Nat) : rd_T50 l (i : Int) = l.getD i z50 := by unfold rd_T50; rw [Int.toNat_natCast]
theorem rdW (l : List Wx) (i : Nat) : rd_T41 l (i : Int) = l.getD i z41 := by unfold rd_T41; rw [Int.toNat_natCast]
theorem rdV (l : List Vx) (i : Nat) : rd_T45 l (i : Int) = l.getD i z45 := by unfold rd_T45; rw [Int.toNat_natCast]
theorem rdL (l : List (List Vx)) (i : Nat) : rd_L7 l (i : Int) = l.getD i [] := by unfold rd_L7; rw [Int.toNat_natCast]
theorem pk_pos {l : List ByteArray} {i : Nat} (h : 0 < i) : pk l i = some (l.getD (i - 1) ByteArray.empty) := by
  obtain ⟨m, rfl⟩ : ∃ m, i = m + 1 := ⟨i - 1, by omega⟩
  rfl
section
variable (a0 a1 a2 a3 : Int) (l4 : List ByteArray) (l5 : List Rx) (l6 : List Wx) (a7 a8 a9 : Int) (a10 : ByteArray) (a11 : Int) (l12 : List (List Vx))
theorem reads_ranges (h5 : l5.length ≤ maxLen) : ∀ i, i ≤ l5.length → Tells (fun k => cmd_reads.l1 k l5 (l5.length : Int) (i : Int) a0 a1 a2 a3 l4 l5 l6 a7 a8 a9 a10 a11 l12) ((l5.drop i).all (fun r => decide (r.f0.size ≤ 1000) && decide (r.f1.size ≤ 1000)) && (decide (l4.length ≤ 200) && decide (l5.length ≤ 50))) := by
  refine downT _ _ ?_ (fun i hi ih => ?_)
  · refine Tells.const 0 (fun k _ => ?_)
    simp only [cmd_reads.l1]
    rw [if_neg (by omega), List.drop_length, List.all_nil, Bool.true_and]
    by_cases h : l4.length ≤ 200
    · rw [if_pos (by omega), decide_eq_true h, Bool.true_and]; congr 1; exact decide_eq_decide.mpr (by omega)
    · rw [if_neg (by omega), decide_eq_false h]; rfl
  · rw [all_at hi z50]
    cases hp : (decide ((l5.getD i z50).f0.size ≤ 1000) && decide ((l5.getD i z50).f1.size ≤ 1000))
    · refine Tells.const 4 (fun k hk => ?_)
      simp only [cmd_reads.l1]
      rw [if_pos (by omega), if_pos (by omega), if_pos (by omega), rdR, short2 _ _ hk, Option.bind_some, hp]; rfl
    · rw [Bool.true_and]
      refine ih.step 4 (fun k hk => ?_)
      simp only [cmd_reads.l1]
      rw [if_pos (by omega), if_pos (by omega), if_pos (by omega), rdR, short2 _ _ hk, Option.bind_some, hp, if_pos rfl, wi hi h5]
theorem reads_keys (h4 : l4.length ≤ maxLen) (h5 : l5.length ≤ maxLen) : ∀ i, i ≤ l4.length → Tells (fun k => cmd_reads.l0 k l4 (l4.length : Int) (i : Int) a0 a1 a2 a3 l4 l5 l6 a7 a8 a9 a10 a11 l12) (keysOk (pk l4 i) (l4.drop i) && (rangesOk l5 && (decide (l4.length ≤ 200) && decide (l5.length ≤ 50)))) := by
  refine downT _ _ ?_ (fun i hi ih => ?_)
  · have h := reads_ranges a0 a1 a2 a3 l4 l5 l6 a7 a8 a9 a10 a11 l12 h5 0 (Nat.zero_le _)
    rw [List.drop_zero] at h
    rw [List.drop_length]
    refine h.step 0 (fun k _ => ?_)
    simp only [cmd_reads.l0]
    rw [if_neg (by omega)]; rfl
  · rw [keysOk_at hi]
    cases hs : decide ((l4.getD i ByteArray.empty).size ≤ 1000)
    · refine Tells.const 3 (fun k hk => ?_)
      simp only [cmd_reads.l0]
      rw [if_pos (by omega), if_pos (by omega), if_pos (by omega), rdN, short1 _ hk, Option.bind_some, hs]; rfl
    · rw [Bool.true_and]
      by_cases hz : 0 < i
      · have hb : befo (pk l4 i) (l4.getD i ByteArray.empty) = Op.bytesLess (l4.getD (i - 1) ByteArray.empty).toList (l4.getD i ByteArray.empty).toList := by rw [pk_pos hz]; rfl
        have hm := hi
        have hM := h4
        unfold maxLen at hM
        have hw := wm hz (show i ≤ 9223372036854775807 by omega)
        cases hl : Op.bytesLess (l4.getD (i - 1) ByteArray.empty).toList (l4.getD i ByteArray.empty).toList
        · rw [hb, hl]
          refine Tells.const 3 (fun k hk => ?_)
          simp only [cmd_reads.l0]
          rw [if_pos (by omega), if_pos (by omega), if_pos (by omega), rdN, short1 _ hk, Option.bind_some, hs, if_pos rfl, if_pos (by omega), hw, if_pos (by omega), if_pos (by omega), rdN, hl]; rfl
        · rw [hb, hl, Bool.true_and]
          refine ih.step 3 (fun k hk => ?_)
          simp only [cmd_reads.l0]
          rw [if_pos (by omega), if_pos (by omega), if_pos (by omega), rdN, short1 _ hk, Option.bind_some, hs, if_pos rfl, if_pos (by omega), hw, if_pos (by omega), if_pos (by omega), rdN, hl, if_pos rfl, wi hi h4]
      · obtain rfl : i = 0 := by omega
        have hb : befo (pk l4 0) (l4.getD 0 ByteArray.empty) = true := rfl
        rw [hb, Bool.true_and]
        refine ih.step 3 (fun k hk => ?_)
        simp only [cmd_reads.l0]
        rw [if_pos (by omega), if_pos (by omega), if_pos (by omega), rdN, short1 _ hk, Option.bind_some, hs, if_pos rfl, if_neg (by omega), wi hi h4]
theorem reads_is (h4 : l4.length ≤ maxLen) (h5 : l5.length ≤ maxLen) : Tells (fun k => cmd_reads.f k a0 a1 a2 a3 l4 l5 l6 a7 a8 a9 a10 a11 l12) (keysOk none l4 && (rangesOk l5 && (decide (l4.length ≤ 200) && decide (l5.length ≤ 50)))) := by
  have h := reads_keys a0 a1 a2 a3 l4 l5 l6 a7 a8 a9 a10 a11 l12 h4 h5 0 (Nat.zero_le _)
  rw [List.drop_zero] at h
  exact h.eq (fun _ => rfl)
theorem times_is (Z : Bool) (h1 : Tells (fun k => cmd_May.l1 k l12 (l12.length : Int) 0 a0 a1 a2 a3 l4 l5 l6 a7 a8 a9 a10 a11 l12) Z) (l : List Int) (hl : l.length ≤ 1000) : ∀ i, i ≤ l.length → Tells (fun k => cmd_May.l0 k l (l.length : Int) (i : Int) a0 a1 a2 a3 l4 l5 l6 a7 a8 a9 a10 a11 l12) ((l.drop i).all timeOk && Z) := by
  refine downT _ _ ?_ (fun i hi ih => ?_)
  · rw [List.drop_length, List.all_nil, Bool.true_and]
    refine h1.step 0 (fun k _ => ?_)
    simp only [cmd_May.l0]
    rw [if_neg (by omega)]
  · have hr : rd l (i : Int) = l.getD i 0 := by unfold rd; rw [Int.toNat_natCast]
    rw [all_at hi 0]
    cases hp : timeOk (l.getD i 0)
    · refine Tells.const 0 (fun k _ => ?_)
      simp only [cmd_May.l0]
      rw [if_pos (by omega), if_pos (by omega), if_pos (by omega), hr]
      by_cases hz : l.getD i 0 < 0
      · rw [if_pos hz]; rfl
      · rw [if_neg hz, if_pos ?_]
        · rfl
        · unfold timeOk at hp
          rw [decide_eq_true (show 0 ≤ l.getD i 0 by omega), Bool.true_and] at hp
          have := of_decide_eq_false hp
          omega
    · rw [Bool.true_and]
      unfold timeOk at hp
      rw [Bool.and_eq_true, decide_eq_true_eq, decide_eq_true_eq] at hp
      refine ih.step 0 (fun k _ => ?_)
      simp only [cmd_May.l0]
      rw [if_pos (by omega), if_pos (by omega), if_pos (by omega), hr, if_neg (by omega), if_neg (by omega), wi hi (by unfold maxLen; omega)]
theorem may_rows (hl : l12.length ≤ maxLen) (hr : ∀ r ∈ l12, r.length ≤ maxLen ∧ ∀ x ∈ r, (Lit.int .u64 x.f2).wf = true) (Z : Bool)
    (hz : Tells (fun k => (cmd_reads.f k a0 a1 a2 a3 l4 l5 l6 a7 a8 a9 a10 a11 l12).bind fun t => if t = true then ((cmd_writes.f a0 a1 a2 a3 l4 l5 l6 a7 a8 a9 a10 a11 l12).bind fun u => some u) else some false) Z) :
    ∀ i, i ≤ l12.length → Tells (fun k => cmd_May.l1 k l12 (l12.length : Int) (i : Int) a0 a1 a2 a3 l4 l5 l6 a7 a8 a9 a10 a11 l12) ((l12.drop i).all rowOk && Z) := by
  refine downT _ _ ?_ (fun i hi ih => ?_)
  · rw [List.drop_length, List.all_nil, Bool.true_and]
    refine hz.step 0 (fun k _ => ?_)
    simp only [cmd_May.l1]
    rw [if_neg (by omega)]
  · rw [all_at hi []]
    obtain ⟨row, hrow⟩ : ∃ r, l12.getD i [] = r := ⟨_, rfl⟩
    have hm := hr row (by rw [← hrow, List.getD_eq_getElem?_getD, List.getElem?_eq_getElem hi, Option.getD_some]; exact List.getElem_mem hi)
    rw [hrow]
    have inner : ∀ e, e ≤ row.length → Tells (fun k => cmd_May.l2 k row l12 (l12.length : Int) (i : Int) row (row.length : Int) (e : Int) a0 a1 a2 a3 l4 l5 l6 a7 a8 a9 a10 a11 l12) ((row.drop e).all mayV && (decide (row.length ≤ 8) && ((l12.drop (i + 1)).all rowOk && Z))) := by
      refine downT _ _ ?_ (fun e he ie => ?_)
      · rw [List.drop_length, List.all_nil, Bool.true_and]
        by_cases h8 : row.length ≤ 8
        · rw [decide_eq_true h8, Bool.true_and]
          refine ih.step 0 (fun k _ => ?_)
          simp only [cmd_May.l2]
          rw [if_neg (by omega), if_neg (by omega), wi hi hl]
        · rw [decide_eq_false h8]
          refine Tells.const 0 (fun k _ => ?_)
          simp only [cmd_May.l2]
          rw [if_neg (by omega), if_pos (by omega)]; rfl
      · rw [all_at he z45]
        have hv : (Lit.int .u64 (row.getD e z45).f2).wf = true := hm.2 _ (by rw [List.getD_eq_getElem?_getD, List.getElem?_eq_getElem he, Option.getD_some]; exact List.getElem_mem he)
        cases hp : mayV (row.getD e z45)
        · refine Tells.const 0 (fun k _ => ?_)
          simp only [cmd_May.l2]
          rw [if_pos (by omega), if_pos (by omega), if_pos (by omega), rdV, may_v hv, Option.bind_some, hp]; rfl
        · rw [Bool.true_and]
          refine ie.step 0 (fun k _ => ?_)
          simp only [cmd_May.l2]
          rw [if_pos (by omega), if_pos (by omega), if_pos (by omega), rdV, may_v hv, Option.bind_some, hp, if_pos rfl, wi he hm.1]
    have h0 := inner 0 (Nat.zero_le _)
    rw [List.drop_zero] at h0
    have e : (rowOk row && (l12.drop (i + 1)).all rowOk && Z) = (row.all mayV && (decide (row.length ≤ 8) && ((l12.drop (i + 1)).all rowOk && Z))) := by
      unfold rowOk
      cases row.all mayV <;> cases decide (row.length ≤ 8) <;> rfl
    rw [e]
    refine h0.step 0 (fun k _ => ?_)
    simp only [cmd_May.l1]
    rw [if_pos (by omega), if_pos (by omega), if_pos (by omega), rdL, hrow]
    rfl
theorem may_is (h4 : l4.length ≤ maxLen) (h5 : l5.length ≤ maxLen) (h6 : l6.length < 800000000) (hl : l12.length ≤ maxLen) (hr : ∀ r ∈ l12, r.length ≤ maxLen ∧ ∀ x ∈ r, (Lit.int .u64 x.f2).wf = true) :
    Tells (fun k => cmd_May.f k a0 a1 a2 a3 l4 l5 l6 a7 a8 a9 a10 a11 l12) (cmdOk a0 a1 a2 a3 l4 l5 l6 a7 a8 a9 a10 a11 l12) := by
  have hw : ∀ Q : Int, cmd_writes.f a0 a1 a2 a3 l4 l5 l6 a7 a8 a9 a10 a11 l12 = some (cmd_writes.chk none l6 && decide (l6.length ≤ 200)) := by
    intro _
    unfold cmd_writes.f
    rw [if_pos h6]
    congr 2
    exact decide_eq_decide.mpr (by omega)
  have hz := (reads_is a0 a1 a2 a3 l4 l5 l6 a7 a8 a9 a10 a11 l12 h4 h5).and (G := fun _ => some (cmd_writes.chk none l6 && decide (l6.length ≤ 200))) ⟨0, fun _ _ => rfl⟩
  have h1 := may_rows a0 a1 a2 a3 l4 l5 l6 a7 a8 a9 a10 a11 l12 hl hr _ (hz.eq (fun k => by rw [hw 0]; rfl)) 0 (Nat.zero_le _)
  rw [List.drop_zero] at h1
  have h2 := times_is a0 a1 a2 a3 l4 l5 l6 a7 a8 a9 a10 a11 l12 _ h1 [a2, a3, a7, a8, a9] (show 5 ≤ 1000 by decide) 0 (Nat.zero_le _)
  rw [List.drop_zero] at h2
  have h3 : ∀ b : Bool, Tells (fun k => cmd_May.j0 k b a0 a1 a2 a3 l4 l5 l6 a7 a8 a9 a10 a11 l12) (!b && ([a2, a3, a7, a8, a9].all timeOk && (l12.all rowOk && ((keysOk none l4 && (rangesOk l5 && (decide (l4.length ≤ 200) && decide (l5.length ≤ 50)))) && (cmd_writes.chk none l6 && decide (l6.length ≤ 200)))))) := by
    intro b
    cases b
    · exact h2.step 0 (fun k _ => by simp only [cmd_May.j0]; rfl)
    · exact Tells.const 0 (fun k _ => by simp only [cmd_May.j0]; rfl)
  have ht := h3 true
  unfold cmdOk
  by_cases c0 : a0 < 0
  · rw [decide_eq_false (show ¬ 0 ≤ a0 by omega)]; exact ht.eq (fun k => by unfold cmd_May.f; rw [if_pos c0])
  rw [decide_eq_true (show 0 ≤ a0 by omega)]
  by_cases c1 : a0 > 5
  · rw [decide_eq_false (show ¬ a0 ≤ 5 by omega)]; exact ht.eq (fun k => by unfold cmd_May.f; rw [if_neg c0, if_pos c1])
  rw [decide_eq_true (show a0 ≤ 5 by omega)]
  by_cases c2 : a1 < 0
  · rw [decide_eq_false (show ¬ 0 ≤ a1 by omega)]; exact ht.eq (fun k => by unfold cmd_May.f; rw [if_neg c0, if_neg c1, if_pos c2])
  rw [decide_eq_true (show 0 ≤ a1 by omega)]
  by_cases c3 : a1 > 100
  · rw [decide_eq_false (show ¬ a1 ≤ 100 by omega)]; exact ht.eq (fun k => by unfold cmd_May.f; rw [if_neg c0, if_neg c1, if_neg c2, if_pos c3])
  rw [decide_eq_true (show a1 ≤ 100 by omega)]
  by_cases c4 : (a10.size : Int) > 1000
  · rw [decide_eq_false (show ¬ a10.size ≤ 1000 by omega)]; exact ht.eq (fun k => by unfold cmd_May.f; rw [if_neg c0, if_neg c1, if_neg c2, if_neg c3, if_pos c4])
  rw [decide_eq_true (show a10.size ≤ 1000 by omega)]
  by_cases c5 : a11 < 0
  · rw [decide_eq_false (show ¬ 0 ≤ a11 by omega)]; exact ht.eq (fun k => by unfold cmd_May.f; rw [if_neg c0, if_neg c1, if_neg c2, if_neg c3, if_neg c4, if_pos c5])
  rw [decide_eq_true (show 0 ≤ a11 by omega)]
  by_cases c6 : a11 > 21
  · rw [decide_eq_false (show ¬ a11 ≤ 21 by omega)]; exact ht.eq (fun k => by unfold cmd_May.f; rw [if_neg c0, if_neg c1, if_neg c2, if_neg c3, if_neg c4, if_neg c5, if_pos c6])
  rw [decide_eq_true (show a11 ≤ 21 by omega)]
  have e7 : decide (l12.length ≤ 200) = !(decide ((l12.length : Int) > 200)) := by
    rw [← decide_not]; exact decide_eq_decide.mpr (by omega)
  rw [e7]
  exact (h3 (decide ((l12.length : Int) > 200))).eq (fun k => by unfold cmd_May.f; rw [if_neg c0, if_neg c1, if_neg c2, if_neg c3, if_neg c4, if_neg c5, if_neg c6])
end
end Go.Proofs.Ytikiegglebgmpaa.PA
