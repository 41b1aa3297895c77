/- Where things stand: what the program's and the document's functions come to, in plain lists of bytes. -/
import Derived.Test.YtifhnkbhjmapeaaPAx4
import Derived.Test.YtifhnkbhjmapeaaPAx5
import Derived.Test.YtifhnkbhjmapeaaPAx8
import Derived.Test.YtifhnkbhjmapeaaPAx9
import Derived.Test.YtifhnkbhjmapeaaPAx11
import Derived.Test.YtifhnkbhjmapeaaTupPut
import Derived.Test.YtifhnkbhjmapeaaTupAfter
namespace Go.Proofs.Ytifhnkbhjmapeaa.PA
open Go.RowKit Go.Proofs.YtifhnkbhjmapeaaW.PrintWords Go.Proofs.YtifhnkbhjmapeaaW.PrintLast Go.Proofs.Ytifhnkbhjmapeaa.Plain

def vnum (n : Int) : Vc := ⟨2, n, 0, ⟨#[]⟩⟩
/-- A number's bytes. -/
def vn (n : Int) : List UInt8 := 4 :: be8 (biased n)
theorem vn_length (n : Int) : (vn n).length = 9 := rfl
theorem vnum_good {n : Int} (h : (Lit.int .i64 n).wf = true) : (vnum n).Good := ⟨by show (Lit.int .i64 2).wf = true; decide, h, by show (Lit.int .u64 0).wf = true; decide, by show 0 ≤ maxLen; unfold maxLen; omega⟩
theorem vnum_put (n : Int) : (vnum n).put = (vn n, 0) := rfl
theorem putT_length (l : List Vc) (g : ∀ x ∈ l, x.Good) : (putT l).1.length ≤ 83 * l.length := by
  induction l with
  | nil => decide
  | cons x r ih =>
    have h1 := Vc.put_length (g x List.mem_cons_self)
    have h2 := ih (fun y hy => g y (List.mem_cons_of_mem _ hy))
    rw [putT_eq, List.length_cons]
    by_cases h : x.put.2 = 0
    · rw [if_pos h]
      by_cases h' : (putT r).2 = 0
      · rw [if_pos h', List.length_append]; omega
      · rw [if_neg h']; show 0 ≤ _; omega
    · rw [if_neg h]; show 0 ≤ _; omega
theorem putsT_ok {l : List Vc} (h : l.length ≤ 16 ∧ (putT l).2 = 0) : putsT l = (txt (putT l).1, 0) := by
  unfold putsT ansT
  rw [if_pos h.1, if_pos h.2, List.nil_append]
theorem putsT_no {l : List Vc} (h : ¬ (l.length ≤ 16 ∧ (putT l).2 = 0)) : ¬ (putsT l).2 = 0 := by
  unfold putsT ansT
  by_cases h1 : l.length ≤ 16
  · have h2 : ¬ (putT l).2 = 0 := fun e => h ⟨h1, e⟩
    rw [if_pos h1, if_neg h2]; exact h2
  · rw [if_neg h1]; decide
/-- Values behind a beginning. -/
def joinL (b : List UInt8) (l : List Vc) : List UInt8 × Int := if l.length ≤ 16 ∧ (putT l).2 = 0 then (b ++ (putT l).1, 0) else ([], 1)
theorem join1 (b : List UInt8) (n : Int) : joinL b [vnum n] = (b ++ vn n, 0) := by
  unfold joinL
  have h : putT [vnum n] = (vn n, 0) := by
    rw [putT_eq, vnum_put, if_pos rfl]
    show (if (0 : Int) = 0 then (vn n ++ [], (0 : Int)) else _) = _
    rw [if_pos rfl, List.append_nil]
  rw [h, if_pos ⟨by simp, rfl⟩]
theorem putT_one (x : Vc) : putT [x] = if x.put.2 = 0 then (x.put.1, 0) else ([], x.put.2) := by
  rw [putT_eq]
  show (if x.put.2 = 0 then (if (0 : Int) = 0 then (x.put.1 ++ [], (0 : Int)) else _) else _) = _
  rw [if_pos rfl, List.append_nil]
theorem joinx (b : List UInt8) (x : Vc) : joinL b [x] = if x.put.2 = 0 then (b ++ x.put.1, 0) else ([], 1) := by
  unfold joinL
  rw [putT_one]
  by_cases h : x.put.2 = 0
  · rw [if_pos h, if_pos ⟨by simp, rfl⟩, if_pos h]
  · rw [if_neg h, if_neg (fun e => h e.2), if_neg h]
theorem join2 (b : List UInt8) (n : Int) (x : Vc) : joinL b [vnum n, x] = if x.put.2 = 0 then (b ++ (vn n ++ x.put.1), 0) else ([], 1) := by
  unfold joinL
  rw [putT_eq, vnum_put, putT_one]
  by_cases h : x.put.2 = 0
  · rw [if_pos h, if_pos rfl, if_pos rfl, if_pos ⟨by simp, rfl⟩, if_pos h]
  · rw [if_neg h, if_pos rfl, if_neg h, if_neg (fun e => h e.2), if_neg h]
theorem join22 (b : List UInt8) (n m : Int) : joinL b [vnum n, vnum m] = (b ++ (vn n ++ vn m), 0) := by rw [join2, vnum_put, if_pos rfl]
theorem joined_is (b : List UInt8) (l : List Vc) (g : ∀ x ∈ l, x.Good) (hb : b.length ≤ 1000) (k : Nat) (hk : 70 ≤ k) : keys_joined.f k (txt b) l = some (txt (joinL b l).1, (joinL b l).2) := by
  unfold keys_joined.f joinL
  rw [tuple_put_is l g k hk, Option.bind_some]
  by_cases h : l.length ≤ 16 ∧ (putT l).2 = 0
  · have hl := putT_length l g
    rw [putsT_ok h, if_pos rfl, if_pos h, if_pos (by rw [txt_size, txt_size]; omega), txt_append]
  · rw [if_neg (putsT_no h), if_neg h]; rfl
/-- Where a row stands. -/
def rowL (n : Int) (x : Vc) : List UInt8 × Int := if x.f0 = 0 then ([], 1) else if x.put.2 = 0 then (114 :: (vn n ++ x.put.1), 0) else ([], 1)
theorem good2 {n : Int} {x : Vc} (hn : (Lit.int .i64 n).wf = true) (g : x.Good) : ∀ y ∈ [vnum n, x], y.Good := by
  intro y hy
  rcases List.mem_cons.1 hy with rfl | hy
  · exact vnum_good hn
  · rcases List.mem_cons.1 hy with rfl | hy
    · exact g
    · cases hy
theorem good1 {x : Vc} (g : x.Good) : ∀ y ∈ [x], y.Good := by
  intro y hy
  rcases List.mem_cons.1 hy with rfl | hy
  · exact g
  · cases hy
theorem keys_row_is {n : Int} {x : Vc} (hn : (Lit.int .i64 n).wf = true) (g : x.Good) (k : Nat) (hk : 70 ≤ k) : keys_Row.f k n x.f0 x.f1 x.f2 x.f3 = some (txt (rowL n x).1, (rowL n x).2) := by
  unfold keys_Row.f keys_number.f rowL
  by_cases h : x.f0 = 0
  · rw [if_pos h, if_pos h]; rfl
  · rw [if_neg h, if_neg h, Option.bind_some]
    have hj := joined_is [114] [vnum n, x] (good2 hn g) (by decide) k hk
    rw [join2] at hj
    show (keys_joined.f k (txt [114]) [vnum n, x]).bind _ = _
    rw [hj, Option.bind_some]
    by_cases h2 : x.put.2 = 0
    · rw [if_pos h2, if_pos h2]; rfl
    · rw [if_neg h2, if_neg h2]
/-- The examples hold. -/
theorem keys_awake_true (k : Nat) (hk : 70 ≤ k) : falseworklaw21_awake.f k = some true := by
  unfold falseworklaw21_awake.f
  have h := keys_row_is (n := 1) (x := ⟨2, 5, 0, ⟨#[]⟩⟩) (by decide) (vnum_good (n := 5) (by decide)) k hk
  show (keys_Row.f k 1 2 5 0 (⟨#[]⟩ : ByteArray)).bind _ = _
  rw [h]
  have e : rowL 1 (⟨2, 5, 0, ⟨#[]⟩⟩ : Vc) = ([114, 4, 128, 0, 0, 0, 0, 0, 0, 1, 4, 128, 0, 0, 0, 0, 0, 0, 5], 0) := by decide +kernel
  rw [e]
  simp only [Option.bind_some, falseworklaw21_num.f, toList_data, txt_data]
  rfl
/-- What is behind all that begin so. -/
def hiL (l : List UInt8) : List UInt8 := (after l).getD []
theorem hiL_is (o : Option (List UInt8)) : (afterA o).1 = txt (o.getD []) := by cases o <;> rfl
theorem keys_bounds_is (l : List UInt8) (hl : l.length ≤ 1000000) (k : Nat) (hk : l.length < k) : keys_bounds.f k (txt l) = some (txt l, txt (hiL l)) := by
  unfold keys_bounds.f
  rw [tuple_after_is (txt l) (by rw [txt_size]; exact hl) k (by rw [txt_size]; exact hk), Option.bind_some, txt_data, hiL_is]; rfl
def rowsL (n : Int) : List UInt8 := 114 :: vn n
theorem keys_rows_is {n : Int} (hn : (Lit.int .i64 n).wf = true) (k : Nat) (hk : 70 ≤ k) : keys_Rows.f k n = some (txt (rowsL n), txt (hiL (rowsL n))) := by
  unfold keys_Rows.f keys_number.f
  rw [Option.bind_some]
  have hj := joined_is [114] [vnum n] (good1 (vnum_good hn)) (by decide) k hk
  rw [join1] at hj
  show (keys_joined.f k (txt [114]) [vnum n]).bind _ = _
  rw [hj, Option.bind_some]
  show (keys_bounds.f k (txt (rowsL n))).bind _ = _
  rw [keys_bounds_is (rowsL n) (by show 10 ≤ _; omega) k (by show 10 < _; omega)]; rfl
theorem keys_job_is {n : Int} (hn : (Lit.int .i64 n).wf = true) (k : Nat) (hk : 70 ≤ k) : keys_Job.f k n = some (txt (106 :: vn n)) := by
  unfold keys_Job.f keys_number.f
  rw [Option.bind_some]
  have hj := joined_is [106] [vnum n] (good1 (vnum_good hn)) (by decide) k hk
  rw [join1] at hj
  show (keys_joined.f k (txt [106]) [vnum n]).bind _ = _
  rw [hj, Option.bind_some]; rfl
theorem ref_num_is {n : Int} (hn : (Lit.int .i64 n).wf = true) (k : Nat) (hk : 50 ≤ k) : falseworkref18_num.f k n = some (txt (vn n)) := by
  unfold falseworkref18_num.f
  have h := ref_vc_put_is (vnum_good hn) k hk
  rw [vnum_put] at h
  show (falseworkref2_Put.f k (vnum n).f0 (vnum n).f1 (vnum n).f2 (vnum n).f3).bind _ = _
  rw [h]; rfl
theorem ref_row_is {n : Int} {x : Vc} (hn : (Lit.int .i64 n).wf = true) (g : x.Good) (k : Nat) (hk : 50 ≤ k) : falseworkref18_Row.f k n x.f0 x.f1 x.f2 x.f3 = some (txt (rowL n x).1, (rowL n x).2) := by
  unfold falseworkref18_Row.f rowL
  rw [ref_vc_put_is g k hk, Option.bind_some]
  have hl := Vc.put_length g
  by_cases h2 : x.put.2 = 0
  · rw [if_pos h2]
    by_cases h : x.f0 = 0
    · rw [if_pos h, if_pos h]; rfl
    · rw [if_neg h, if_neg h, if_pos h2, ref_num_is hn k hk, Option.bind_some, if_pos (by rw [txt_size, vn_length]; omega)]
      have e : (⟨#[114]⟩ : ByteArray) ++ txt (vn n) = txt (114 :: vn n) := txt_append [114] (vn n)
      rw [e, if_pos (by rw [txt_size, txt_size]; show 10 + _ ≤ _; omega), txt_append]; rfl
  · rw [if_neg h2]
    by_cases h : x.f0 = 0
    · rw [if_pos h]; rfl
    · rw [if_neg h, if_neg h2]; rfl
theorem ref_rows_is {n : Int} (hn : (Lit.int .i64 n).wf = true) (k : Nat) (hk : 50 ≤ k) : falseworkref18_Rows.f k n = some (txt (rowsL n), txt (hiL (rowsL n))) := by
  unfold falseworkref18_Rows.f
  rw [ref_num_is hn k hk, Option.bind_some, if_pos (by rw [txt_size, vn_length]; omega)]
  have e : (⟨#[114]⟩ : ByteArray) ++ txt (vn n) = txt (rowsL n) := txt_append [114] (vn n)
  rw [e, ref_after_is (txt (rowsL n)) (by rw [txt_size]; show 10 ≤ _; omega), Option.bind_some, txt_data, hiL_is]; rfl
theorem ref_job_is {n : Int} (hn : (Lit.int .i64 n).wf = true) (k : Nat) (hk : 50 ≤ k) : falseworkref18_Job.f k n = some (txt (106 :: vn n)) := by
  unfold falseworkref18_Job.f
  rw [ref_num_is hn k hk, Option.bind_some, if_pos (by rw [txt_size, vn_length]; omega)]
  exact congrArg some (txt_append [106] (vn n))
end Go.Proofs.Ytifhnkbhjmapeaa.PA
