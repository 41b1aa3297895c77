/- Within a kind the order is that of numbers, of floats, of texts; null is below all, and a false below a true: for all numbers, all words of 64 bits, all texts of at most 40 bytes; of longer ones nothing is asked. -/
import Derived.Test.YtpkfkmempgamkaaPAx14
import Derived.Test.YtpkfkmempgamkaaValueKinds
namespace Go.Proofs.Ytpkfkmempgamkaa.Pure
open Go.RowKit Go.Proofs.Ytpkfkmempgamkaa.PA Go.Proofs.YtpkfkmempgamkaaW.PrintWords Go.Proofs.YtpkfkmempgamkaaW.PrintLast Go.Proofs.Ytpkfkmempgamkaa.Plain

theorem ValueKinds : falseworklaw2_ValueKinds.Pure := by
  intro a b c d s t ha hb hc hd _ _
  obtain ⟨f, rfl, hf⟩ := u64_nat hc
  obtain ⟨g, rfl, hg⟩ := u64_nat hd
  have ia := i64_bounds ha
  have ib := i64_bounds hb
  refine ⟨51, ?_⟩
  have hE : (⟨#[]⟩ : ByteArray).data.toList = [] := rfl
  have w0 : (Lit.int .i64 0).wf = true := by decide
  have w1 : (Lit.int .i64 1).wf = true := by decide
  have z : ((0 : Nat) : Int) = 0 := rfl
  have longer : falseworklaw2_ValueKinds.j0 51 a b f g s t true = some true := by
    simp only [falseworklaw2_ValueKinds.j0, if_true]
    rw [awake_true 50 (by decide)]; rfl
  unfold falseworklaw2_ValueKinds.f
  by_cases h1 : (s.size : Int) > 40
  · rw [if_pos h1]; exact longer
  rw [if_neg h1]
  by_cases h2 : (t.size : Int) > 40
  · rw [decide_eq_true h2]; exact longer
  rw [decide_eq_false h2]
  have hs : s.data.toList.length ≤ 40 := by rw [← size_data]; omega
  have ht : t.data.toList.length ≤ 40 := by rw [← size_data]; omega
  have e1 := value_cmp_is (k := 2) (f := 0) ha (by decide) (⟨#[]⟩ : ByteArray) (k' := 2) (f' := 0) hb (by decide) (⟨#[]⟩ : ByteArray) 50 (by decide)
  have e2 := value_cmp_is (k := 3) (n := 0) w0 (canon_lt hf) (⟨#[]⟩ : ByteArray) (k' := 3) (n' := 0) w0 (canon_lt hg) (⟨#[]⟩ : ByteArray) 50 (by decide)
  have e3 := value_cmp_is (k := 5) (n := 0) (f := 0) w0 (by decide) s (k' := 5) (n' := 0) (f' := 0) w0 (by decide) t 50 (by decide)
  have e4 := value_cmp_is (k := 4) (n := 0) (f := 0) w0 (by decide) s (k' := 4) (n' := 0) (f' := 0) w0 (by decide) t 50 (by decide)
  have e5 := value_cmp_is (k := 0) (n := 0) (f := 0) w0 (by decide) (⟨#[]⟩ : ByteArray) (k' := 2) (f' := 0) ha (by decide) (⟨#[]⟩ : ByteArray) 50 (by decide)
  have e6 := value_cmp_is (k := 1) (n := 0) (f := 0) w0 (by decide) (⟨#[]⟩ : ByteArray) (k' := 1) (n' := 1) (f' := 0) w1 (by decide) (⟨#[]⟩ : ByteArray) 50 (by decide)
  have c5 : cmpV 0 0 0 [] 2 a 0 [] = -1 := by
    have h := cmpV_V (a := .null) (b := .int a) trivial ia
    exact h
  have c6 : cmpV 1 0 0 [] 1 1 0 [] = -1 := by decide +kernel
  rw [hE, cmp_ints ia ib, z] at e1
  rw [hE, cmp_flos hf hg] at e2
  rw [cmp_texts hs ht, z] at e3
  rw [cmp_raws hs ht, z] at e4
  rw [hE, c5, z] at e5
  rw [hE, c6, z] at e6
  simp only [falseworklaw2_ValueKinds.j0, Bool.false_eq_true, if_false]
  rw [e1, ref_canon_is hf, ref_canon_is hg]
  simp only [Option.bind_some]
  rw [e2, e3, e4, e5, e6, ref_cmp_is hf hg, awake_true 50 (by decide)]
  simp only [Option.bind_some, if_true]
  have q1 : (decide (cmpN (biased a) (biased b) < 0) == decide (a < b)) = true := by
    have : cmpN (biased a) (biased b) < 0 ↔ a < b := by
      unfold cmpN biased; split
      · constructor <;> omega
      · split <;> constructor <;> omega
    simp [this]
  have q2 : ((cmpN (biased a) (biased b) == 0) == (a == b)) = true := by
    have : cmpN (biased a) (biased b) = 0 ↔ a = b := by
      unfold cmpN biased; split
      · constructor <;> omega
      · split <;> constructor <;> omega
    rw [dec_beq, dec_beq]; simp [this]
  have q3 : (decide (cmpL s.data.toList t.data.toList < 0) == Op.bytesLess s.toList t.toList) = true := by
    rw [toList_data, toList_data]
    have := cmpL_neg (a := s.data.toList) (b := t.data.toList)
    cases h : less s.data.toList t.data.toList with
    | true => rw [decide_eq_true (this.2 h)]; exact beq_iff_eq.2 h.symm
    | false => rw [decide_eq_false (fun hh => by rw [this.1 hh] at h; cases h)]; exact beq_iff_eq.2 h.symm
  have q4 : ((cmpL s.data.toList t.data.toList == 0) == (s.toList == t.toList)) = true := by
    rw [toList_data, toList_data, dec_beq]
    have := cmpL_zero (a := s.data.toList) (b := t.data.toList)
    by_cases h : s.data.toList = t.data.toList
    · rw [decide_eq_true (this.2 h), h]; simp
    · rw [decide_eq_false (fun hh => h (this.1 hh)), beq_eq_false_iff_ne.2 h]; rfl
  rw [if_pos q1, if_pos q2, if_pos q3, if_pos q4]
end Go.Proofs.Ytpkfkmempgamkaa.Pure
