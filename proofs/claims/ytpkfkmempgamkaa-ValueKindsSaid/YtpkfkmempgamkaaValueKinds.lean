/- Within a kind the order of values is that of numbers, of floats, of texts. -/
import Derived.Test.YtpkfkmempgamkaaValueCmp
namespace Go.Proofs.Ytpkfkmempgamkaa.PA
open Go.RowKit Go.Proofs.YtpkfkmempgamkaaW.PrintWords Go.Proofs.YtpkfkmempgamkaaW.PrintLast Go.Proofs.Ytpkfkmempgamkaa.Plain

theorem cmpV_V {a b : V} (ha : a.Ok) (hb : b.Ok) : cmpV a.k a.n a.f a.s b.k b.n b.f b.s = cmpL a.enc b.enc := by
  unfold cmpV
  rw [if_pos (V.may a ha), if_pos (V.may b hb), V.enc_is, V.enc_is]
theorem cmpL_cons (c : UInt8) (a b : List UInt8) : cmpL (c :: a) (c :: b) = cmpL a b := by unfold cmpL; rw [less_same, less_same]
theorem cmpL_be8 {u v : Nat} (hu : u < 18446744073709551616) (hv : v < 18446744073709551616) : cmpL (be8 u) (be8 v) = cmpN u v := by
  unfold cmpL cmpN
  rw [be8_order hu hv, be8_order hv hu]
  simp only [decide_eq_true_eq]
theorem cmpL_esc (s t : List UInt8) : cmpL (esc s ++ [0, 1]) (esc t ++ [0, 1]) = cmpL s t := by
  have h1 := esc_order s t [] []
  have h2 := esc_order t s [] []
  by_cases e : s = t
  · rw [e, cmpL_self, cmpL_self]
  · rw [if_neg e] at h1
    rw [if_neg (fun h => e h.symm)] at h2
    unfold cmpL
    rw [h1, h2]
theorem cmp_ints {a b : Int} (ha : -9223372036854775808 ≤ a ∧ a ≤ 9223372036854775807) (hb : -9223372036854775808 ≤ b ∧ b ≤ 9223372036854775807) :
    cmpV 2 a 0 [] 2 b 0 [] = cmpN (biased a) (biased b) := by
  have h := cmpV_V (a := .int a) (b := .int b) ha hb
  have h2 : cmpL (V.int a).enc (V.int b).enc = cmpN (biased a) (biased b) := by
    show cmpL (4 :: be8 (biased a)) (4 :: be8 (biased b)) = _
    rw [cmpL_cons, cmpL_be8 (biased_lt ha) (biased_lt hb)]
  exact h.trans h2
theorem cmp_flos {f g : Nat} (hf : f < 18446744073709551616) (hg : g < 18446744073709551616) : cmpV 3 0 (canon f) [] 3 0 (canon g) [] = cmpN (ordr f) (ordr g) := by
  have h := cmpV_V (a := .flo (canon f)) (b := .flo (canon g)) ⟨canon_lt hf, canon_canon f⟩ ⟨canon_lt hg, canon_canon g⟩
  have e : ∀ x, ordr (canon x) = ordr x := fun x => by unfold ordr; rw [canon_canon]
  have h2 : cmpL (V.flo (canon f)).enc (V.flo (canon g)).enc = cmpN (ordr f) (ordr g) := by
    show cmpL (5 :: be8 (ordr (canon f))) (5 :: be8 (ordr (canon g))) = _
    rw [cmpL_cons, e, e, cmpL_be8 (ordr_lt f) (ordr_lt g)]
  exact h.trans h2
theorem cmp_texts {s t : List UInt8} (hs : s.length ≤ 40) (ht : t.length ≤ 40) : cmpV 5 0 0 s 5 0 0 t = cmpL s t := by
  have h := cmpV_V (a := .text s) (b := .text t) hs ht
  have h2 : cmpL (V.text s).enc (V.text t).enc = cmpL s t := by
    show cmpL (7 :: (esc s ++ [0, 1])) (7 :: (esc t ++ [0, 1])) = _
    rw [cmpL_cons, cmpL_esc]
  exact h.trans h2
theorem cmp_raws {s t : List UInt8} (hs : s.length ≤ 40) (ht : t.length ≤ 40) : cmpV 4 0 0 s 4 0 0 t = cmpL s t := by
  have h := cmpV_V (a := .raw s) (b := .raw t) hs ht
  have h2 : cmpL (V.raw s).enc (V.raw t).enc = cmpL s t := by
    show cmpL (6 :: (esc s ++ [0, 1])) (6 :: (esc t ++ [0, 1])) = _
    rw [cmpL_cons, cmpL_esc]
  exact h.trans h2
end Go.Proofs.Ytpkfkmempgamkaa.PA
