/- How what is read of memory as data stands there, in the words of the print: kind by kind. What is read is well formed. -/

import Derived.Test.YtikiegglebgmpaaCTWd
import Derived.WalkKit
import Derived.ProofKit
import Derived.OpenShut
import Derived.Deep.Slices
import Derived.ChangeArms
import Derived.SizedLaws
namespace Go.Proofs.Ytikiegglebgmpaa.Opens
open Go.RowKit Go.Proofs.YtikiegglebgmpaaW.PrintWords Go.ChangeShapes Go.WideShapes Go.ChangeAt Go.Deep

theorem choose_list {α : Type} (q : Nat → α → Prop) : ∀ n, (∀ i, i < n → ∃ x, q i x) → ∃ l : List α, l.length = n ∧ ∀ j p, l[j]? = some p → q j p
  | 0, _ => ⟨[], rfl, fun j p h => by simp at h⟩
  | n + 1, h => by
    obtain ⟨l, hl, hq⟩ := choose_list q n (fun i hi => h i (by omega))
    obtain ⟨x, hx⟩ := h n (by omega)
    refine ⟨l ++ [x], by simp [hl], fun j p hp => ?_⟩
    by_cases hj : j < l.length
    · rw [List.getElem?_append_left hj] at hp; exact hq j p hp
    · rw [List.getElem?_append_right (by omega)] at hp
      have h0 : j - l.length = 0 := by
        rcases Nat.eq_zero_or_pos (j - l.length) with h0 | h0
        · exact h0
        · rw [List.getElem?_eq_none (by simp; omega)] at hp; cases hp
      rw [h0] at hp
      have : x = p := by simpa using hp
      subst this
      have : j = n := by omega
      rw [this]; exact hx
/-- Whatever is read at type t stands as a value of kind d, and is good. -/
structure Opn (P : Program) (t : TypeId) {α : Type} (d : Kd α) where
  G : α → Prop
  sz : P.cellsOf t = d.sz
  opn : ∀ {H : Type} {enc : TypeId × Value → H} {w : World} {fuel : Nat} {cs : List Value} {y : DataW H × List MemPlace}, DataW.trod enc P w 0 (fun _ => true) true fuel t cs = some y → ∃ x, d.K w x cs ∧ G x

section
variable {P : Program} {t : TypeId}
def Opn.int {k : IntKind} (h : P.underlying t = some (.int k)) (hc : P.cellsOf t = 1) : Opn P t (Kd.int k) where
  G := fun x => (Lit.int k x).wf = true
  sz := hc
  opn := fun {_ _ _ _ _ _} hd => by
    obtain ⟨a, hcs, _, hw⟩ := DataW.trod_int h hd
    exact ⟨a, hcs, hw⟩
def Opn.bool (h : P.underlying t = some .bool) (hc : P.cellsOf t = 1) : Opn P t Kd.bool where
  G := fun _ => True
  sz := hc
  opn := fun {_ _ _ _ _ _} hd => by
    obtain ⟨a, hcs, _⟩ := DataW.trod_bool h hd
    exact ⟨a, hcs, trivial⟩
def Opn.string (h : P.underlying t = some .string) (hc : P.cellsOf t = 1) : Opn P t Kd.string where
  G := fun s => s.size ≤ maxLen
  sz := hc
  opn := fun {_ _ _ _ _ _} hd => by
    obtain ⟨a, hcs, _, hw⟩ := DataW.trod_string h hd
    exact ⟨a, hcs, hw⟩
def Opn.slice {α : Type} {e : TypeId} {d : Kd α} (h : P.underlying t = some (.slice e)) (hc : P.cellsOf t = 1) (o : Opn P e d) : Opn P t (Kd.slice e d) where
  G := fun xs => xs.length ≤ maxLen ∧ ∀ x ∈ xs, o.G x
  sz := hc
  opn := fun {_ enc w _ cs _} hd => by
    rcases open_slice h hd with ⟨rfl, _⟩ | ⟨a, len, cap, m, n, D, Pl, rfl, _, hl, hm, hmm, _, hx⟩
    · exact ⟨[], ⟨none, 0, rfl, Nat.le_refl _, rfl, by simp, fun h => absurd h (Nat.lt_irrefl _)⟩, by simp, by simp⟩
    · simp only [if_true] at hmm
      subst hmm
      have hex : ∀ i, i < len → ∃ x, (∃ c, c.length = d.sz ∧ d.K w x c ∧ ∀ j u, c[j]? = some u → w.cell? (a.add (i * d.sz + j)) = some u) ∧ o.G x := by
        intro i hi
        obtain ⟨cs', h1, h2⟩ := hx i (by omega)
        obtain ⟨x, hk, hg⟩ := o.opn h2
        obtain ⟨_, hlen, hcell⟩ := World.cells?_some h1
        refine ⟨x, ⟨cs', by rw [hlen, o.sz], hk, ?_⟩, hg⟩
        intro j u hj
        have hjl : j < cs'.length := (List.getElem?_eq_some_iff.1 hj).1
        rw [← o.sz, ← Deep.add_add, hcell j (by omega), hj]
      obtain ⟨l, hll, hlx⟩ := choose_list _ len hex
      subst hll
      refine ⟨l, ⟨some a, _, rfl, hl, rfl, by unfold maxLen at hm; omega, fun _ => ⟨a, rfl, fun j p hp => (hlx j p hp).1⟩⟩, by omega, fun x hx' => ?_⟩
      obtain ⟨j, hj⟩ := List.getElem?_of_mem hx'
      exact (hlx j x hj).2
/-- The fields from one on, behind so many cells. -/
structure FOpn (P : Program) (fs : List Field) (off : Nat) {α : Type} (d : Kd α) where
  G : α → Prop
  opn : ∀ {H : Type} {enc : TypeId × Value → H} {w : World} {fuel : Nat} {cs : List Value}, cs.length = off + d.sz →
    (∀ f ∈ fs, ∃ y, DataW.trod enc P w 0 (fun _ => true) true fuel f.type ((cs.drop f.offset).take (P.cellsOf f.type)) = some y) → ∃ x, d.K w x (cs.drop off) ∧ G x
def FOpn.last {α : Type} {f : Field} {off : Nat} {d : Kd α} (ho : f.offset = off) (o : Opn P f.type d) : FOpn P [f] off d where
  G := o.G
  opn := fun {_ _ _ _ cs} hl h => by
    obtain ⟨y, hy⟩ := h f (by simp)
    rw [ho, o.sz, List.take_of_length_le (by rw [List.length_drop]; omega)] at hy
    exact o.opn hy
def FOpn.cons {α β : Type} {f : Field} {fs : List Field} {off : Nat} {a : Kd α} {b : Kd β} (ho : f.offset = off) (o : Opn P f.type a) (r : FOpn P fs (off + a.sz) b) : FOpn P (f :: fs) off (Kd.pair a b) where
  G := fun x => o.G x.1 ∧ r.G x.2
  opn := fun {_ _ _ _ cs} hl h => by
    have hl' : cs.length = off + (a.sz + b.sz) := hl
    obtain ⟨y, hy⟩ := h f (by simp)
    rw [ho, o.sz] at hy
    obtain ⟨x0, k0, g0⟩ := o.opn hy
    obtain ⟨x1, k1, g1⟩ := r.opn (cs := cs) (by omega) (fun f' hf' => h f' (by simp [hf']))
    refine ⟨(x0, x1), ⟨(cs.drop off).take a.sz, cs.drop (off + a.sz), ?_, k0, k1⟩, g0, g1⟩
    rw [← List.drop_drop]
    exact (List.take_append_drop _ _).symm
def Opn.struct {α β : Type} {fs : Array Field} {d : Kd α} (f : β → α) (back : α → β) (hb : ∀ a, f (back a) = a) (h : P.underlying t = some (.struct fs)) (hc : P.cellsOf t = d.sz) (o : FOpn P fs.toList 0 d) : Opn P t (Kd.iso d f) where
  G := fun x => o.G (f x)
  sz := hc
  opn := fun {_ _ _ _ cs _} hd => by
    obtain ⟨xs, n, _, _, hl, hlen, hx⟩ := DataW.trod_struct h hd
    obtain ⟨x, hk, hg⟩ := o.opn (cs := cs) (by rw [hl, hc]; omega) (fun f hf => by
      obtain ⟨i, hi⟩ := List.getElem?_of_mem hf
      have h1 := hx i f (by simpa using hi)
      have h2 : i < xs.length := by rw [hlen]; have := (List.getElem?_eq_some_iff.1 hi).1; simpa using this
      rw [List.getElem?_eq_getElem h2] at h1
      exact ⟨_, h1⟩)
    rw [List.drop_zero] at hk
    refine ⟨back x, ?_, ?_⟩
    · show d.K _ (f (back x)) cs
      rw [hb]; exact hk
    · rw [hb]; exact hg
end
/-- A struct as an argument: its cells. -/
theorem Opn.arg_struct {P : Program} {t : TypeId} {fs : Array Field} {α : Type} {d : Kd α} {H : Type} {enc : TypeId × Value → H} {w : World} {v : Value} {y : DataW H} {ps : List MemPlace} (o : Opn P t d)
    {r : Reach} {b0 : Nat} (h : P.underlying t = some (.struct fs)) (hv : Value.okWide P w r b0 t v) (hd : DataW.Trod enc P w 0 (fun _ => true) true t v y ps) :
    ∃ cs x, v = .agg cs ∧ d.K w x cs.toList ∧ o.G x := by
  obtain ⟨cs, rfl, hsz⟩ := okWide_struct h hv
  obtain ⟨fuel, hf⟩ := hd
  obtain ⟨x, hk, hg⟩ := o.opn hf
  exact ⟨cs, x, rfl, hk, hg⟩
end Go.Proofs.Ytikiegglebgmpaa.Opens
