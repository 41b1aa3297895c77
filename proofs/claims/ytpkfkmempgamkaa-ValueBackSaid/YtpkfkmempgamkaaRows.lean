/-
  No cell of these rows narrows 'for every input' (looked for: loops, veiled, ifaces, maps, wideKeys, modest, calm, conditions, laid).
  DERIVED. THE GIVEN ROWS OF THIS SEAT. 7 by the template 'for every input the law returns true; each argument reads behind the call as it read before'; 0 by the template 'total and deterministic' (their statements: YtpkfkmempgamkaaTotals.lean).
  GIVEN WITH THE SEED: the statements are not yours to turn. If you find one false, say at which input.
  Laid BY PROGRAM, IN A SANDBOX (cutbox-rows.mjs): the forced cells as the released guide's own fill.sh prints them over the translation 4c04263f32783d0a… (all of the seat's roots in one cut). By AI agents, Wed Nov 11 2026. No macro, syntax, notation, axiom, sorry.
-/
import Derived.Test.YtpkfkmempgamkaaChecked
import GoSem.Claim
import GoSem.ClaimJoined
import GoSem.ClaimMapViews
import Derived.JoinedTies
import Derived.KernelRfl
namespace Go.Proofs.Ytpkfkmempgamkaa
/- THE CELL 'sum', in the pinned program and in every row, IS THE sha256 OF THE DUMP (.gsa) THAT YtpkfkmempgamkaaProg.lean LOADS. Nothing in Lean hashes anything: it is a label: what it is worth is what the hold of that sum in a sandbox is worth. -/
noncomputable def Try.pinned : Pinned := { name := "ytpkfkmempgamkaa", sum := "4c04263f32783d0aa82ce68a1618f9ce065d85cbce9cd1a6802ff12d0337c94a", checked := Try.checked }
namespace Rows
def none {H : Type} : Left H := { results := [], args := [] }

/-- 'falseworklaw2.ValueMays': WHATEVER THE INPUT: true; the input reads as it did. -/
def valueMaysSpec : ChangeSpec := { name := "valueMays", fn := fun _ => fun
  | [d] => { results := [.lit (.bool true)], args := [d] }
  | _ => none }
def valueMaysRow : OpenClaim := { program := "ytpkfkmempgamkaa", sum := "4c04263f32783d0aa82ce68a1618f9ce065d85cbce9cd1a6802ff12d0337c94a", func := "falsework/falseworklaw2.ValueMays", spec := "valueMays", inPlace := ["math.Float64frombits"], apart := false }
def ValueMaysSaid : Prop := valueMaysRow.holds Try.pinned (OpenSpec.ofChange valueMaysSpec)

/-- ITS FALSE NEIGHBOUR: 'it returns false'. Refute it at one input. -/
def valueMaysWrong : ChangeSpec := { name := "valueMays", fn := fun _ => fun
  | [d] => { results := [.lit (.bool false)], args := [d] }
  | _ => none }
def ValueMaysWrongFalsely : Prop := valueMaysRow.holds Try.pinned (OpenSpec.ofChange valueMaysWrong)

/-- 'falseworklaw2.ValuePuts': WHATEVER THE INPUT: true; the input reads as it did. -/
def valuePutsSpec : ChangeSpec := { name := "valuePuts", fn := fun _ => fun
  | [d] => { results := [.lit (.bool true)], args := [d] }
  | _ => none }
def valuePutsRow : OpenClaim := { program := "ytpkfkmempgamkaa", sum := "4c04263f32783d0aa82ce68a1618f9ce065d85cbce9cd1a6802ff12d0337c94a", func := "falsework/falseworklaw2.ValuePuts", spec := "valuePuts", inPlace := ["math.Float64frombits"], apart := false }
def ValuePutsSaid : Prop := valuePutsRow.holds Try.pinned (OpenSpec.ofChange valuePutsSpec)

/-- ITS FALSE NEIGHBOUR: 'it returns false'. Refute it at one input. -/
def valuePutsWrong : ChangeSpec := { name := "valuePuts", fn := fun _ => fun
  | [d] => { results := [.lit (.bool false)], args := [d] }
  | _ => none }
def ValuePutsWrongFalsely : Prop := valuePutsRow.holds Try.pinned (OpenSpec.ofChange valuePutsWrong)

/-- 'falseworklaw2.ValueUnlike': WHATEVER THE INPUT: true; the input reads as it did. -/
def valueUnlikeSpec : ChangeSpec := { name := "valueUnlike", fn := fun _ => fun
  | [d1, d2] => { results := [.lit (.bool true)], args := [d1, d2] }
  | _ => none }
def valueUnlikeRow : OpenClaim := { program := "ytpkfkmempgamkaa", sum := "4c04263f32783d0aa82ce68a1618f9ce065d85cbce9cd1a6802ff12d0337c94a", func := "falsework/falseworklaw2.ValueUnlike", spec := "valueUnlike", inPlace := ["math.Float64frombits"], apart := false }
def ValueUnlikeSaid : Prop := valueUnlikeRow.holds Try.pinned (OpenSpec.ofChange valueUnlikeSpec)

/-- ITS FALSE NEIGHBOUR: 'it returns false'. Refute it at one input. -/
def valueUnlikeWrong : ChangeSpec := { name := "valueUnlike", fn := fun _ => fun
  | [d1, d2] => { results := [.lit (.bool false)], args := [d1, d2] }
  | _ => none }
def ValueUnlikeWrongFalsely : Prop := valueUnlikeRow.holds Try.pinned (OpenSpec.ofChange valueUnlikeWrong)

/-- 'falseworklaw2.ValueCmps': WHATEVER THE INPUT: true; the input reads as it did. -/
def valueCmpsSpec : ChangeSpec := { name := "valueCmps", fn := fun _ => fun
  | [d1, d2] => { results := [.lit (.bool true)], args := [d1, d2] }
  | _ => none }
def valueCmpsRow : OpenClaim := { program := "ytpkfkmempgamkaa", sum := "4c04263f32783d0aa82ce68a1618f9ce065d85cbce9cd1a6802ff12d0337c94a", func := "falsework/falseworklaw2.ValueCmps", spec := "valueCmps", inPlace := ["math.Float64frombits"], apart := false }
def ValueCmpsSaid : Prop := valueCmpsRow.holds Try.pinned (OpenSpec.ofChange valueCmpsSpec)

/-- ITS FALSE NEIGHBOUR: 'it returns false'. Refute it at one input. -/
def valueCmpsWrong : ChangeSpec := { name := "valueCmps", fn := fun _ => fun
  | [d1, d2] => { results := [.lit (.bool false)], args := [d1, d2] }
  | _ => none }
def ValueCmpsWrongFalsely : Prop := valueCmpsRow.holds Try.pinned (OpenSpec.ofChange valueCmpsWrong)

/-- 'falseworklaw2.ValueKinds': WHATEVER THE INPUT: true; the input reads as it did. -/
def valueKindsSpec : ChangeSpec := { name := "valueKinds", fn := fun _ => fun
  | [d1, d2, d3, d4, d5, d6] => { results := [.lit (.bool true)], args := [d1, d2, d3, d4, d5, d6] }
  | _ => none }
def valueKindsRow : OpenClaim := { program := "ytpkfkmempgamkaa", sum := "4c04263f32783d0aa82ce68a1618f9ce065d85cbce9cd1a6802ff12d0337c94a", func := "falsework/falseworklaw2.ValueKinds", spec := "valueKinds", inPlace := ["math.Float64frombits"], apart := false }
def ValueKindsSaid : Prop := valueKindsRow.holds Try.pinned (OpenSpec.ofChange valueKindsSpec)

/-- ITS FALSE NEIGHBOUR: 'it returns false'. Refute it at one input. -/
def valueKindsWrong : ChangeSpec := { name := "valueKinds", fn := fun _ => fun
  | [d1, d2, d3, d4, d5, d6] => { results := [.lit (.bool false)], args := [d1, d2, d3, d4, d5, d6] }
  | _ => none }
def ValueKindsWrongFalsely : Prop := valueKindsRow.holds Try.pinned (OpenSpec.ofChange valueKindsWrong)

/-- 'falseworklaw2.ValueGets': WHATEVER THE INPUT: true; the input reads as it did. -/
def valueGetsSpec : ChangeSpec := { name := "valueGets", fn := fun _ => fun
  | [d] => { results := [.lit (.bool true)], args := [d] }
  | _ => none }
def valueGetsRow : OpenClaim := { program := "ytpkfkmempgamkaa", sum := "4c04263f32783d0aa82ce68a1618f9ce065d85cbce9cd1a6802ff12d0337c94a", func := "falsework/falseworklaw2.ValueGets", spec := "valueGets", inPlace := ["math.Float64frombits"], apart := false }
def ValueGetsSaid : Prop := valueGetsRow.holds Try.pinned (OpenSpec.ofChange valueGetsSpec)

/-- ITS FALSE NEIGHBOUR: 'it returns false'. Refute it at one input. -/
def valueGetsWrong : ChangeSpec := { name := "valueGets", fn := fun _ => fun
  | [d] => { results := [.lit (.bool false)], args := [d] }
  | _ => none }
def ValueGetsWrongFalsely : Prop := valueGetsRow.holds Try.pinned (OpenSpec.ofChange valueGetsWrong)

/-- 'falseworklaw2.ValueBack': WHATEVER THE INPUT: true; the input reads as it did. -/
def valueBackSpec : ChangeSpec := { name := "valueBack", fn := fun _ => fun
  | [d1, d2] => { results := [.lit (.bool true)], args := [d1, d2] }
  | _ => none }
def valueBackRow : OpenClaim := { program := "ytpkfkmempgamkaa", sum := "4c04263f32783d0aa82ce68a1618f9ce065d85cbce9cd1a6802ff12d0337c94a", func := "falsework/falseworklaw2.ValueBack", spec := "valueBack", inPlace := ["math.Float64frombits"], apart := false }
def ValueBackSaid : Prop := valueBackRow.holds Try.pinned (OpenSpec.ofChange valueBackSpec)

/-- ITS FALSE NEIGHBOUR: 'it returns false'. Refute it at one input. -/
def valueBackWrong : ChangeSpec := { name := "valueBack", fn := fun _ => fun
  | [d1, d2] => { results := [.lit (.bool false)], args := [d1, d2] }
  | _ => none }
def ValueBackWrongFalsely : Prop := valueBackRow.holds Try.pinned (OpenSpec.ofChange valueBackWrong)

/- THE SECOND FORM. 'bulk': how many values and letters a reading holds, each counted each time it is reached (what is shared counts as often as it is met; a slice's spare places count too). A statement '..UptoSaid' is the law's where the arguments, and the package variables that the reading takes, are together of bulk at most 1048576: NARROWER than '..Said'. Prove '..Said' where nothing that the law and all that it calls make is longer than what came in: it says more and counts as full. Else prove '..UptoSaid'. A law counts once. -/
mutual
def uptoBulk {H : Type} : DataW H → Nat
  | .lit (.string bytes) => bytes.length + 1
  | .lit _ => 1
  | .nil => 1
  | .ptr d => uptoBulk d + 1
  | .slice elems spare => uptoBulkAll elems + uptoBulkAll spare + 1
  | .agg parts => uptoBulkAll parts + 1
  | .iface _ d => uptoBulk d + 1
  | .map entries => uptoBulkEntries entries + 1
  | .held _ => 1
def uptoBulkAll {H : Type} : List (DataW H) → Nat
  | [] => 0
  | d :: r => uptoBulk d + uptoBulkAll r
def uptoBulkEntries {H : Type} : List (Lit × DataW H) → Nat
  | [] => 0
  | x :: r => uptoBulkEntry x + uptoBulkEntries r
def uptoBulkEntry {H : Type} : Lit × DataW H → Nat
  | (.string bytes, d) => bytes.length + uptoBulk d + 1
  | (_, d) => uptoBulk d + 1
 end
def uptoSmall : (H : Type) → List (DataW H) → Bool := fun _ ds => decide (uptoBulkAll ds ≤ 1048576)
def OpenSpec.upto (s : _root_.Go.ChangeSpec) : _root_.Go.OpenSpec := { _root_.Go.OpenSpec.ofChange s with cond := some uptoSmall }

/-- 'falseworklaw2.ValueMays', WHERE WHAT IT READS IS OF BULK AT MOST 1048576: true; the input reads as it did. -/
def valueMaysUptoRow : OpenClaim := { program := "ytpkfkmempgamkaa", sum := "4c04263f32783d0aa82ce68a1618f9ce065d85cbce9cd1a6802ff12d0337c94a", func := "falsework/falseworklaw2.ValueMays", spec := "valueMays", inPlace := ["math.Float64frombits"], apart := false, narrowed := true }
def ValueMaysUptoSaid : Prop := valueMaysUptoRow.holds Try.pinned (OpenSpec.upto valueMaysSpec)

/-- 'falseworklaw2.ValuePuts', WHERE WHAT IT READS IS OF BULK AT MOST 1048576: true; the input reads as it did. -/
def valuePutsUptoRow : OpenClaim := { program := "ytpkfkmempgamkaa", sum := "4c04263f32783d0aa82ce68a1618f9ce065d85cbce9cd1a6802ff12d0337c94a", func := "falsework/falseworklaw2.ValuePuts", spec := "valuePuts", inPlace := ["math.Float64frombits"], apart := false, narrowed := true }
def ValuePutsUptoSaid : Prop := valuePutsUptoRow.holds Try.pinned (OpenSpec.upto valuePutsSpec)

/-- 'falseworklaw2.ValueUnlike', WHERE WHAT IT READS IS OF BULK AT MOST 1048576: true; the input reads as it did. -/
def valueUnlikeUptoRow : OpenClaim := { program := "ytpkfkmempgamkaa", sum := "4c04263f32783d0aa82ce68a1618f9ce065d85cbce9cd1a6802ff12d0337c94a", func := "falsework/falseworklaw2.ValueUnlike", spec := "valueUnlike", inPlace := ["math.Float64frombits"], apart := false, narrowed := true }
def ValueUnlikeUptoSaid : Prop := valueUnlikeUptoRow.holds Try.pinned (OpenSpec.upto valueUnlikeSpec)

/-- 'falseworklaw2.ValueCmps', WHERE WHAT IT READS IS OF BULK AT MOST 1048576: true; the input reads as it did. -/
def valueCmpsUptoRow : OpenClaim := { program := "ytpkfkmempgamkaa", sum := "4c04263f32783d0aa82ce68a1618f9ce065d85cbce9cd1a6802ff12d0337c94a", func := "falsework/falseworklaw2.ValueCmps", spec := "valueCmps", inPlace := ["math.Float64frombits"], apart := false, narrowed := true }
def ValueCmpsUptoSaid : Prop := valueCmpsUptoRow.holds Try.pinned (OpenSpec.upto valueCmpsSpec)

/-- 'falseworklaw2.ValueKinds', WHERE WHAT IT READS IS OF BULK AT MOST 1048576: true; the input reads as it did. -/
def valueKindsUptoRow : OpenClaim := { program := "ytpkfkmempgamkaa", sum := "4c04263f32783d0aa82ce68a1618f9ce065d85cbce9cd1a6802ff12d0337c94a", func := "falsework/falseworklaw2.ValueKinds", spec := "valueKinds", inPlace := ["math.Float64frombits"], apart := false, narrowed := true }
def ValueKindsUptoSaid : Prop := valueKindsUptoRow.holds Try.pinned (OpenSpec.upto valueKindsSpec)

/-- 'falseworklaw2.ValueGets', WHERE WHAT IT READS IS OF BULK AT MOST 1048576: true; the input reads as it did. -/
def valueGetsUptoRow : OpenClaim := { program := "ytpkfkmempgamkaa", sum := "4c04263f32783d0aa82ce68a1618f9ce065d85cbce9cd1a6802ff12d0337c94a", func := "falsework/falseworklaw2.ValueGets", spec := "valueGets", inPlace := ["math.Float64frombits"], apart := false, narrowed := true }
def ValueGetsUptoSaid : Prop := valueGetsUptoRow.holds Try.pinned (OpenSpec.upto valueGetsSpec)

/-- 'falseworklaw2.ValueBack', WHERE WHAT IT READS IS OF BULK AT MOST 1048576: true; the input reads as it did. -/
def valueBackUptoRow : OpenClaim := { program := "ytpkfkmempgamkaa", sum := "4c04263f32783d0aa82ce68a1618f9ce065d85cbce9cd1a6802ff12d0337c94a", func := "falsework/falseworklaw2.ValueBack", spec := "valueBack", inPlace := ["math.Float64frombits"], apart := false, narrowed := true }
def ValueBackUptoSaid : Prop := valueBackUptoRow.holds Try.pinned (OpenSpec.upto valueBackSpec)

end Rows
end Go.Proofs.Ytpkfkmempgamkaa
