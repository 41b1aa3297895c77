/-
  No cell of these rows narrows 'for every input' (looked for: loops, veiled, ifaces, maps, wideKeys, modest, calm, conditions, laid).
  DERIVED. THE GIVEN ROWS OF THIS SEAT. 6 by the template 'for every input the law returns true; each argument reads behind the call as it read before'; 0 by the template 'total and deterministic' (their statements: YtebfilljdnhccaaTotals.lean).
  GIVEN WITH THE SEED: the statements are not yours to turn. If you find one false, say at which input.
  Laid BY PROGRAM, IN A SANDBOX (cutbox-rows.mjs): the forced cells as the released guide's own fill.sh prints them over the translation a73a41672e3f4205… (all of the seat's roots in one cut). By AI agents, Wed Nov 11 2026. No macro, syntax, notation, axiom, sorry.
-/
import Derived.Test.YtebfilljdnhccaaChecked
import GoSem.Claim
import GoSem.ClaimJoined
import GoSem.ClaimMapViews
import Derived.JoinedTies
import Derived.KernelRfl
namespace Go.Proofs.Ytebfilljdnhccaa
/- THE CELL 'sum', in the pinned program and in every row, IS THE sha256 OF THE DUMP (.gsa) THAT YtebfilljdnhccaaProg.lean LOADS. Nothing in Lean hashes anything: it is a label: what it is worth is what the hold of that sum in a sandbox is worth. -/
noncomputable def Try.pinned : Pinned := { name := "ytebfilljdnhccaa", sum := "a73a41672e3f4205a521de168978997ca631ba2ac4fbbbad44cf352003c315e5", checked := Try.checked }
namespace Rows
def none {H : Type} : Left H := { results := [], args := [] }

/-- 'falseworklaw4.RowPuts': WHATEVER THE INPUT: true; the input reads as it did. -/
def rowPutsSpec : ChangeSpec := { name := "rowPuts", fn := fun _ => fun
  | [d] => { results := [.lit (.bool true)], args := [d] }
  | _ => none }
def rowPutsRow : OpenClaim := { program := "ytebfilljdnhccaa", sum := "a73a41672e3f4205a521de168978997ca631ba2ac4fbbbad44cf352003c315e5", func := "falsework/falseworklaw4.RowPuts", spec := "rowPuts", inPlace := ["math.Float64frombits"], apart := false }
def RowPutsSaid : Prop := rowPutsRow.holds Try.pinned (OpenSpec.ofChange rowPutsSpec)

/-- ITS FALSE NEIGHBOUR: 'it returns false'. Refute it at one input. -/
def rowPutsWrong : ChangeSpec := { name := "rowPuts", fn := fun _ => fun
  | [d] => { results := [.lit (.bool false)], args := [d] }
  | _ => none }
def RowPutsWrongFalsely : Prop := rowPutsRow.holds Try.pinned (OpenSpec.ofChange rowPutsWrong)

/-- 'falseworklaw4.RowFills': WHATEVER THE INPUT: true; the input reads as it did. -/
def rowFillsSpec : ChangeSpec := { name := "rowFills", fn := fun _ => fun
  | [d1, d2] => { results := [.lit (.bool true)], args := [d1, d2] }
  | _ => none }
def rowFillsRow : OpenClaim := { program := "ytebfilljdnhccaa", sum := "a73a41672e3f4205a521de168978997ca631ba2ac4fbbbad44cf352003c315e5", func := "falsework/falseworklaw4.RowFills", spec := "rowFills", inPlace := ["math.Float64frombits"], unfollowed := true, recurses := true, apart := false }
def RowFillsSaid : Prop := rowFillsRow.holds Try.pinned (OpenSpec.ofChange rowFillsSpec)

/-- ITS FALSE NEIGHBOUR: 'it returns false'. Refute it at one input. -/
def rowFillsWrong : ChangeSpec := { name := "rowFills", fn := fun _ => fun
  | [d1, d2] => { results := [.lit (.bool false)], args := [d1, d2] }
  | _ => none }
def RowFillsWrongFalsely : Prop := rowFillsRow.holds Try.pinned (OpenSpec.ofChange rowFillsWrong)

/-- 'falseworklaw4.RowGets': WHATEVER THE INPUT: true; the input reads as it did. -/
def rowGetsSpec : ChangeSpec := { name := "rowGets", fn := fun _ => fun
  | [d] => { results := [.lit (.bool true)], args := [d] }
  | _ => none }
def rowGetsRow : OpenClaim := { program := "ytebfilljdnhccaa", sum := "a73a41672e3f4205a521de168978997ca631ba2ac4fbbbad44cf352003c315e5", func := "falsework/falseworklaw4.RowGets", spec := "rowGets", inPlace := ["math.Float64frombits"], unfollowed := true, recurses := true, apart := false }
def RowGetsSaid : Prop := rowGetsRow.holds Try.pinned (OpenSpec.ofChange rowGetsSpec)

/-- ITS FALSE NEIGHBOUR: 'it returns false'. Refute it at one input. -/
def rowGetsWrong : ChangeSpec := { name := "rowGets", fn := fun _ => fun
  | [d] => { results := [.lit (.bool false)], args := [d] }
  | _ => none }
def RowGetsWrongFalsely : Prop := rowGetsRow.holds Try.pinned (OpenSpec.ofChange rowGetsWrong)

/-- 'falseworklaw4.RowBack': WHATEVER THE INPUT: true; the input reads as it did. -/
def rowBackSpec : ChangeSpec := { name := "rowBack", fn := fun _ => fun
  | [d] => { results := [.lit (.bool true)], args := [d] }
  | _ => none }
def rowBackRow : OpenClaim := { program := "ytebfilljdnhccaa", sum := "a73a41672e3f4205a521de168978997ca631ba2ac4fbbbad44cf352003c315e5", func := "falsework/falseworklaw4.RowBack", spec := "rowBack", inPlace := ["math.Float64frombits"], unfollowed := true, recurses := true, apart := false }
def RowBackSaid : Prop := rowBackRow.holds Try.pinned (OpenSpec.ofChange rowBackSpec)

/-- ITS FALSE NEIGHBOUR: 'it returns false'. Refute it at one input. -/
def rowBackWrong : ChangeSpec := { name := "rowBack", fn := fun _ => fun
  | [d] => { results := [.lit (.bool false)], args := [d] }
  | _ => none }
def RowBackWrongFalsely : Prop := rowBackRow.holds Try.pinned (OpenSpec.ofChange rowBackWrong)

/-- 'falseworklaw4.RowWiths': WHATEVER THE INPUT: true; the input reads as it did. -/
def rowWithsSpec : ChangeSpec := { name := "rowWiths", fn := fun _ => fun
  | [d1, d2, d3] => { results := [.lit (.bool true)], args := [d1, d2, d3] }
  | _ => none }
def rowWithsRow : OpenClaim := { program := "ytebfilljdnhccaa", sum := "a73a41672e3f4205a521de168978997ca631ba2ac4fbbbad44cf352003c315e5", func := "falsework/falseworklaw4.RowWiths", spec := "rowWiths", inPlace := ["math.Float64frombits", "slices.overlaps[falsework/api.Cell]"], unfollowed := true, recurses := true, apart := false }
def RowWithsSaid : Prop := rowWithsRow.holds Try.pinned (OpenSpec.ofChange rowWithsSpec)

/-- ITS FALSE NEIGHBOUR: 'it returns false'. Refute it at one input. -/
def rowWithsWrong : ChangeSpec := { name := "rowWiths", fn := fun _ => fun
  | [d1, d2, d3] => { results := [.lit (.bool false)], args := [d1, d2, d3] }
  | _ => none }
def RowWithsWrongFalsely : Prop := rowWithsRow.holds Try.pinned (OpenSpec.ofChange rowWithsWrong)

/-- 'falseworklaw4.RowTurns': WHATEVER THE INPUT: true; the input reads as it did. -/
def rowTurnsSpec : ChangeSpec := { name := "rowTurns", fn := fun _ => fun
  | [d1, d2, d3, d4] => { results := [.lit (.bool true)], args := [d1, d2, d3, d4] }
  | _ => none }
def rowTurnsRow : OpenClaim := { program := "ytebfilljdnhccaa", sum := "a73a41672e3f4205a521de168978997ca631ba2ac4fbbbad44cf352003c315e5", func := "falsework/falseworklaw4.RowTurns", spec := "rowTurns", inPlace := ["math.Float64frombits", "slices.overlaps[falsework/api.Cell]"], unfollowed := true, recurses := true, apart := false }
def RowTurnsSaid : Prop := rowTurnsRow.holds Try.pinned (OpenSpec.ofChange rowTurnsSpec)

/-- ITS FALSE NEIGHBOUR: 'it returns false'. Refute it at one input. -/
def rowTurnsWrong : ChangeSpec := { name := "rowTurns", fn := fun _ => fun
  | [d1, d2, d3, d4] => { results := [.lit (.bool false)], args := [d1, d2, d3, d4] }
  | _ => none }
def RowTurnsWrongFalsely : Prop := rowTurnsRow.holds Try.pinned (OpenSpec.ofChange rowTurnsWrong)

/- THE SECOND FORM. 'bulk': how many values and letters a reading holds, each counted each time it is reached (what is shared counts as often as it is met; a slice's spare places count too). A statement '..UptoSaid' is the law's where the arguments, and the package variables that the reading takes, are together of bulk at most 1048576: NARROWER than '..Said'. Prove '..Said' where nothing that the law and all that it calls make is longer than what came in: it says more and counts as full. Else prove '..UptoSaid'. A law counts once. -/
mutual
def uptoBulk {H : Type} : DataW H → Nat
  | .lit (.string bytes) => bytes.length + 1
  | .lit _ => 1
  | .nil => 1
  | .ptr d => uptoBulk d + 1
  | .slice elems spare => uptoBulkAll elems + uptoBulkAll spare + 1
  | .agg parts => uptoBulkAll parts + 1
  | .iface _ d => uptoBulk d + 1
  | .map entries => uptoBulkEntries entries + 1
  | .held _ => 1
def uptoBulkAll {H : Type} : List (DataW H) → Nat
  | [] => 0
  | d :: r => uptoBulk d + uptoBulkAll r
def uptoBulkEntries {H : Type} : List (Lit × DataW H) → Nat
  | [] => 0
  | x :: r => uptoBulkEntry x + uptoBulkEntries r
def uptoBulkEntry {H : Type} : Lit × DataW H → Nat
  | (.string bytes, d) => bytes.length + uptoBulk d + 1
  | (_, d) => uptoBulk d + 1
 end
def uptoSmall : (H : Type) → List (DataW H) → Bool := fun _ ds => decide (uptoBulkAll ds ≤ 1048576)
def OpenSpec.upto (s : _root_.Go.ChangeSpec) : _root_.Go.OpenSpec := { _root_.Go.OpenSpec.ofChange s with cond := some uptoSmall }

/-- 'falseworklaw4.RowPuts', WHERE WHAT IT READS IS OF BULK AT MOST 1048576: true; the input reads as it did. -/
def rowPutsUptoRow : OpenClaim := { program := "ytebfilljdnhccaa", sum := "a73a41672e3f4205a521de168978997ca631ba2ac4fbbbad44cf352003c315e5", func := "falsework/falseworklaw4.RowPuts", spec := "rowPuts", inPlace := ["math.Float64frombits"], apart := false, narrowed := true }
def RowPutsUptoSaid : Prop := rowPutsUptoRow.holds Try.pinned (OpenSpec.upto rowPutsSpec)

/-- 'falseworklaw4.RowFills', WHERE WHAT IT READS IS OF BULK AT MOST 1048576: true; the input reads as it did. -/
def rowFillsUptoRow : OpenClaim := { program := "ytebfilljdnhccaa", sum := "a73a41672e3f4205a521de168978997ca631ba2ac4fbbbad44cf352003c315e5", func := "falsework/falseworklaw4.RowFills", spec := "rowFills", inPlace := ["math.Float64frombits"], unfollowed := true, recurses := true, apart := false, narrowed := true }
def RowFillsUptoSaid : Prop := rowFillsUptoRow.holds Try.pinned (OpenSpec.upto rowFillsSpec)

/-- 'falseworklaw4.RowGets', WHERE WHAT IT READS IS OF BULK AT MOST 1048576: true; the input reads as it did. -/
def rowGetsUptoRow : OpenClaim := { program := "ytebfilljdnhccaa", sum := "a73a41672e3f4205a521de168978997ca631ba2ac4fbbbad44cf352003c315e5", func := "falsework/falseworklaw4.RowGets", spec := "rowGets", inPlace := ["math.Float64frombits"], unfollowed := true, recurses := true, apart := false, narrowed := true }
def RowGetsUptoSaid : Prop := rowGetsUptoRow.holds Try.pinned (OpenSpec.upto rowGetsSpec)

/-- 'falseworklaw4.RowBack', WHERE WHAT IT READS IS OF BULK AT MOST 1048576: true; the input reads as it did. -/
def rowBackUptoRow : OpenClaim := { program := "ytebfilljdnhccaa", sum := "a73a41672e3f4205a521de168978997ca631ba2ac4fbbbad44cf352003c315e5", func := "falsework/falseworklaw4.RowBack", spec := "rowBack", inPlace := ["math.Float64frombits"], unfollowed := true, recurses := true, apart := false, narrowed := true }
def RowBackUptoSaid : Prop := rowBackUptoRow.holds Try.pinned (OpenSpec.upto rowBackSpec)

/-- 'falseworklaw4.RowWiths', WHERE WHAT IT READS IS OF BULK AT MOST 1048576: true; the input reads as it did. -/
def rowWithsUptoRow : OpenClaim := { program := "ytebfilljdnhccaa", sum := "a73a41672e3f4205a521de168978997ca631ba2ac4fbbbad44cf352003c315e5", func := "falsework/falseworklaw4.RowWiths", spec := "rowWiths", inPlace := ["math.Float64frombits", "slices.overlaps[falsework/api.Cell]"], unfollowed := true, recurses := true, apart := false, narrowed := true }
def RowWithsUptoSaid : Prop := rowWithsUptoRow.holds Try.pinned (OpenSpec.upto rowWithsSpec)

/-- 'falseworklaw4.RowTurns', WHERE WHAT IT READS IS OF BULK AT MOST 1048576: true; the input reads as it did. -/
def rowTurnsUptoRow : OpenClaim := { program := "ytebfilljdnhccaa", sum := "a73a41672e3f4205a521de168978997ca631ba2ac4fbbbad44cf352003c315e5", func := "falsework/falseworklaw4.RowTurns", spec := "rowTurns", inPlace := ["math.Float64frombits", "slices.overlaps[falsework/api.Cell]"], unfollowed := true, recurses := true, apart := false, narrowed := true }
def RowTurnsUptoSaid : Prop := rowTurnsUptoRow.holds Try.pinned (OpenSpec.upto rowTurnsSpec)

end Rows
end Go.Proofs.Ytebfilljdnhccaa
