/-
  No cell of these rows narrows 'for every input' (looked for: loops, veiled, ifaces, maps, wideKeys, modest, calm, conditions, laid).
  DERIVED. THE GIVEN ROWS OF THIS SEAT. 5 by the template 'for every input the law returns true; each argument reads behind the call as it read before'; 0 by the template 'total and deterministic' (their statements: YtifhnkbhjmapeaaTotals.lean).
  GIVEN WITH THE SEED: the statements are not yours to turn. If you find one false, say at which input.
  Laid BY PROGRAM, IN A SANDBOX (cutbox-rows.mjs): the forced cells as the released guide's own fill.sh prints them over the translation ccccfd1f15754e45… (all of the seat's roots in one cut). By AI agents, Wed Nov 11 2026. No macro, syntax, notation, axiom, sorry.
-/
import Derived.Test.YtifhnkbhjmapeaaChecked
import GoSem.Claim
import GoSem.ClaimJoined
import GoSem.ClaimMapViews
import Derived.JoinedTies
import Derived.KernelRfl
namespace Go.Proofs.Ytifhnkbhjmapeaa
/- THE CELL 'sum', in the pinned program and in every row, IS THE sha256 OF THE DUMP (.gsa) THAT YtifhnkbhjmapeaaProg.lean LOADS. Nothing in Lean hashes anything: it is a label: what it is worth is what the hold of that sum in a sandbox is worth. -/
noncomputable def Try.pinned : Pinned := { name := "ytifhnkbhjmapeaa", sum := "ccccfd1f15754e45a310b5acf43e8815fea8285aca60f08d32ba271cc474af28", checked := Try.checked }
namespace Rows
def none {H : Type} : Left H := { results := [], args := [] }

/-- 'falseworklaw21.KeysRows': WHATEVER THE INPUT: true; the input reads as it did. -/
def keysRowsSpec : ChangeSpec := { name := "keysRows", fn := fun _ => fun
  | [d1, d2, d3] => { results := [.lit (.bool true)], args := [d1, d2, d3] }
  | _ => none }
def keysRowsRow : OpenClaim := { program := "ytifhnkbhjmapeaa", sum := "ccccfd1f15754e45a310b5acf43e8815fea8285aca60f08d32ba271cc474af28", func := "falsework/falseworklaw21.KeysRows", spec := "keysRows", inPlace := ["math.Float64frombits"], apart := false }
def KeysRowsSaid : Prop := keysRowsRow.holds Try.pinned (OpenSpec.ofChange keysRowsSpec)

/-- ITS FALSE NEIGHBOUR: 'it returns false'. Refute it at one input. -/
def keysRowsWrong : ChangeSpec := { name := "keysRows", fn := fun _ => fun
  | [d1, d2, d3] => { results := [.lit (.bool false)], args := [d1, d2, d3] }
  | _ => none }
def KeysRowsWrongFalsely : Prop := keysRowsRow.holds Try.pinned (OpenSpec.ofChange keysRowsWrong)

/-- 'falseworklaw21.KeysUnlike': WHATEVER THE INPUT: true; the input reads as it did. -/
def keysUnlikeSpec : ChangeSpec := { name := "keysUnlike", fn := fun _ => fun
  | [d1, d2, d3, d4, d5] => { results := [.lit (.bool true)], args := [d1, d2, d3, d4, d5] }
  | _ => none }
def keysUnlikeRow : OpenClaim := { program := "ytifhnkbhjmapeaa", sum := "ccccfd1f15754e45a310b5acf43e8815fea8285aca60f08d32ba271cc474af28", func := "falsework/falseworklaw21.KeysUnlike", spec := "keysUnlike", inPlace := ["math.Float64frombits"], apart := false }
def KeysUnlikeSaid : Prop := keysUnlikeRow.holds Try.pinned (OpenSpec.ofChange keysUnlikeSpec)

/-- ITS FALSE NEIGHBOUR: 'it returns false'. Refute it at one input. -/
def keysUnlikeWrong : ChangeSpec := { name := "keysUnlike", fn := fun _ => fun
  | [d1, d2, d3, d4, d5] => { results := [.lit (.bool false)], args := [d1, d2, d3, d4, d5] }
  | _ => none }
def KeysUnlikeWrongFalsely : Prop := keysUnlikeRow.holds Try.pinned (OpenSpec.ofChange keysUnlikeWrong)

/-- 'falseworklaw21.KeysOrder': WHATEVER THE INPUT: true; the input reads as it did. -/
def keysOrderSpec : ChangeSpec := { name := "keysOrder", fn := fun _ => fun
  | [d1, d2, d3, d4] => { results := [.lit (.bool true)], args := [d1, d2, d3, d4] }
  | _ => none }
def keysOrderRow : OpenClaim := { program := "ytifhnkbhjmapeaa", sum := "ccccfd1f15754e45a310b5acf43e8815fea8285aca60f08d32ba271cc474af28", func := "falsework/falseworklaw21.KeysOrder", spec := "keysOrder", inPlace := ["math.Float64frombits"], apart := false }
def KeysOrderSaid : Prop := keysOrderRow.holds Try.pinned (OpenSpec.ofChange keysOrderSpec)

/-- ITS FALSE NEIGHBOUR: 'it returns false'. Refute it at one input. -/
def keysOrderWrong : ChangeSpec := { name := "keysOrder", fn := fun _ => fun
  | [d1, d2, d3, d4] => { results := [.lit (.bool false)], args := [d1, d2, d3, d4] }
  | _ => none }
def KeysOrderWrongFalsely : Prop := keysOrderRow.holds Try.pinned (OpenSpec.ofChange keysOrderWrong)

/-- 'falseworklaw21.KeysEntries': WHATEVER THE INPUT: true; the input reads as it did. -/
def keysEntriesSpec : ChangeSpec := { name := "keysEntries", fn := fun _ => fun
  | [d1, d2, d3, d4] => { results := [.lit (.bool true)], args := [d1, d2, d3, d4] }
  | _ => none }
def keysEntriesRow : OpenClaim := { program := "ytifhnkbhjmapeaa", sum := "ccccfd1f15754e45a310b5acf43e8815fea8285aca60f08d32ba271cc474af28", func := "falsework/falseworklaw21.KeysEntries", spec := "keysEntries", inPlace := ["math.Float64frombits"], apart := false }
def KeysEntriesSaid : Prop := keysEntriesRow.holds Try.pinned (OpenSpec.ofChange keysEntriesSpec)

/-- ITS FALSE NEIGHBOUR: 'it returns false'. Refute it at one input. -/
def keysEntriesWrong : ChangeSpec := { name := "keysEntries", fn := fun _ => fun
  | [d1, d2, d3, d4] => { results := [.lit (.bool false)], args := [d1, d2, d3, d4] }
  | _ => none }
def KeysEntriesWrongFalsely : Prop := keysEntriesRow.holds Try.pinned (OpenSpec.ofChange keysEntriesWrong)

/-- 'falseworklaw21.KeysWithin': WHATEVER THE INPUT: true; the input reads as it did. -/
def keysWithinSpec : ChangeSpec := { name := "keysWithin", fn := fun _ => fun
  | [d1, d2, d3, d4, d5, d6] => { results := [.lit (.bool true)], args := [d1, d2, d3, d4, d5, d6] }
  | _ => none }
def keysWithinRow : OpenClaim := { program := "ytifhnkbhjmapeaa", sum := "ccccfd1f15754e45a310b5acf43e8815fea8285aca60f08d32ba271cc474af28", func := "falsework/falseworklaw21.KeysWithin", spec := "keysWithin", inPlace := ["math.Float64frombits"], apart := false }
def KeysWithinSaid : Prop := keysWithinRow.holds Try.pinned (OpenSpec.ofChange keysWithinSpec)

/-- ITS FALSE NEIGHBOUR: 'it returns false'. Refute it at one input. -/
def keysWithinWrong : ChangeSpec := { name := "keysWithin", fn := fun _ => fun
  | [d1, d2, d3, d4, d5, d6] => { results := [.lit (.bool false)], args := [d1, d2, d3, d4, d5, d6] }
  | _ => none }
def KeysWithinWrongFalsely : Prop := keysWithinRow.holds Try.pinned (OpenSpec.ofChange keysWithinWrong)

/- THE SECOND FORM. 'bulk': how many values and letters a reading holds, each counted each time it is reached (what is shared counts as often as it is met; a slice's spare places count too). A statement '..UptoSaid' is the law's where the arguments, and the package variables that the reading takes, are together of bulk at most 1048576: NARROWER than '..Said'. Prove '..Said' where nothing that the law and all that it calls make is longer than what came in: it says more and counts as full. Else prove '..UptoSaid'. A law counts once. -/
mutual
def uptoBulk {H : Type} : DataW H → Nat
  | .lit (.string bytes) => bytes.length + 1
  | .lit _ => 1
  | .nil => 1
  | .ptr d => uptoBulk d + 1
  | .slice elems spare => uptoBulkAll elems + uptoBulkAll spare + 1
  | .agg parts => uptoBulkAll parts + 1
  | .iface _ d => uptoBulk d + 1
  | .map entries => uptoBulkEntries entries + 1
  | .held _ => 1
def uptoBulkAll {H : Type} : List (DataW H) → Nat
  | [] => 0
  | d :: r => uptoBulk d + uptoBulkAll r
def uptoBulkEntries {H : Type} : List (Lit × DataW H) → Nat
  | [] => 0
  | x :: r => uptoBulkEntry x + uptoBulkEntries r
def uptoBulkEntry {H : Type} : Lit × DataW H → Nat
  | (.string bytes, d) => bytes.length + uptoBulk d + 1
  | (_, d) => uptoBulk d + 1
 end
def uptoSmall : (H : Type) → List (DataW H) → Bool := fun _ ds => decide (uptoBulkAll ds ≤ 1048576)
def OpenSpec.upto (s : _root_.Go.ChangeSpec) : _root_.Go.OpenSpec := { _root_.Go.OpenSpec.ofChange s with cond := some uptoSmall }

/-- 'falseworklaw21.KeysRows', WHERE WHAT IT READS IS OF BULK AT MOST 1048576: true; the input reads as it did. -/
def keysRowsUptoRow : OpenClaim := { program := "ytifhnkbhjmapeaa", sum := "ccccfd1f15754e45a310b5acf43e8815fea8285aca60f08d32ba271cc474af28", func := "falsework/falseworklaw21.KeysRows", spec := "keysRows", inPlace := ["math.Float64frombits"], apart := false, narrowed := true }
def KeysRowsUptoSaid : Prop := keysRowsUptoRow.holds Try.pinned (OpenSpec.upto keysRowsSpec)

/-- 'falseworklaw21.KeysUnlike', WHERE WHAT IT READS IS OF BULK AT MOST 1048576: true; the input reads as it did. -/
def keysUnlikeUptoRow : OpenClaim := { program := "ytifhnkbhjmapeaa", sum := "ccccfd1f15754e45a310b5acf43e8815fea8285aca60f08d32ba271cc474af28", func := "falsework/falseworklaw21.KeysUnlike", spec := "keysUnlike", inPlace := ["math.Float64frombits"], apart := false, narrowed := true }
def KeysUnlikeUptoSaid : Prop := keysUnlikeUptoRow.holds Try.pinned (OpenSpec.upto keysUnlikeSpec)

/-- 'falseworklaw21.KeysOrder', WHERE WHAT IT READS IS OF BULK AT MOST 1048576: true; the input reads as it did. -/
def keysOrderUptoRow : OpenClaim := { program := "ytifhnkbhjmapeaa", sum := "ccccfd1f15754e45a310b5acf43e8815fea8285aca60f08d32ba271cc474af28", func := "falsework/falseworklaw21.KeysOrder", spec := "keysOrder", inPlace := ["math.Float64frombits"], apart := false, narrowed := true }
def KeysOrderUptoSaid : Prop := keysOrderUptoRow.holds Try.pinned (OpenSpec.upto keysOrderSpec)

/-- 'falseworklaw21.KeysEntries', WHERE WHAT IT READS IS OF BULK AT MOST 1048576: true; the input reads as it did. -/
def keysEntriesUptoRow : OpenClaim := { program := "ytifhnkbhjmapeaa", sum := "ccccfd1f15754e45a310b5acf43e8815fea8285aca60f08d32ba271cc474af28", func := "falsework/falseworklaw21.KeysEntries", spec := "keysEntries", inPlace := ["math.Float64frombits"], apart := false, narrowed := true }
def KeysEntriesUptoSaid : Prop := keysEntriesUptoRow.holds Try.pinned (OpenSpec.upto keysEntriesSpec)

/-- 'falseworklaw21.KeysWithin', WHERE WHAT IT READS IS OF BULK AT MOST 1048576: true; the input reads as it did. -/
def keysWithinUptoRow : OpenClaim := { program := "ytifhnkbhjmapeaa", sum := "ccccfd1f15754e45a310b5acf43e8815fea8285aca60f08d32ba271cc474af28", func := "falsework/falseworklaw21.KeysWithin", spec := "keysWithin", inPlace := ["math.Float64frombits"], apart := false, narrowed := true }
def KeysWithinUptoSaid : Prop := keysWithinUptoRow.holds Try.pinned (OpenSpec.upto keysWithinSpec)

end Rows
end Go.Proofs.Ytifhnkbhjmapeaa
