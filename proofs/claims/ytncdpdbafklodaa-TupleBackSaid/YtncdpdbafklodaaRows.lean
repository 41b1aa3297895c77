/-
  No cell of these rows narrows 'for every input' (looked for: loops, veiled, ifaces, maps, wideKeys, modest, calm, conditions, laid).
  DERIVED. THE GIVEN ROWS OF THIS SEAT. 6 by the template 'for every input the law returns true; each argument reads behind the call as it read before'; 0 by the template 'total and deterministic' (their statements: YtncdpdbafklodaaTotals.lean).
  GIVEN WITH THE SEED: the statements are not yours to turn. If you find one false, say at which input.
  Laid BY PROGRAM, IN A SANDBOX (cutbox-rows.mjs): the forced cells as the released guide's own fill.sh prints them over the translation ba949b1b16ed0d58… (all of the seat's roots in one cut). By AI agents, Wed Nov 11 2026. No macro, syntax, notation, axiom, sorry.
-/
import Derived.Test.YtncdpdbafklodaaChecked
import GoSem.Claim
import GoSem.ClaimJoined
import GoSem.ClaimMapViews
import Derived.JoinedTies
import Derived.KernelRfl
namespace Go.Proofs.Ytncdpdbafklodaa
/- THE CELL 'sum', in the pinned program and in every row, IS THE sha256 OF THE DUMP (.gsa) THAT YtncdpdbafklodaaProg.lean LOADS. Nothing in Lean hashes anything: it is a label: what it is worth is what the hold of that sum in a sandbox is worth. -/
noncomputable def Try.pinned : Pinned := { name := "ytncdpdbafklodaa", sum := "ba949b1b16ed0d5837a41038ac29d8cc889d0c111e7c8bf9f32b04369637f09b", checked := Try.checked }
namespace Rows
def none {H : Type} : Left H := { results := [], args := [] }

/-- 'falseworklaw3.TuplePuts': WHATEVER THE INPUT: true; the input reads as it did. -/
def tuplePutsSpec : ChangeSpec := { name := "tuplePuts", fn := fun _ => fun
  | [d] => { results := [.lit (.bool true)], args := [d] }
  | _ => none }
def tuplePutsRow : OpenClaim := { program := "ytncdpdbafklodaa", sum := "ba949b1b16ed0d5837a41038ac29d8cc889d0c111e7c8bf9f32b04369637f09b", func := "falsework/falseworklaw3.TuplePuts", spec := "tuplePuts", inPlace := ["math.Float64frombits"], apart := false }
def TuplePutsSaid : Prop := tuplePutsRow.holds Try.pinned (OpenSpec.ofChange tuplePutsSpec)

/-- ITS FALSE NEIGHBOUR: 'it returns false'. Refute it at one input. -/
def tuplePutsWrong : ChangeSpec := { name := "tuplePuts", fn := fun _ => fun
  | [d] => { results := [.lit (.bool false)], args := [d] }
  | _ => none }
def TuplePutsWrongFalsely : Prop := tuplePutsRow.holds Try.pinned (OpenSpec.ofChange tuplePutsWrong)

/-- 'falseworklaw3.TupleAfters': WHATEVER THE INPUT: true; the input reads as it did. -/
def tupleAftersSpec : ChangeSpec := { name := "tupleAfters", fn := fun _ => fun
  | [d] => { results := [.lit (.bool true)], args := [d] }
  | _ => none }
def tupleAftersRow : OpenClaim := { program := "ytncdpdbafklodaa", sum := "ba949b1b16ed0d5837a41038ac29d8cc889d0c111e7c8bf9f32b04369637f09b", func := "falsework/falseworklaw3.TupleAfters", spec := "tupleAfters", inPlace := ["math.Float64frombits"], apart := false }
def TupleAftersSaid : Prop := tupleAftersRow.holds Try.pinned (OpenSpec.ofChange tupleAftersSpec)

/-- ITS FALSE NEIGHBOUR: 'it returns false'. Refute it at one input. -/
def tupleAftersWrong : ChangeSpec := { name := "tupleAfters", fn := fun _ => fun
  | [d] => { results := [.lit (.bool false)], args := [d] }
  | _ => none }
def TupleAftersWrongFalsely : Prop := tupleAftersRow.holds Try.pinned (OpenSpec.ofChange tupleAftersWrong)

/-- 'falseworklaw3.TupleOrders': WHATEVER THE INPUT: true; the input reads as it did. -/
def tupleOrdersSpec : ChangeSpec := { name := "tupleOrders", fn := fun _ => fun
  | [d1, d2] => { results := [.lit (.bool true)], args := [d1, d2] }
  | _ => none }
def tupleOrdersRow : OpenClaim := { program := "ytncdpdbafklodaa", sum := "ba949b1b16ed0d5837a41038ac29d8cc889d0c111e7c8bf9f32b04369637f09b", func := "falsework/falseworklaw3.TupleOrders", spec := "tupleOrders", inPlace := ["math.Float64frombits"], apart := false }
def TupleOrdersSaid : Prop := tupleOrdersRow.holds Try.pinned (OpenSpec.ofChange tupleOrdersSpec)

/-- ITS FALSE NEIGHBOUR: 'it returns false'. Refute it at one input. -/
def tupleOrdersWrong : ChangeSpec := { name := "tupleOrders", fn := fun _ => fun
  | [d1, d2] => { results := [.lit (.bool false)], args := [d1, d2] }
  | _ => none }
def TupleOrdersWrongFalsely : Prop := tupleOrdersRow.holds Try.pinned (OpenSpec.ofChange tupleOrdersWrong)

/-- 'falseworklaw3.TupleWithin': WHATEVER THE INPUT: true; the input reads as it did. -/
def tupleWithinSpec : ChangeSpec := { name := "tupleWithin", fn := fun _ => fun
  | [d1, d2] => { results := [.lit (.bool true)], args := [d1, d2] }
  | _ => none }
def tupleWithinRow : OpenClaim := { program := "ytncdpdbafklodaa", sum := "ba949b1b16ed0d5837a41038ac29d8cc889d0c111e7c8bf9f32b04369637f09b", func := "falsework/falseworklaw3.TupleWithin", spec := "tupleWithin", inPlace := ["math.Float64frombits"], apart := false }
def TupleWithinSaid : Prop := tupleWithinRow.holds Try.pinned (OpenSpec.ofChange tupleWithinSpec)

/-- ITS FALSE NEIGHBOUR: 'it returns false'. Refute it at one input. -/
def tupleWithinWrong : ChangeSpec := { name := "tupleWithin", fn := fun _ => fun
  | [d1, d2] => { results := [.lit (.bool false)], args := [d1, d2] }
  | _ => none }
def TupleWithinWrongFalsely : Prop := tupleWithinRow.holds Try.pinned (OpenSpec.ofChange tupleWithinWrong)

/-- 'falseworklaw3.TupleGets': WHATEVER THE INPUT: true; the input reads as it did. -/
def tupleGetsSpec : ChangeSpec := { name := "tupleGets", fn := fun _ => fun
  | [d] => { results := [.lit (.bool true)], args := [d] }
  | _ => none }
def tupleGetsRow : OpenClaim := { program := "ytncdpdbafklodaa", sum := "ba949b1b16ed0d5837a41038ac29d8cc889d0c111e7c8bf9f32b04369637f09b", func := "falsework/falseworklaw3.TupleGets", spec := "tupleGets", inPlace := ["math.Float64frombits"], unfollowed := true, recurses := true, apart := false }
def TupleGetsSaid : Prop := tupleGetsRow.holds Try.pinned (OpenSpec.ofChange tupleGetsSpec)

/-- ITS FALSE NEIGHBOUR: 'it returns false'. Refute it at one input. -/
def tupleGetsWrong : ChangeSpec := { name := "tupleGets", fn := fun _ => fun
  | [d] => { results := [.lit (.bool false)], args := [d] }
  | _ => none }
def TupleGetsWrongFalsely : Prop := tupleGetsRow.holds Try.pinned (OpenSpec.ofChange tupleGetsWrong)

/-- 'falseworklaw3.TupleBack': WHATEVER THE INPUT: true; the input reads as it did. -/
def tupleBackSpec : ChangeSpec := { name := "tupleBack", fn := fun _ => fun
  | [d] => { results := [.lit (.bool true)], args := [d] }
  | _ => none }
def tupleBackRow : OpenClaim := { program := "ytncdpdbafklodaa", sum := "ba949b1b16ed0d5837a41038ac29d8cc889d0c111e7c8bf9f32b04369637f09b", func := "falsework/falseworklaw3.TupleBack", spec := "tupleBack", inPlace := ["math.Float64frombits"], unfollowed := true, recurses := true, apart := false }
def TupleBackSaid : Prop := tupleBackRow.holds Try.pinned (OpenSpec.ofChange tupleBackSpec)

/-- ITS FALSE NEIGHBOUR: 'it returns false'. Refute it at one input. -/
def tupleBackWrong : ChangeSpec := { name := "tupleBack", fn := fun _ => fun
  | [d] => { results := [.lit (.bool false)], args := [d] }
  | _ => none }
def TupleBackWrongFalsely : Prop := tupleBackRow.holds Try.pinned (OpenSpec.ofChange tupleBackWrong)

/- THE SECOND FORM. 'bulk': how many values and letters a reading holds, each counted each time it is reached (what is shared counts as often as it is met; a slice's spare places count too). A statement '..UptoSaid' is the law's where the arguments, and the package variables that the reading takes, are together of bulk at most 1048576: NARROWER than '..Said'. Prove '..Said' where nothing that the law and all that it calls make is longer than what came in: it says more and counts as full. Else prove '..UptoSaid'. A law counts once. -/
mutual
def uptoBulk {H : Type} : DataW H → Nat
  | .lit (.string bytes) => bytes.length + 1
  | .lit _ => 1
  | .nil => 1
  | .ptr d => uptoBulk d + 1
  | .slice elems spare => uptoBulkAll elems + uptoBulkAll spare + 1
  | .agg parts => uptoBulkAll parts + 1
  | .iface _ d => uptoBulk d + 1
  | .map entries => uptoBulkEntries entries + 1
  | .held _ => 1
def uptoBulkAll {H : Type} : List (DataW H) → Nat
  | [] => 0
  | d :: r => uptoBulk d + uptoBulkAll r
def uptoBulkEntries {H : Type} : List (Lit × DataW H) → Nat
  | [] => 0
  | x :: r => uptoBulkEntry x + uptoBulkEntries r
def uptoBulkEntry {H : Type} : Lit × DataW H → Nat
  | (.string bytes, d) => bytes.length + uptoBulk d + 1
  | (_, d) => uptoBulk d + 1
 end
def uptoSmall : (H : Type) → List (DataW H) → Bool := fun _ ds => decide (uptoBulkAll ds ≤ 1048576)
def OpenSpec.upto (s : _root_.Go.ChangeSpec) : _root_.Go.OpenSpec := { _root_.Go.OpenSpec.ofChange s with cond := some uptoSmall }

/-- 'falseworklaw3.TuplePuts', WHERE WHAT IT READS IS OF BULK AT MOST 1048576: true; the input reads as it did. -/
def tuplePutsUptoRow : OpenClaim := { program := "ytncdpdbafklodaa", sum := "ba949b1b16ed0d5837a41038ac29d8cc889d0c111e7c8bf9f32b04369637f09b", func := "falsework/falseworklaw3.TuplePuts", spec := "tuplePuts", inPlace := ["math.Float64frombits"], apart := false, narrowed := true }
def TuplePutsUptoSaid : Prop := tuplePutsUptoRow.holds Try.pinned (OpenSpec.upto tuplePutsSpec)

/-- 'falseworklaw3.TupleAfters', WHERE WHAT IT READS IS OF BULK AT MOST 1048576: true; the input reads as it did. -/
def tupleAftersUptoRow : OpenClaim := { program := "ytncdpdbafklodaa", sum := "ba949b1b16ed0d5837a41038ac29d8cc889d0c111e7c8bf9f32b04369637f09b", func := "falsework/falseworklaw3.TupleAfters", spec := "tupleAfters", inPlace := ["math.Float64frombits"], apart := false, narrowed := true }
def TupleAftersUptoSaid : Prop := tupleAftersUptoRow.holds Try.pinned (OpenSpec.upto tupleAftersSpec)

/-- 'falseworklaw3.TupleOrders', WHERE WHAT IT READS IS OF BULK AT MOST 1048576: true; the input reads as it did. -/
def tupleOrdersUptoRow : OpenClaim := { program := "ytncdpdbafklodaa", sum := "ba949b1b16ed0d5837a41038ac29d8cc889d0c111e7c8bf9f32b04369637f09b", func := "falsework/falseworklaw3.TupleOrders", spec := "tupleOrders", inPlace := ["math.Float64frombits"], apart := false, narrowed := true }
def TupleOrdersUptoSaid : Prop := tupleOrdersUptoRow.holds Try.pinned (OpenSpec.upto tupleOrdersSpec)

/-- 'falseworklaw3.TupleWithin', WHERE WHAT IT READS IS OF BULK AT MOST 1048576: true; the input reads as it did. -/
def tupleWithinUptoRow : OpenClaim := { program := "ytncdpdbafklodaa", sum := "ba949b1b16ed0d5837a41038ac29d8cc889d0c111e7c8bf9f32b04369637f09b", func := "falsework/falseworklaw3.TupleWithin", spec := "tupleWithin", inPlace := ["math.Float64frombits"], apart := false, narrowed := true }
def TupleWithinUptoSaid : Prop := tupleWithinUptoRow.holds Try.pinned (OpenSpec.upto tupleWithinSpec)

/-- 'falseworklaw3.TupleGets', WHERE WHAT IT READS IS OF BULK AT MOST 1048576: true; the input reads as it did. -/
def tupleGetsUptoRow : OpenClaim := { program := "ytncdpdbafklodaa", sum := "ba949b1b16ed0d5837a41038ac29d8cc889d0c111e7c8bf9f32b04369637f09b", func := "falsework/falseworklaw3.TupleGets", spec := "tupleGets", inPlace := ["math.Float64frombits"], unfollowed := true, recurses := true, apart := false, narrowed := true }
def TupleGetsUptoSaid : Prop := tupleGetsUptoRow.holds Try.pinned (OpenSpec.upto tupleGetsSpec)

/-- 'falseworklaw3.TupleBack', WHERE WHAT IT READS IS OF BULK AT MOST 1048576: true; the input reads as it did. -/
def tupleBackUptoRow : OpenClaim := { program := "ytncdpdbafklodaa", sum := "ba949b1b16ed0d5837a41038ac29d8cc889d0c111e7c8bf9f32b04369637f09b", func := "falsework/falseworklaw3.TupleBack", spec := "tupleBack", inPlace := ["math.Float64frombits"], unfollowed := true, recurses := true, apart := false, narrowed := true }
def TupleBackUptoSaid : Prop := tupleBackUptoRow.holds Try.pinned (OpenSpec.upto tupleBackSpec)

end Rows
end Go.Proofs.Ytncdpdbafklodaa
