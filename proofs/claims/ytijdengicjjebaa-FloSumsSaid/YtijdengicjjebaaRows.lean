/-
  No cell of these rows narrows 'for every input' (looked for: loops, veiled, ifaces, maps, wideKeys, modest, calm, conditions, laid).
  DERIVED. THE GIVEN ROWS OF THIS SEAT. 9 by the template 'for every input the law returns true; each argument reads behind the call as it read before'; 0 by the template 'total and deterministic' (their statements: YtijdengicjjebaaTotals.lean).
  GIVEN WITH THE SEED: the statements are not yours to turn. If you find one false, say at which input.
  Laid BY PROGRAM, IN A SANDBOX (cutbox-rows.mjs): the forced cells as the released guide's own fill.sh prints them over the translation c75d04f120004896… (all of the seat's roots in one cut). By AI agents, Wed Nov 11 2026. No macro, syntax, notation, axiom, sorry.
-/
import Derived.Test.YtijdengicjjebaaChecked
import GoSem.Claim
import GoSem.ClaimJoined
import GoSem.ClaimMapViews
import Derived.JoinedTies
import Derived.KernelRfl
namespace Go.Proofs.Ytijdengicjjebaa
/- THE CELL 'sum', in the pinned program and in every row, IS THE sha256 OF THE DUMP (.gsa) THAT YtijdengicjjebaaProg.lean LOADS. Nothing in Lean hashes anything: it is a label: what it is worth is what the hold of that sum in a sandbox is worth. -/
noncomputable def Try.pinned : Pinned := { name := "ytijdengicjjebaa", sum := "c75d04f1200048968d5f4547bf0cae72b5fd2a3cfc3b74df1ef28be4f1ab2918", checked := Try.checked }
namespace Rows
def none {H : Type} : Left H := { results := [], args := [] }

/-- 'falseworklaw1.FloCanons': WHATEVER THE INPUT: true; the input reads as it did. -/
def floCanonsSpec : ChangeSpec := { name := "floCanons", fn := fun _ => fun
  | [d] => { results := [.lit (.bool true)], args := [d] }
  | _ => none }
def floCanonsRow : OpenClaim := { program := "ytijdengicjjebaa", sum := "c75d04f1200048968d5f4547bf0cae72b5fd2a3cfc3b74df1ef28be4f1ab2918", func := "falsework/falseworklaw1.FloCanons", spec := "floCanons", inPlace := ["math.Float64frombits", "math.archTrunc", "math.Float64bits"], apart := false }
def FloCanonsSaid : Prop := floCanonsRow.holds Try.pinned (OpenSpec.ofChange floCanonsSpec)

/-- ITS FALSE NEIGHBOUR: 'it returns false'. Refute it at one input. -/
def floCanonsWrong : ChangeSpec := { name := "floCanons", fn := fun _ => fun
  | [d] => { results := [.lit (.bool false)], args := [d] }
  | _ => none }
def FloCanonsWrongFalsely : Prop := floCanonsRow.holds Try.pinned (OpenSpec.ofChange floCanonsWrong)

/-- 'falseworklaw1.FloSums': WHATEVER THE INPUT: true; the input reads as it did. -/
def floSumsSpec : ChangeSpec := { name := "floSums", fn := fun _ => fun
  | [d1, d2] => { results := [.lit (.bool true)], args := [d1, d2] }
  | _ => none }
def floSumsRow : OpenClaim := { program := "ytijdengicjjebaa", sum := "c75d04f1200048968d5f4547bf0cae72b5fd2a3cfc3b74df1ef28be4f1ab2918", func := "falsework/falseworklaw1.FloSums", spec := "floSums", inPlace := ["math.Float64frombits", "math.Float64bits", "math.archTrunc"], apart := false }
def FloSumsSaid : Prop := floSumsRow.holds Try.pinned (OpenSpec.ofChange floSumsSpec)

/-- ITS FALSE NEIGHBOUR: 'it returns false'. Refute it at one input. -/
def floSumsWrong : ChangeSpec := { name := "floSums", fn := fun _ => fun
  | [d1, d2] => { results := [.lit (.bool false)], args := [d1, d2] }
  | _ => none }
def FloSumsWrongFalsely : Prop := floSumsRow.holds Try.pinned (OpenSpec.ofChange floSumsWrong)

/-- 'falseworklaw1.FloInts': WHATEVER THE INPUT: true; the input reads as it did. -/
def floIntsSpec : ChangeSpec := { name := "floInts", fn := fun _ => fun
  | [d1, d2] => { results := [.lit (.bool true)], args := [d1, d2] }
  | _ => none }
def floIntsRow : OpenClaim := { program := "ytijdengicjjebaa", sum := "c75d04f1200048968d5f4547bf0cae72b5fd2a3cfc3b74df1ef28be4f1ab2918", func := "falsework/falseworklaw1.FloInts", spec := "floInts", inPlace := ["math.Float64frombits", "math.archTrunc", "math.Float64bits"], apart := false }
def FloIntsSaid : Prop := floIntsRow.holds Try.pinned (OpenSpec.ofChange floIntsSpec)

/-- ITS FALSE NEIGHBOUR: 'it returns false'. Refute it at one input. -/
def floIntsWrong : ChangeSpec := { name := "floInts", fn := fun _ => fun
  | [d1, d2] => { results := [.lit (.bool false)], args := [d1, d2] }
  | _ => none }
def FloIntsWrongFalsely : Prop := floIntsRow.holds Try.pinned (OpenSpec.ofChange floIntsWrong)

/-- 'falseworklaw1.FloOrders': WHATEVER THE INPUT: true; the input reads as it did. -/
def floOrdersSpec : ChangeSpec := { name := "floOrders", fn := fun _ => fun
  | [d1, d2] => { results := [.lit (.bool true)], args := [d1, d2] }
  | _ => none }
def floOrdersRow : OpenClaim := { program := "ytijdengicjjebaa", sum := "c75d04f1200048968d5f4547bf0cae72b5fd2a3cfc3b74df1ef28be4f1ab2918", func := "falsework/falseworklaw1.FloOrders", spec := "floOrders", inPlace := ["math.Float64frombits", "math.archTrunc", "math.Float64bits"], apart := false }
def FloOrdersSaid : Prop := floOrdersRow.holds Try.pinned (OpenSpec.ofChange floOrdersSpec)

/-- ITS FALSE NEIGHBOUR: 'it returns false'. Refute it at one input. -/
def floOrdersWrong : ChangeSpec := { name := "floOrders", fn := fun _ => fun
  | [d1, d2] => { results := [.lit (.bool false)], args := [d1, d2] }
  | _ => none }
def FloOrdersWrongFalsely : Prop := floOrdersRow.holds Try.pinned (OpenSpec.ofChange floOrdersWrong)

/-- 'falseworklaw1.FloCmps': WHATEVER THE INPUT: true; the input reads as it did. -/
def floCmpsSpec : ChangeSpec := { name := "floCmps", fn := fun _ => fun
  | [d1, d2] => { results := [.lit (.bool true)], args := [d1, d2] }
  | _ => none }
def floCmpsRow : OpenClaim := { program := "ytijdengicjjebaa", sum := "c75d04f1200048968d5f4547bf0cae72b5fd2a3cfc3b74df1ef28be4f1ab2918", func := "falsework/falseworklaw1.FloCmps", spec := "floCmps", inPlace := ["math.Float64frombits", "math.archTrunc", "math.Float64bits"], apart := false }
def FloCmpsSaid : Prop := floCmpsRow.holds Try.pinned (OpenSpec.ofChange floCmpsSpec)

/-- ITS FALSE NEIGHBOUR: 'it returns false'. Refute it at one input. -/
def floCmpsWrong : ChangeSpec := { name := "floCmps", fn := fun _ => fun
  | [d1, d2] => { results := [.lit (.bool false)], args := [d1, d2] }
  | _ => none }
def FloCmpsWrongFalsely : Prop := floCmpsRow.holds Try.pinned (OpenSpec.ofChange floCmpsWrong)

/-- 'falseworklaw1.FloBack': WHATEVER THE INPUT: true; the input reads as it did. -/
def floBackSpec : ChangeSpec := { name := "floBack", fn := fun _ => fun
  | [d1, d2] => { results := [.lit (.bool true)], args := [d1, d2] }
  | _ => none }
def floBackRow : OpenClaim := { program := "ytijdengicjjebaa", sum := "c75d04f1200048968d5f4547bf0cae72b5fd2a3cfc3b74df1ef28be4f1ab2918", func := "falsework/falseworklaw1.FloBack", spec := "floBack", inPlace := ["math.Float64frombits", "math.archTrunc", "math.Float64bits"], apart := false }
def FloBackSaid : Prop := floBackRow.holds Try.pinned (OpenSpec.ofChange floBackSpec)

/-- ITS FALSE NEIGHBOUR: 'it returns false'. Refute it at one input. -/
def floBackWrong : ChangeSpec := { name := "floBack", fn := fun _ => fun
  | [d1, d2] => { results := [.lit (.bool false)], args := [d1, d2] }
  | _ => none }
def FloBackWrongFalsely : Prop := floBackRow.holds Try.pinned (OpenSpec.ofChange floBackWrong)

/-- 'falseworklaw1.FloLeads': WHATEVER THE INPUT: true; the input reads as it did. -/
def floLeadsSpec : ChangeSpec := { name := "floLeads", fn := fun _ => fun
  | [d1, d2, d3] => { results := [.lit (.bool true)], args := [d1, d2, d3] }
  | _ => none }
def floLeadsRow : OpenClaim := { program := "ytijdengicjjebaa", sum := "c75d04f1200048968d5f4547bf0cae72b5fd2a3cfc3b74df1ef28be4f1ab2918", func := "falsework/falseworklaw1.FloLeads", spec := "floLeads", inPlace := ["math.Float64frombits", "math.archTrunc", "math.Float64bits"], apart := false }
def FloLeadsSaid : Prop := floLeadsRow.holds Try.pinned (OpenSpec.ofChange floLeadsSpec)

/-- ITS FALSE NEIGHBOUR: 'it returns false'. Refute it at one input. -/
def floLeadsWrong : ChangeSpec := { name := "floLeads", fn := fun _ => fun
  | [d1, d2, d3] => { results := [.lit (.bool false)], args := [d1, d2, d3] }
  | _ => none }
def FloLeadsWrongFalsely : Prop := floLeadsRow.holds Try.pinned (OpenSpec.ofChange floLeadsWrong)

/-- 'falseworklaw1.FloWhole': WHATEVER THE INPUT: true; the input reads as it did. -/
def floWholeSpec : ChangeSpec := { name := "floWhole", fn := fun _ => fun
  | [d1, d2, d3] => { results := [.lit (.bool true)], args := [d1, d2, d3] }
  | _ => none }
def floWholeRow : OpenClaim := { program := "ytijdengicjjebaa", sum := "c75d04f1200048968d5f4547bf0cae72b5fd2a3cfc3b74df1ef28be4f1ab2918", func := "falsework/falseworklaw1.FloWhole", spec := "floWhole", inPlace := ["math.Float64bits", "math.Float64frombits", "math.archTrunc"], apart := false }
def FloWholeSaid : Prop := floWholeRow.holds Try.pinned (OpenSpec.ofChange floWholeSpec)

/-- ITS FALSE NEIGHBOUR: 'it returns false'. Refute it at one input. -/
def floWholeWrong : ChangeSpec := { name := "floWhole", fn := fun _ => fun
  | [d1, d2, d3] => { results := [.lit (.bool false)], args := [d1, d2, d3] }
  | _ => none }
def FloWholeWrongFalsely : Prop := floWholeRow.holds Try.pinned (OpenSpec.ofChange floWholeWrong)

/-- 'falseworklaw1.FloEdges': WHATEVER THE INPUT: true; the input reads as it did. -/
def floEdgesSpec : ChangeSpec := { name := "floEdges", fn := fun _ => fun
  | [d1, d2] => { results := [.lit (.bool true)], args := [d1, d2] }
  | _ => none }
def floEdgesRow : OpenClaim := { program := "ytijdengicjjebaa", sum := "c75d04f1200048968d5f4547bf0cae72b5fd2a3cfc3b74df1ef28be4f1ab2918", func := "falsework/falseworklaw1.FloEdges", spec := "floEdges", inPlace := ["math.Float64frombits", "math.Float64bits", "math.archTrunc"], apart := false }
def FloEdgesSaid : Prop := floEdgesRow.holds Try.pinned (OpenSpec.ofChange floEdgesSpec)

/-- ITS FALSE NEIGHBOUR: 'it returns false'. Refute it at one input. -/
def floEdgesWrong : ChangeSpec := { name := "floEdges", fn := fun _ => fun
  | [d1, d2] => { results := [.lit (.bool false)], args := [d1, d2] }
  | _ => none }
def FloEdgesWrongFalsely : Prop := floEdgesRow.holds Try.pinned (OpenSpec.ofChange floEdgesWrong)

/- THE SECOND FORM. 'bulk': how many values and letters a reading holds, each counted each time it is reached (what is shared counts as often as it is met; a slice's spare places count too). A statement '..UptoSaid' is the law's where the arguments, and the package variables that the reading takes, are together of bulk at most 1048576: NARROWER than '..Said'. Prove '..Said' where nothing that the law and all that it calls make is longer than what came in: it says more and counts as full. Else prove '..UptoSaid'. A law counts once. -/
mutual
def uptoBulk {H : Type} : DataW H → Nat
  | .lit (.string bytes) => bytes.length + 1
  | .lit _ => 1
  | .nil => 1
  | .ptr d => uptoBulk d + 1
  | .slice elems spare => uptoBulkAll elems + uptoBulkAll spare + 1
  | .agg parts => uptoBulkAll parts + 1
  | .iface _ d => uptoBulk d + 1
  | .map entries => uptoBulkEntries entries + 1
  | .held _ => 1
def uptoBulkAll {H : Type} : List (DataW H) → Nat
  | [] => 0
  | d :: r => uptoBulk d + uptoBulkAll r
def uptoBulkEntries {H : Type} : List (Lit × DataW H) → Nat
  | [] => 0
  | x :: r => uptoBulkEntry x + uptoBulkEntries r
def uptoBulkEntry {H : Type} : Lit × DataW H → Nat
  | (.string bytes, d) => bytes.length + uptoBulk d + 1
  | (_, d) => uptoBulk d + 1
 end
def uptoSmall : (H : Type) → List (DataW H) → Bool := fun _ ds => decide (uptoBulkAll ds ≤ 1048576)
def OpenSpec.upto (s : _root_.Go.ChangeSpec) : _root_.Go.OpenSpec := { _root_.Go.OpenSpec.ofChange s with cond := some uptoSmall }

/-- 'falseworklaw1.FloCanons', WHERE WHAT IT READS IS OF BULK AT MOST 1048576: true; the input reads as it did. -/
def floCanonsUptoRow : OpenClaim := { program := "ytijdengicjjebaa", sum := "c75d04f1200048968d5f4547bf0cae72b5fd2a3cfc3b74df1ef28be4f1ab2918", func := "falsework/falseworklaw1.FloCanons", spec := "floCanons", inPlace := ["math.Float64frombits", "math.archTrunc", "math.Float64bits"], apart := false, narrowed := true }
def FloCanonsUptoSaid : Prop := floCanonsUptoRow.holds Try.pinned (OpenSpec.upto floCanonsSpec)

/-- 'falseworklaw1.FloSums', WHERE WHAT IT READS IS OF BULK AT MOST 1048576: true; the input reads as it did. -/
def floSumsUptoRow : OpenClaim := { program := "ytijdengicjjebaa", sum := "c75d04f1200048968d5f4547bf0cae72b5fd2a3cfc3b74df1ef28be4f1ab2918", func := "falsework/falseworklaw1.FloSums", spec := "floSums", inPlace := ["math.Float64frombits", "math.Float64bits", "math.archTrunc"], apart := false, narrowed := true }
def FloSumsUptoSaid : Prop := floSumsUptoRow.holds Try.pinned (OpenSpec.upto floSumsSpec)

/-- 'falseworklaw1.FloInts', WHERE WHAT IT READS IS OF BULK AT MOST 1048576: true; the input reads as it did. -/
def floIntsUptoRow : OpenClaim := { program := "ytijdengicjjebaa", sum := "c75d04f1200048968d5f4547bf0cae72b5fd2a3cfc3b74df1ef28be4f1ab2918", func := "falsework/falseworklaw1.FloInts", spec := "floInts", inPlace := ["math.Float64frombits", "math.archTrunc", "math.Float64bits"], apart := false, narrowed := true }
def FloIntsUptoSaid : Prop := floIntsUptoRow.holds Try.pinned (OpenSpec.upto floIntsSpec)

/-- 'falseworklaw1.FloOrders', WHERE WHAT IT READS IS OF BULK AT MOST 1048576: true; the input reads as it did. -/
def floOrdersUptoRow : OpenClaim := { program := "ytijdengicjjebaa", sum := "c75d04f1200048968d5f4547bf0cae72b5fd2a3cfc3b74df1ef28be4f1ab2918", func := "falsework/falseworklaw1.FloOrders", spec := "floOrders", inPlace := ["math.Float64frombits", "math.archTrunc", "math.Float64bits"], apart := false, narrowed := true }
def FloOrdersUptoSaid : Prop := floOrdersUptoRow.holds Try.pinned (OpenSpec.upto floOrdersSpec)

/-- 'falseworklaw1.FloCmps', WHERE WHAT IT READS IS OF BULK AT MOST 1048576: true; the input reads as it did. -/
def floCmpsUptoRow : OpenClaim := { program := "ytijdengicjjebaa", sum := "c75d04f1200048968d5f4547bf0cae72b5fd2a3cfc3b74df1ef28be4f1ab2918", func := "falsework/falseworklaw1.FloCmps", spec := "floCmps", inPlace := ["math.Float64frombits", "math.archTrunc", "math.Float64bits"], apart := false, narrowed := true }
def FloCmpsUptoSaid : Prop := floCmpsUptoRow.holds Try.pinned (OpenSpec.upto floCmpsSpec)

/-- 'falseworklaw1.FloBack', WHERE WHAT IT READS IS OF BULK AT MOST 1048576: true; the input reads as it did. -/
def floBackUptoRow : OpenClaim := { program := "ytijdengicjjebaa", sum := "c75d04f1200048968d5f4547bf0cae72b5fd2a3cfc3b74df1ef28be4f1ab2918", func := "falsework/falseworklaw1.FloBack", spec := "floBack", inPlace := ["math.Float64frombits", "math.archTrunc", "math.Float64bits"], apart := false, narrowed := true }
def FloBackUptoSaid : Prop := floBackUptoRow.holds Try.pinned (OpenSpec.upto floBackSpec)

/-- 'falseworklaw1.FloLeads', WHERE WHAT IT READS IS OF BULK AT MOST 1048576: true; the input reads as it did. -/
def floLeadsUptoRow : OpenClaim := { program := "ytijdengicjjebaa", sum := "c75d04f1200048968d5f4547bf0cae72b5fd2a3cfc3b74df1ef28be4f1ab2918", func := "falsework/falseworklaw1.FloLeads", spec := "floLeads", inPlace := ["math.Float64frombits", "math.archTrunc", "math.Float64bits"], apart := false, narrowed := true }
def FloLeadsUptoSaid : Prop := floLeadsUptoRow.holds Try.pinned (OpenSpec.upto floLeadsSpec)

/-- 'falseworklaw1.FloWhole', WHERE WHAT IT READS IS OF BULK AT MOST 1048576: true; the input reads as it did. -/
def floWholeUptoRow : OpenClaim := { program := "ytijdengicjjebaa", sum := "c75d04f1200048968d5f4547bf0cae72b5fd2a3cfc3b74df1ef28be4f1ab2918", func := "falsework/falseworklaw1.FloWhole", spec := "floWhole", inPlace := ["math.Float64bits", "math.Float64frombits", "math.archTrunc"], apart := false, narrowed := true }
def FloWholeUptoSaid : Prop := floWholeUptoRow.holds Try.pinned (OpenSpec.upto floWholeSpec)

/-- 'falseworklaw1.FloEdges', WHERE WHAT IT READS IS OF BULK AT MOST 1048576: true; the input reads as it did. -/
def floEdgesUptoRow : OpenClaim := { program := "ytijdengicjjebaa", sum := "c75d04f1200048968d5f4547bf0cae72b5fd2a3cfc3b74df1ef28be4f1ab2918", func := "falsework/falseworklaw1.FloEdges", spec := "floEdges", inPlace := ["math.Float64frombits", "math.Float64bits", "math.archTrunc"], apart := false, narrowed := true }
def FloEdgesUptoSaid : Prop := floEdgesUptoRow.holds Try.pinned (OpenSpec.upto floEdgesSpec)

end Rows
end Go.Proofs.Ytijdengicjjebaa
