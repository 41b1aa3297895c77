/-
  No cell of these rows narrows 'for every input' (looked for: loops, veiled, ifaces, maps, wideKeys, modest, calm, conditions, laid).
  DERIVED. THE GIVEN ROWS OF THIS SEAT. 5 by the template 'for every input the law returns true; each argument reads behind the call as it read before'; 0 by the template 'total and deterministic' (their statements: YtikiegglebgmpaaTotals.lean).
  GIVEN WITH THE SEED: the statements are not yours to turn. If you find one false, say at which input.
  Laid BY PROGRAM, IN A SANDBOX (cutbox-rows.mjs): the forced cells as the released guide's own fill.sh prints them over the translation 4283ea1843761fbb… (all of the seat's roots in one cut). By AI agents, Wed Nov 11 2026. No macro, syntax, notation, axiom, sorry.
-/
import Derived.Test.YtikiegglebgmpaaChecked
import GoSem.Claim
import GoSem.ClaimJoined
import GoSem.ClaimMapViews
import Derived.JoinedTies
import Derived.KernelRfl
namespace Go.Proofs.Ytikiegglebgmpaa
/- THE CELL 'sum', in the pinned program and in every row, IS THE sha256 OF THE DUMP (.gsa) THAT YtikiegglebgmpaaProg.lean LOADS. Nothing in Lean hashes anything: it is a label: what it is worth is what the hold of that sum in a sandbox is worth. -/
noncomputable def Try.pinned : Pinned := { name := "ytikiegglebgmpaa", sum := "4283ea1843761fbb4b4a6795ba96871fed18569e37ea9f2d17aa2f0512129c74", checked := Try.checked }
namespace Rows
def none {H : Type} : Left H := { results := [], args := [] }

/-- 'falseworklaw13.CmdMays': WHATEVER THE INPUT: true; the input reads as it did. -/
def cmdMaysSpec : ChangeSpec := { name := "cmdMays", fn := fun _ => fun
  | [d] => { results := [.lit (.bool true)], args := [d] }
  | _ => none }
def cmdMaysRow : OpenClaim := { program := "ytikiegglebgmpaa", sum := "4283ea1843761fbb4b4a6795ba96871fed18569e37ea9f2d17aa2f0512129c74", func := "falsework/falseworklaw13.CmdMays", spec := "cmdMays", inPlace := ["math.Float64frombits"], apart := false }
def CmdMaysSaid : Prop := cmdMaysRow.holds Try.pinned (OpenSpec.ofChange cmdMaysSpec)

/-- ITS FALSE NEIGHBOUR: 'it returns false'. Refute it at one input. -/
def cmdMaysWrong : ChangeSpec := { name := "cmdMays", fn := fun _ => fun
  | [d] => { results := [.lit (.bool false)], args := [d] }
  | _ => none }
def CmdMaysWrongFalsely : Prop := cmdMaysRow.holds Try.pinned (OpenSpec.ofChange cmdMaysWrong)

/-- 'falseworklaw13.CmdPuts': WHATEVER THE INPUT: true; the input reads as it did. -/
def cmdPutsSpec : ChangeSpec := { name := "cmdPuts", fn := fun _ => fun
  | [d] => { results := [.lit (.bool true)], args := [d] }
  | _ => none }
def cmdPutsRow : OpenClaim := { program := "ytikiegglebgmpaa", sum := "4283ea1843761fbb4b4a6795ba96871fed18569e37ea9f2d17aa2f0512129c74", func := "falsework/falseworklaw13.CmdPuts", spec := "cmdPuts", inPlace := ["math.Float64frombits"], apart := false }
def CmdPutsSaid : Prop := cmdPutsRow.holds Try.pinned (OpenSpec.ofChange cmdPutsSpec)

/-- ITS FALSE NEIGHBOUR: 'it returns false'. Refute it at one input. -/
def cmdPutsWrong : ChangeSpec := { name := "cmdPuts", fn := fun _ => fun
  | [d] => { results := [.lit (.bool false)], args := [d] }
  | _ => none }
def CmdPutsWrongFalsely : Prop := cmdPutsRow.holds Try.pinned (OpenSpec.ofChange cmdPutsWrong)

/-- 'falseworklaw13.CmdGets': WHATEVER THE INPUT: true; the input reads as it did. -/
def cmdGetsSpec : ChangeSpec := { name := "cmdGets", fn := fun _ => fun
  | [d] => { results := [.lit (.bool true)], args := [d] }
  | _ => none }
def cmdGetsRow : OpenClaim := { program := "ytikiegglebgmpaa", sum := "4283ea1843761fbb4b4a6795ba96871fed18569e37ea9f2d17aa2f0512129c74", func := "falsework/falseworklaw13.CmdGets", spec := "cmdGets", inPlace := ["math.Float64frombits"], unfollowed := true, recurses := true, apart := false }
def CmdGetsSaid : Prop := cmdGetsRow.holds Try.pinned (OpenSpec.ofChange cmdGetsSpec)

/-- ITS FALSE NEIGHBOUR: 'it returns false'. Refute it at one input. -/
def cmdGetsWrong : ChangeSpec := { name := "cmdGets", fn := fun _ => fun
  | [d] => { results := [.lit (.bool false)], args := [d] }
  | _ => none }
def CmdGetsWrongFalsely : Prop := cmdGetsRow.holds Try.pinned (OpenSpec.ofChange cmdGetsWrong)

/-- 'falseworklaw13.CmdBack': WHATEVER THE INPUT: true; the input reads as it did. -/
def cmdBackSpec : ChangeSpec := { name := "cmdBack", fn := fun _ => fun
  | [d] => { results := [.lit (.bool true)], args := [d] }
  | _ => none }
def cmdBackRow : OpenClaim := { program := "ytikiegglebgmpaa", sum := "4283ea1843761fbb4b4a6795ba96871fed18569e37ea9f2d17aa2f0512129c74", func := "falsework/falseworklaw13.CmdBack", spec := "cmdBack", inPlace := ["math.Float64frombits"], unfollowed := true, recurses := true, apart := false }
def CmdBackSaid : Prop := cmdBackRow.holds Try.pinned (OpenSpec.ofChange cmdBackSpec)

/-- ITS FALSE NEIGHBOUR: 'it returns false'. Refute it at one input. -/
def cmdBackWrong : ChangeSpec := { name := "cmdBack", fn := fun _ => fun
  | [d] => { results := [.lit (.bool false)], args := [d] }
  | _ => none }
def CmdBackWrongFalsely : Prop := cmdBackRow.holds Try.pinned (OpenSpec.ofChange cmdBackWrong)

/-- 'falseworklaw13.CmdTurned': WHATEVER THE INPUT: true; the input reads as it did. -/
def cmdTurnedSpec : ChangeSpec := { name := "cmdTurned", fn := fun _ => fun
  | [d1, d2, d3] => { results := [.lit (.bool true)], args := [d1, d2, d3] }
  | _ => none }
def cmdTurnedRow : OpenClaim := { program := "ytikiegglebgmpaa", sum := "4283ea1843761fbb4b4a6795ba96871fed18569e37ea9f2d17aa2f0512129c74", func := "falsework/falseworklaw13.CmdTurned", spec := "cmdTurned", inPlace := ["math.Float64frombits"], unfollowed := true, recurses := true, apart := false }
def CmdTurnedSaid : Prop := cmdTurnedRow.holds Try.pinned (OpenSpec.ofChange cmdTurnedSpec)

/-- ITS FALSE NEIGHBOUR: 'it returns false'. Refute it at one input. -/
def cmdTurnedWrong : ChangeSpec := { name := "cmdTurned", fn := fun _ => fun
  | [d1, d2, d3] => { results := [.lit (.bool false)], args := [d1, d2, d3] }
  | _ => none }
def CmdTurnedWrongFalsely : Prop := cmdTurnedRow.holds Try.pinned (OpenSpec.ofChange cmdTurnedWrong)

/- THE SECOND FORM. 'bulk': how many values and letters a reading holds, each counted each time it is reached (what is shared counts as often as it is met; a slice's spare places count too). A statement '..UptoSaid' is the law's where the arguments, and the package variables that the reading takes, are together of bulk at most 1048576: NARROWER than '..Said'. Prove '..Said' where nothing that the law and all that it calls make is longer than what came in: it says more and counts as full. Else prove '..UptoSaid'. A law counts once. -/
mutual
def uptoBulk {H : Type} : DataW H → Nat
  | .lit (.string bytes) => bytes.length + 1
  | .lit _ => 1
  | .nil => 1
  | .ptr d => uptoBulk d + 1
  | .slice elems spare => uptoBulkAll elems + uptoBulkAll spare + 1
  | .agg parts => uptoBulkAll parts + 1
  | .iface _ d => uptoBulk d + 1
  | .map entries => uptoBulkEntries entries + 1
  | .held _ => 1
def uptoBulkAll {H : Type} : List (DataW H) → Nat
  | [] => 0
  | d :: r => uptoBulk d + uptoBulkAll r
def uptoBulkEntries {H : Type} : List (Lit × DataW H) → Nat
  | [] => 0
  | x :: r => uptoBulkEntry x + uptoBulkEntries r
def uptoBulkEntry {H : Type} : Lit × DataW H → Nat
  | (.string bytes, d) => bytes.length + uptoBulk d + 1
  | (_, d) => uptoBulk d + 1
 end
def uptoSmall : (H : Type) → List (DataW H) → Bool := fun _ ds => decide (uptoBulkAll ds ≤ 1048576)
def OpenSpec.upto (s : _root_.Go.ChangeSpec) : _root_.Go.OpenSpec := { _root_.Go.OpenSpec.ofChange s with cond := some uptoSmall }

/-- 'falseworklaw13.CmdMays', WHERE WHAT IT READS IS OF BULK AT MOST 1048576: true; the input reads as it did. -/
def cmdMaysUptoRow : OpenClaim := { program := "ytikiegglebgmpaa", sum := "4283ea1843761fbb4b4a6795ba96871fed18569e37ea9f2d17aa2f0512129c74", func := "falsework/falseworklaw13.CmdMays", spec := "cmdMays", inPlace := ["math.Float64frombits"], apart := false, narrowed := true }
def CmdMaysUptoSaid : Prop := cmdMaysUptoRow.holds Try.pinned (OpenSpec.upto cmdMaysSpec)

/-- 'falseworklaw13.CmdPuts', WHERE WHAT IT READS IS OF BULK AT MOST 1048576: true; the input reads as it did. -/
def cmdPutsUptoRow : OpenClaim := { program := "ytikiegglebgmpaa", sum := "4283ea1843761fbb4b4a6795ba96871fed18569e37ea9f2d17aa2f0512129c74", func := "falsework/falseworklaw13.CmdPuts", spec := "cmdPuts", inPlace := ["math.Float64frombits"], apart := false, narrowed := true }
def CmdPutsUptoSaid : Prop := cmdPutsUptoRow.holds Try.pinned (OpenSpec.upto cmdPutsSpec)

/-- 'falseworklaw13.CmdGets', WHERE WHAT IT READS IS OF BULK AT MOST 1048576: true; the input reads as it did. -/
def cmdGetsUptoRow : OpenClaim := { program := "ytikiegglebgmpaa", sum := "4283ea1843761fbb4b4a6795ba96871fed18569e37ea9f2d17aa2f0512129c74", func := "falsework/falseworklaw13.CmdGets", spec := "cmdGets", inPlace := ["math.Float64frombits"], unfollowed := true, recurses := true, apart := false, narrowed := true }
def CmdGetsUptoSaid : Prop := cmdGetsUptoRow.holds Try.pinned (OpenSpec.upto cmdGetsSpec)

/-- 'falseworklaw13.CmdBack', WHERE WHAT IT READS IS OF BULK AT MOST 1048576: true; the input reads as it did. -/
def cmdBackUptoRow : OpenClaim := { program := "ytikiegglebgmpaa", sum := "4283ea1843761fbb4b4a6795ba96871fed18569e37ea9f2d17aa2f0512129c74", func := "falsework/falseworklaw13.CmdBack", spec := "cmdBack", inPlace := ["math.Float64frombits"], unfollowed := true, recurses := true, apart := false, narrowed := true }
def CmdBackUptoSaid : Prop := cmdBackUptoRow.holds Try.pinned (OpenSpec.upto cmdBackSpec)

/-- 'falseworklaw13.CmdTurned', WHERE WHAT IT READS IS OF BULK AT MOST 1048576: true; the input reads as it did. -/
def cmdTurnedUptoRow : OpenClaim := { program := "ytikiegglebgmpaa", sum := "4283ea1843761fbb4b4a6795ba96871fed18569e37ea9f2d17aa2f0512129c74", func := "falsework/falseworklaw13.CmdTurned", spec := "cmdTurned", inPlace := ["math.Float64frombits"], unfollowed := true, recurses := true, apart := false, narrowed := true }
def CmdTurnedUptoSaid : Prop := cmdTurnedUptoRow.holds Try.pinned (OpenSpec.upto cmdTurnedSpec)

end Rows
end Go.Proofs.Ytikiegglebgmpaa
