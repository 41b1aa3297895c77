/-
  No cell of these rows narrows 'for every input' (looked for: loops, veiled, ifaces, maps, wideKeys, modest, calm, conditions, laid).
  DERIVED. THE GIVEN ROWS OF THIS SEAT. 5 by the template 'for every input the law returns true; each argument reads behind the call as it read before'; 0 by the template 'total and deterministic' (their statements: YtcjnmnelhpjhfaaTotals.lean).
  GIVEN WITH THE SEED: the statements are not yours to turn. If you find one false, say at which input.
  Laid BY PROGRAM, IN A SANDBOX (cutbox-rows.mjs): the forced cells as the released guide's own fill.sh prints them over the translation 97ab7cad0c159d1b… (all of the seat's roots in one cut). By AI agents, Wed Nov 11 2026. No macro, syntax, notation, axiom, sorry.
-/
import Derived.Test.YtcjnmnelhpjhfaaChecked
import GoSem.Claim
import GoSem.ClaimJoined
import GoSem.ClaimMapViews
import Derived.JoinedTies
import Derived.KernelRfl
namespace Go.Proofs.Ytcjnmnelhpjhfaa
/- THE CELL 'sum', in the pinned program and in every row, IS THE sha256 OF THE DUMP (.gsa) THAT YtcjnmnelhpjhfaaProg.lean LOADS. Nothing in Lean hashes anything: it is a label: what it is worth is what the hold of that sum in a sandbox is worth. -/
noncomputable def Try.pinned : Pinned := { name := "ytcjnmnelhpjhfaa", sum := "97ab7cad0c159d1b42e6a67ab62ff73fa37aae9a9f11871e220510a0b1ab718e", checked := Try.checked }
namespace Rows
def none {H : Type} : Left H := { results := [], args := [] }

/-- 'falseworklaw18.PredChecks': WHATEVER THE INPUT: true; the input reads as it did. -/
def predChecksSpec : ChangeSpec := { name := "predChecks", fn := fun _ => fun
  | [d1, d2] => { results := [.lit (.bool true)], args := [d1, d2] }
  | _ => none }
def predChecksRow : OpenClaim := { program := "ytcjnmnelhpjhfaa", sum := "97ab7cad0c159d1b42e6a67ab62ff73fa37aae9a9f11871e220510a0b1ab718e", func := "falsework/falseworklaw18.PredChecks", spec := "predChecks", inPlace := ["math.Float64frombits"], unfollowed := true, recurses := true, apart := false }
def PredChecksSaid : Prop := predChecksRow.holds Try.pinned (OpenSpec.ofChange predChecksSpec)

/-- ITS FALSE NEIGHBOUR: 'it returns false'. Refute it at one input. -/
def predChecksWrong : ChangeSpec := { name := "predChecks", fn := fun _ => fun
  | [d1, d2] => { results := [.lit (.bool false)], args := [d1, d2] }
  | _ => none }
def PredChecksWrongFalsely : Prop := predChecksRow.holds Try.pinned (OpenSpec.ofChange predChecksWrong)

/-- 'falseworklaw18.PredTests': WHATEVER THE INPUT: true; the input reads as it did. -/
def predTestsSpec : ChangeSpec := { name := "predTests", fn := fun _ => fun
  | [d1, d2, d3] => { results := [.lit (.bool true)], args := [d1, d2, d3] }
  | _ => none }
def predTestsRow : OpenClaim := { program := "ytcjnmnelhpjhfaa", sum := "97ab7cad0c159d1b42e6a67ab62ff73fa37aae9a9f11871e220510a0b1ab718e", func := "falsework/falseworklaw18.PredTests", spec := "predTests", inPlace := ["math.Float64frombits"], unfollowed := true, recurses := true, apart := false }
def PredTestsSaid : Prop := predTestsRow.holds Try.pinned (OpenSpec.ofChange predTestsSpec)

/-- ITS FALSE NEIGHBOUR: 'it returns false'. Refute it at one input. -/
def predTestsWrong : ChangeSpec := { name := "predTests", fn := fun _ => fun
  | [d1, d2, d3] => { results := [.lit (.bool false)], args := [d1, d2, d3] }
  | _ => none }
def PredTestsWrongFalsely : Prop := predTestsRow.holds Try.pinned (OpenSpec.ofChange predTestsWrong)

/-- 'falseworklaw18.PredAnds': WHATEVER THE INPUT: true; the input reads as it did. -/
def predAndsSpec : ChangeSpec := { name := "predAnds", fn := fun _ => fun
  | [d1, d2, d3, d4] => { results := [.lit (.bool true)], args := [d1, d2, d3, d4] }
  | _ => none }
def predAndsRow : OpenClaim := { program := "ytcjnmnelhpjhfaa", sum := "97ab7cad0c159d1b42e6a67ab62ff73fa37aae9a9f11871e220510a0b1ab718e", func := "falsework/falseworklaw18.PredAnds", spec := "predAnds", inPlace := ["math.Float64frombits"], unfollowed := true, recurses := true, apart := false }
def PredAndsSaid : Prop := predAndsRow.holds Try.pinned (OpenSpec.ofChange predAndsSpec)

/-- ITS FALSE NEIGHBOUR: 'it returns false'. Refute it at one input. -/
def predAndsWrong : ChangeSpec := { name := "predAnds", fn := fun _ => fun
  | [d1, d2, d3, d4] => { results := [.lit (.bool false)], args := [d1, d2, d3, d4] }
  | _ => none }
def PredAndsWrongFalsely : Prop := predAndsRow.holds Try.pinned (OpenSpec.ofChange predAndsWrong)

/-- 'falseworklaw18.PredThree': WHATEVER THE INPUT: true; the input reads as it did. -/
def predThreeSpec : ChangeSpec := { name := "predThree", fn := fun _ => fun
  | [d1, d2, d3] => { results := [.lit (.bool true)], args := [d1, d2, d3] }
  | _ => none }
def predThreeRow : OpenClaim := { program := "ytcjnmnelhpjhfaa", sum := "97ab7cad0c159d1b42e6a67ab62ff73fa37aae9a9f11871e220510a0b1ab718e", func := "falsework/falseworklaw18.PredThree", spec := "predThree", inPlace := ["math.Float64frombits"], unfollowed := true, recurses := true, apart := false }
def PredThreeSaid : Prop := predThreeRow.holds Try.pinned (OpenSpec.ofChange predThreeSpec)

/-- ITS FALSE NEIGHBOUR: 'it returns false'. Refute it at one input. -/
def predThreeWrong : ChangeSpec := { name := "predThree", fn := fun _ => fun
  | [d1, d2, d3] => { results := [.lit (.bool false)], args := [d1, d2, d3] }
  | _ => none }
def PredThreeWrongFalsely : Prop := predThreeRow.holds Try.pinned (OpenSpec.ofChange predThreeWrong)

/-- 'falseworklaw18.PredFloats': WHATEVER THE INPUT: true; the input reads as it did. -/
def predFloatsSpec : ChangeSpec := { name := "predFloats", fn := fun _ => fun
  | [d1, d2] => { results := [.lit (.bool true)], args := [d1, d2] }
  | _ => none }
def predFloatsRow : OpenClaim := { program := "ytcjnmnelhpjhfaa", sum := "97ab7cad0c159d1b42e6a67ab62ff73fa37aae9a9f11871e220510a0b1ab718e", func := "falsework/falseworklaw18.PredFloats", spec := "predFloats", inPlace := ["math.Float64frombits"], unfollowed := true, recurses := true, apart := false }
def PredFloatsSaid : Prop := predFloatsRow.holds Try.pinned (OpenSpec.ofChange predFloatsSpec)

/-- ITS FALSE NEIGHBOUR: 'it returns false'. Refute it at one input. -/
def predFloatsWrong : ChangeSpec := { name := "predFloats", fn := fun _ => fun
  | [d1, d2] => { results := [.lit (.bool false)], args := [d1, d2] }
  | _ => none }
def PredFloatsWrongFalsely : Prop := predFloatsRow.holds Try.pinned (OpenSpec.ofChange predFloatsWrong)

/- THE SECOND FORM. 'bulk': how many values and letters a reading holds, each counted each time it is reached (what is shared counts as often as it is met; a slice's spare places count too). A statement '..UptoSaid' is the law's where the arguments, and the package variables that the reading takes, are together of bulk at most 1048576: NARROWER than '..Said'. Prove '..Said' where nothing that the law and all that it calls make is longer than what came in: it says more and counts as full. Else prove '..UptoSaid'. A law counts once. -/
mutual
def uptoBulk {H : Type} : DataW H → Nat
  | .lit (.string bytes) => bytes.length + 1
  | .lit _ => 1
  | .nil => 1
  | .ptr d => uptoBulk d + 1
  | .slice elems spare => uptoBulkAll elems + uptoBulkAll spare + 1
  | .agg parts => uptoBulkAll parts + 1
  | .iface _ d => uptoBulk d + 1
  | .map entries => uptoBulkEntries entries + 1
  | .held _ => 1
def uptoBulkAll {H : Type} : List (DataW H) → Nat
  | [] => 0
  | d :: r => uptoBulk d + uptoBulkAll r
def uptoBulkEntries {H : Type} : List (Lit × DataW H) → Nat
  | [] => 0
  | x :: r => uptoBulkEntry x + uptoBulkEntries r
def uptoBulkEntry {H : Type} : Lit × DataW H → Nat
  | (.string bytes, d) => bytes.length + uptoBulk d + 1
  | (_, d) => uptoBulk d + 1
 end
def uptoSmall : (H : Type) → List (DataW H) → Bool := fun _ ds => decide (uptoBulkAll ds ≤ 1048576)
def OpenSpec.upto (s : _root_.Go.ChangeSpec) : _root_.Go.OpenSpec := { _root_.Go.OpenSpec.ofChange s with cond := some uptoSmall }

/-- 'falseworklaw18.PredChecks', WHERE WHAT IT READS IS OF BULK AT MOST 1048576: true; the input reads as it did. -/
def predChecksUptoRow : OpenClaim := { program := "ytcjnmnelhpjhfaa", sum := "97ab7cad0c159d1b42e6a67ab62ff73fa37aae9a9f11871e220510a0b1ab718e", func := "falsework/falseworklaw18.PredChecks", spec := "predChecks", inPlace := ["math.Float64frombits"], unfollowed := true, recurses := true, apart := false, narrowed := true }
def PredChecksUptoSaid : Prop := predChecksUptoRow.holds Try.pinned (OpenSpec.upto predChecksSpec)

/-- 'falseworklaw18.PredTests', WHERE WHAT IT READS IS OF BULK AT MOST 1048576: true; the input reads as it did. -/
def predTestsUptoRow : OpenClaim := { program := "ytcjnmnelhpjhfaa", sum := "97ab7cad0c159d1b42e6a67ab62ff73fa37aae9a9f11871e220510a0b1ab718e", func := "falsework/falseworklaw18.PredTests", spec := "predTests", inPlace := ["math.Float64frombits"], unfollowed := true, recurses := true, apart := false, narrowed := true }
def PredTestsUptoSaid : Prop := predTestsUptoRow.holds Try.pinned (OpenSpec.upto predTestsSpec)

/-- 'falseworklaw18.PredAnds', WHERE WHAT IT READS IS OF BULK AT MOST 1048576: true; the input reads as it did. -/
def predAndsUptoRow : OpenClaim := { program := "ytcjnmnelhpjhfaa", sum := "97ab7cad0c159d1b42e6a67ab62ff73fa37aae9a9f11871e220510a0b1ab718e", func := "falsework/falseworklaw18.PredAnds", spec := "predAnds", inPlace := ["math.Float64frombits"], unfollowed := true, recurses := true, apart := false, narrowed := true }
def PredAndsUptoSaid : Prop := predAndsUptoRow.holds Try.pinned (OpenSpec.upto predAndsSpec)

/-- 'falseworklaw18.PredThree', WHERE WHAT IT READS IS OF BULK AT MOST 1048576: true; the input reads as it did. -/
def predThreeUptoRow : OpenClaim := { program := "ytcjnmnelhpjhfaa", sum := "97ab7cad0c159d1b42e6a67ab62ff73fa37aae9a9f11871e220510a0b1ab718e", func := "falsework/falseworklaw18.PredThree", spec := "predThree", inPlace := ["math.Float64frombits"], unfollowed := true, recurses := true, apart := false, narrowed := true }
def PredThreeUptoSaid : Prop := predThreeUptoRow.holds Try.pinned (OpenSpec.upto predThreeSpec)

/-- 'falseworklaw18.PredFloats', WHERE WHAT IT READS IS OF BULK AT MOST 1048576: true; the input reads as it did. -/
def predFloatsUptoRow : OpenClaim := { program := "ytcjnmnelhpjhfaa", sum := "97ab7cad0c159d1b42e6a67ab62ff73fa37aae9a9f11871e220510a0b1ab718e", func := "falsework/falseworklaw18.PredFloats", spec := "predFloats", inPlace := ["math.Float64frombits"], unfollowed := true, recurses := true, apart := false, narrowed := true }
def PredFloatsUptoSaid : Prop := predFloatsUptoRow.holds Try.pinned (OpenSpec.upto predFloatsSpec)

end Rows
end Go.Proofs.Ytcjnmnelhpjhfaa
