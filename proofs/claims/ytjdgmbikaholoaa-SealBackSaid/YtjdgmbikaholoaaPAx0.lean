/- Contracts of the Go functions of this seat: what each call returns is what a Lean function of its arguments says; each theorem bears its own conditions. Written by a program of this session (wip/tools/mkprint.py). -/
import Derived.Test.YtjdgmbikaholoaaProg
import Derived.Below
import Derived.Deep.Draws
import Derived.Deep.AppendLies
import Derived.Maps.AppendAt
import Derived.OwnWalk
import Derived.Laws.BytesArg
import Derived.Laws.MakeOwn
import Derived.Laws.OwnMore
import Derived.Deep.OwnRows
import Derived.Tactics
import Derived.Lib.ConvBytes
import Derived.Laws.Slices
import Derived.WalkKit
import Derived.KernelRfl
import Derived.RowKit3
import Derived.Deep.LoopGhost
import Derived.Deep.QuietTactic
import Derived.BigQuiet
import Derived.WideLaws
import Derived.Deep.DeepCutAuto
import Derived.Deep.CutBlock
import Derived.Deep.RegionHeld3
import Derived.Laws.Rows
import Derived.Lib.AppendStr
import Derived.ArgAppend
import Derived.Laws.IdiomCopy
import Derived.OrdersHeld
import Derived.Laws.BitsLemmas
import Derived.RowKit
import Derived.WalkLawsBesides
import Derived.Laws.Externs
import Derived.Test.YtjdgmbikaholoaaWWords
import Derived.Test.YtjdgmbikaholoaaWLast
import Derived.Test.YtjdgmbikaholoaaWTab
import Derived.Test.YtjdgmbikaholoaaWFour
import Derived.Test.YtjdgmbikaholoaaWQPut
import Derived.Test.YtjdgmbikaholoaaWApart
import Derived.Test.YtjdgmbikaholoaaWArr
import Derived.Test.YtjdgmbikaholoaaWZeros
import Derived.Test.YtjdgmbikaholoaaWFoot
import Derived.Test.YtjdgmbikaholoaaWKept
import Derived.Test.YtjdgmbikaholoaaWShare
import Derived.Test.YtjdgmbikaholoaaWN
import Derived.Test.YtjdgmbikaholoaaWFootNe
import Derived.Test.YtjdgmbikaholoaaWAt
import Derived.Test.YtjdgmbikaholoaaWEqStruct
import Derived.Test.YtjdgmbikaholoaaWRepsOne
import Derived.Test.YtjdgmbikaholoaaWInv
import Derived.Test.YtjdgmbikaholoaaWInvWords
import Derived.Test.YtjdgmbikaholoaaWGuard
import Derived.Test.YtjdgmbikaholoaaWNEv
import Derived.Test.YtjdgmbikaholoaaWMore
namespace Go.Proofs.Ytjdgmbikaholoaa.PA
open Go.RowKit Go.Proofs.YtjdgmbikaholoaaW.PrintWords Go.Proofs.YtjdgmbikaholoaaW.PrintLast Go.Proofs.YtjdgmbikaholoaaW.PrintMore
attribute [local go_sem] max2_int min2_int max_two min_two max_three min_three max_four min_four   -- for this text's walks alone
set_option linter.unusedVariables false
set_option linter.unusedSimpArgs false



def errW : Option Int → Value
  | none => .nilIface
  | some c => .iface 0 (.int .i64 c)
theorem errW_none : errW none = .nilIface := rfl
theorem errW_some (c : Int) : errW (some c) = .iface 0 (.int .i64 c) := rfl

theorem unary_xor_u64 (n : Int) : Op.unary .xor (.int .u64 n) = Op.intBits .xor .u64 18446744073709551615 n := rfl
theorem unary_xor_u32 (n : Int) : Op.unary .xor (.int .u32 n) = Op.intBits .xor .u32 4294967295 n := rfl
theorem unary_xor_u8 (n : Int) : Op.unary .xor (.int .u8 n) = Op.intBits .xor .u8 255 n := rfl
theorem info5 : (Try.prog.info? 5).map (fun i => (i.zero, i.size, i.bytes)) = some (some (.int .u8 0), 1, 1) := by kernel_rfl
-- the values' own types

end Go.Proofs.Ytjdgmbikaholoaa.PA
