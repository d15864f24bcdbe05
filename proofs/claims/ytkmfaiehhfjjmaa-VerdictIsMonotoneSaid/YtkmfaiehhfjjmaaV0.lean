/- The machine side of the functions that this claim reaches: each Go function as a plain Lean function with its proof, written by a program of this session over the kit's printer, with contracts proved by hand. -/
import Derived.Test.YtkmfaiehhfjjmaaProg
import Derived.Below
import Derived.Deep.Draws
import Derived.Deep.AppendLies
import Derived.Maps.AppendAt
import Derived.OwnWalk
import Derived.Laws.BytesArg
import Derived.Laws.MakeOwn
import Derived.Laws.OwnMore
import Derived.Deep.OwnRows
import Derived.Tactics
import Derived.Lib.ConvBytes
import Derived.Laws.Slices
import Derived.WalkKit
import Derived.KernelRfl
import Derived.RowKit3
import Derived.Deep.LoopGhost
import Derived.Deep.QuietTactic
import Derived.BigQuiet
import Derived.WideLaws
import Derived.Deep.DeepCutAuto
import Derived.Deep.CutBlock
import Derived.Deep.RegionHeld3
import Derived.Laws.Rows
import Derived.Lib.AppendStr
import Derived.ArgAppend
import Derived.Laws.IdiomCopy
import Derived.OrdersHeld
import Derived.Laws.BitsLemmas
import Derived.RowKit
import Derived.Test.YtkmfaiehhfjjmaaWWords
import Derived.Test.YtkmfaiehhfjjmaaWLast
import Derived.Test.YtkmfaiehhfjjmaaWTab
import Derived.Test.YtkmfaiehhfjjmaaWFour
import Derived.Test.YtkmfaiehhfjjmaaWQPut
import Derived.Test.YtkmfaiehhfjjmaaWApart
import Derived.Test.YtkmfaiehhfjjmaaWArr
import Derived.Test.YtkmfaiehhfjjmaaWZeros
import Derived.Test.YtkmfaiehhfjjmaaWFoot
import Derived.Test.YtkmfaiehhfjjmaaWKept
import Derived.Test.YtkmfaiehhfjjmaaWShare
import Derived.Test.YtkmfaiehhfjjmaaWN
import Derived.Test.YtkmfaiehhfjjmaaWFootNe
import Derived.Test.YtkmfaiehhfjjmaaWAt
import Derived.Test.YtkmfaiehhfjjmaaWEqStruct
import Derived.Test.YtkmfaiehhfjjmaaWRepsOne
import Derived.Test.YtkmfaiehhfjjmaaWInv
import Derived.Test.YtkmfaiehhfjjmaaWInvWords
import Derived.Test.YtkmfaiehhfjjmaaWGuard
import Derived.Test.YtkmfaiehhfjjmaaWNEv
import Derived.Test.YtkmfaiehhfjjmaaWMore
import Derived.Test.YtkmfaiehhfjjmaaWSized
namespace Go.Proofs.Ytkmfaiehhfjjmaa.V
open Go.RowKit Go.Proofs.YtkmfaiehhfjjmaaW.PrintWords Go.Proofs.YtkmfaiehhfjjmaaW.PrintLast Go.Proofs.YtkmfaiehhfjjmaaW.PrintMore
attribute [local go_sem] max2_int min2_int max_two min_two max_three min_three max_four min_four   -- for this text's walks alone
set_option linter.unusedVariables false
set_option linter.unusedSimpArgs false



def errW : Option Int → Value
  | none => .nilIface
  | some c => .iface 0 (.int .i64 c)
theorem errW_none : errW none = .nilIface := rfl
theorem errW_some (c : Int) : errW (some c) = .iface 0 (.int .i64 c) := rfl

theorem info3 : (Try.prog.info? 3).map (fun i => (i.zero, i.size, i.bytes)) = some (some (.int .i64 0), 1, 8) := by kernel_rfl
-- the values' own types

end Go.Proofs.Ytkmfaiehhfjjmaa.V
