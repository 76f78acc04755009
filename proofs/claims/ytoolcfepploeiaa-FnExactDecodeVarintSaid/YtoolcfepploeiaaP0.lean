/- The functions that this seat's laws reach, each as a plain Lean function, and the walk of each; written by a program over the kit's print. No conditions but those that stand in the theorems. -/
import Derived.Test.YtoolcfepploeiaaProg
import Derived.Below
import Derived.Deep.Draws
import Derived.Deep.AppendLies
import Derived.Maps.AppendAt
import Derived.OwnWalk
import Derived.Laws.BytesArg
import Derived.Laws.MakeOwn
import Derived.Laws.OwnMore
import Derived.Deep.OwnRows
import Derived.Tactics
import Derived.Lib.ConvBytes
import Derived.Laws.Slices
import Derived.WalkKit
import Derived.KernelRfl
import Derived.RowKit3
import Derived.Deep.LoopGhost
import Derived.Deep.QuietTactic
import Derived.BigQuiet
import Derived.WideLaws
import Derived.Deep.DeepCutAuto
import Derived.Deep.CutBlock
import Derived.Deep.RegionHeld3
import Derived.Laws.Rows
import Derived.Lib.AppendStr
import Derived.ArgAppend
import Derived.Laws.IdiomCopy
import Derived.OrdersHeld
import Derived.Laws.BitsLemmas
import Derived.RowKit
import Derived.Test.YtoolcfepploeiaaWWords
import Derived.Test.YtoolcfepploeiaaWLast
import Derived.Test.YtoolcfepploeiaaWTab
import Derived.Test.YtoolcfepploeiaaWFour
import Derived.Test.YtoolcfepploeiaaWQPut
import Derived.Test.YtoolcfepploeiaaWApart
import Derived.Test.YtoolcfepploeiaaWArr
import Derived.Test.YtoolcfepploeiaaWZeros
import Derived.Test.YtoolcfepploeiaaWFoot
import Derived.Test.YtoolcfepploeiaaWKept
import Derived.Test.YtoolcfepploeiaaWShare
import Derived.Test.YtoolcfepploeiaaWN
import Derived.Test.YtoolcfepploeiaaWFootNe
import Derived.Test.YtoolcfepploeiaaWAt
import Derived.Test.YtoolcfepploeiaaWEqStruct
import Derived.Test.YtoolcfepploeiaaWRepsOne
import Derived.Test.YtoolcfepploeiaaWInv
import Derived.Test.YtoolcfepploeiaaWInvWords
import Derived.Test.YtoolcfepploeiaaWGuard
import Derived.Test.YtoolcfepploeiaaWNEv
import Derived.Test.YtoolcfepploeiaaWMore
import Derived.Test.YtoolcfepploeiaaMake0
namespace Go.Proofs.Ytoolcfepploeiaa.P
open Go.RowKit Go.Proofs.YtoolcfepploeiaaW.PrintWords Go.Proofs.YtoolcfepploeiaaW.PrintLast Go.Proofs.YtoolcfepploeiaaW.PrintMore
attribute [local go_sem] max2_int min2_int max_two min_two max_three min_three max_four min_four   -- for this text's walks alone
set_option linter.unusedVariables false
set_option linter.unusedSimpArgs false



def errW : Option Int → Value
  | none => .nilIface
  | some c => .iface 0 (.int .i64 c)
theorem errW_none : errW none = .nilIface := rfl
theorem errW_some (c : Int) : errW (some c) = .iface 0 (.int .i64 c) := rfl

theorem info5 : (Try.prog.info? 5).map (fun i => (i.zero, i.size, i.bytes)) = some (some (.int .u8 0), 1, 1) := by kernel_rfl
-- the values' own types

theorem fld26_0 (x y : Int) (W : World) : Sem.run Try.prog (Instr.field 26 (.agg #[.int .i64 x, .int .i64 y]) 0) W = .ok (.int .i64 x) W := by kernel_rfl
theorem fld26_1 (x y : Int) (W : World) : Sem.run Try.prog (Instr.field 26 (.agg #[.int .i64 x, .int .i64 y]) 1) W = .ok (.int .i64 y) W := by kernel_rfl
end Go.Proofs.Ytoolcfepploeiaa.P
