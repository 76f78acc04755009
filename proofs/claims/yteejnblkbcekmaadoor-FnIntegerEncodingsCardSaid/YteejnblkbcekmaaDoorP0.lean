/- The functions that this seat's laws reach, each as a plain Lean function, and the walk of each; written by a program over the kit's print. No conditions but those that stand in the theorems. -/
import Derived.Test.YteejnblkbcekmaaDoorProg
import Derived.Below
import Derived.Deep.Draws
import Derived.Deep.AppendLies
import Derived.Maps.AppendAt
import Derived.OwnWalk
import Derived.Laws.BytesArg
import Derived.Laws.MakeOwn
import Derived.Laws.OwnMore
import Derived.Deep.OwnRows
import Derived.Tactics
import Derived.Lib.ConvBytes
import Derived.Laws.Slices
import Derived.WalkKit
import Derived.KernelRfl
import Derived.RowKit3
import Derived.Deep.LoopGhost
import Derived.Deep.QuietTactic
import Derived.BigQuiet
import Derived.WideLaws
import Derived.Deep.DeepCutAuto
import Derived.Deep.CutBlock
import Derived.Deep.RegionHeld3
import Derived.Laws.Rows
import Derived.Lib.AppendStr
import Derived.ArgAppend
import Derived.Laws.IdiomCopy
import Derived.OrdersHeld
import Derived.Laws.BitsLemmas
import Derived.RowKit
import Derived.Test.YteejnblkbcekmaaDoorWWords
import Derived.Test.YteejnblkbcekmaaDoorWLast
import Derived.Test.YteejnblkbcekmaaDoorWTab
import Derived.Test.YteejnblkbcekmaaDoorWFour
import Derived.Test.YteejnblkbcekmaaDoorWQPut
import Derived.Test.YteejnblkbcekmaaDoorWApart
import Derived.Test.YteejnblkbcekmaaDoorWArr
import Derived.Test.YteejnblkbcekmaaDoorWZeros
import Derived.Test.YteejnblkbcekmaaDoorWFoot
import Derived.Test.YteejnblkbcekmaaDoorWKept
import Derived.Test.YteejnblkbcekmaaDoorWShare
import Derived.Test.YteejnblkbcekmaaDoorWN
import Derived.Test.YteejnblkbcekmaaDoorWFootNe
import Derived.Test.YteejnblkbcekmaaDoorWAt
import Derived.Test.YteejnblkbcekmaaDoorWEqStruct
import Derived.Test.YteejnblkbcekmaaDoorWRepsOne
import Derived.Test.YteejnblkbcekmaaDoorWInv
import Derived.Test.YteejnblkbcekmaaDoorWInvWords
import Derived.Test.YteejnblkbcekmaaDoorWGuard
import Derived.Test.YteejnblkbcekmaaDoorWNEv
import Derived.Test.YteejnblkbcekmaaDoorWMore
import Derived.Test.YteejnblkbcekmaaDoorMake0
namespace Go.Proofs.YteejnblkbcekmaaDoor.P
open Go.RowKit Go.Proofs.YteejnblkbcekmaaDoorW.PrintWords Go.Proofs.YteejnblkbcekmaaDoorW.PrintLast Go.Proofs.YteejnblkbcekmaaDoorW.PrintMore
attribute [local go_sem] max2_int min2_int max_two min_two max_three min_three max_four min_four   -- for this text's walks alone
set_option linter.unusedVariables false
set_option linter.unusedSimpArgs false



def errW : Option Int → Value
  | none => .nilIface
  | some c => .iface 59 (.int .i64 c)
theorem errW_none : errW none = .nilIface := rfl
theorem errW_some (c : Int) : errW (some c) = .iface 59 (.int .i64 c) := rfl

theorem info3 : (Tryd.prog.info? 3).map (fun i => (i.zero, i.size, i.bytes)) = some (some (.int .i64 0), 1, 8) := by kernel_rfl
theorem info5 : (Tryd.prog.info? 5).map (fun i => (i.zero, i.size, i.bytes)) = some (some (.int .u8 0), 1, 1) := by kernel_rfl
-- the values' own types

end Go.Proofs.YteejnblkbcekmaaDoor.P
