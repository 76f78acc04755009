/- The functions that this seat's laws reach, each as a plain Lean function, and the walk of each; written by a program over the kit's print. No conditions but those that stand in the theorems. -/
import Derived.Test.YtekdidlaeljdjaaProg
import Derived.Below
import Derived.Deep.Draws
import Derived.Deep.AppendLies
import Derived.Maps.AppendAt
import Derived.OwnWalk
import Derived.Laws.BytesArg
import Derived.Laws.MakeOwn
import Derived.Laws.OwnMore
import Derived.Deep.OwnRows
import Derived.Tactics
import Derived.Lib.ConvBytes
import Derived.Laws.Slices
import Derived.WalkKit
import Derived.KernelRfl
import Derived.RowKit3
import Derived.Deep.LoopGhost
import Derived.Deep.QuietTactic
import Derived.BigQuiet
import Derived.WideLaws
import Derived.Deep.DeepCutAuto
import Derived.Deep.CutBlock
import Derived.Deep.RegionHeld3
import Derived.Laws.Rows
import Derived.Lib.AppendStr
import Derived.ArgAppend
import Derived.Laws.IdiomCopy
import Derived.OrdersHeld
import Derived.Laws.BitsLemmas
import Derived.RowKit
import Derived.Test.YtekdidlaeljdjaaWWords
import Derived.Test.YtekdidlaeljdjaaWLast
import Derived.Test.YtekdidlaeljdjaaWTab
import Derived.Test.YtekdidlaeljdjaaWFour
import Derived.Test.YtekdidlaeljdjaaWQPut
import Derived.Test.YtekdidlaeljdjaaWApart
import Derived.Test.YtekdidlaeljdjaaWArr
import Derived.Test.YtekdidlaeljdjaaWZeros
import Derived.Test.YtekdidlaeljdjaaWFoot
import Derived.Test.YtekdidlaeljdjaaWKept
import Derived.Test.YtekdidlaeljdjaaWShare
import Derived.Test.YtekdidlaeljdjaaWN
import Derived.Test.YtekdidlaeljdjaaWFootNe
import Derived.Test.YtekdidlaeljdjaaWAt
import Derived.Test.YtekdidlaeljdjaaWEqStruct
import Derived.Test.YtekdidlaeljdjaaWRepsOne
import Derived.Test.YtekdidlaeljdjaaWInv
import Derived.Test.YtekdidlaeljdjaaWInvWords
import Derived.Test.YtekdidlaeljdjaaWGuard
import Derived.Test.YtekdidlaeljdjaaWNEv
import Derived.Test.YtekdidlaeljdjaaWMore
import Derived.Test.YtekdidlaeljdjaaMake0
namespace Go.Proofs.Ytekdidlaeljdjaa.P
open Go.RowKit Go.Proofs.YtekdidlaeljdjaaW.PrintWords Go.Proofs.YtekdidlaeljdjaaW.PrintLast Go.Proofs.YtekdidlaeljdjaaW.PrintMore
attribute [local go_sem] max2_int min2_int max_two min_two max_three min_three max_four min_four   -- for this text's walks alone
set_option linter.unusedVariables false
set_option linter.unusedSimpArgs false



def errW : Option Int → Value
  | none => .nilIface
  | some c => .iface 0 (.int .i64 c)
theorem errW_none : errW none = .nilIface := rfl
theorem errW_some (c : Int) : errW (some c) = .iface 0 (.int .i64 c) := rfl

-- the values' own types

theorem fld25_0 (x y : Int) (W : World) : Sem.run Try.prog (Instr.field 25 (.agg #[.int .i64 x, .int .i64 y]) 0) W = .ok (.int .i64 x) W := by kernel_rfl
theorem fld25_1 (x y : Int) (W : World) : Sem.run Try.prog (Instr.field 25 (.agg #[.int .i64 x, .int .i64 y]) 1) W = .ok (.int .i64 y) W := by kernel_rfl
end Go.Proofs.Ytekdidlaeljdjaa.P
