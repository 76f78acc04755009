/- The functions that this seat's laws reach, each as a plain Lean function, and the walk of each; written by a program over the kit's print. No conditions but those that stand in the theorems. -/
import Derived.Test.YtijpcemcijaeeaaProg
import Derived.Below
import Derived.Deep.Draws
import Derived.Deep.AppendLies
import Derived.Maps.AppendAt
import Derived.OwnWalk
import Derived.Laws.BytesArg
import Derived.Laws.MakeOwn
import Derived.Laws.OwnMore
import Derived.Deep.OwnRows
import Derived.Tactics
import Derived.Lib.ConvBytes
import Derived.Laws.Slices
import Derived.WalkKit
import Derived.KernelRfl
import Derived.RowKit3
import Derived.Deep.LoopGhost
import Derived.Deep.QuietTactic
import Derived.BigQuiet
import Derived.WideLaws
import Derived.Deep.DeepCutAuto
import Derived.Deep.CutBlock
import Derived.Deep.RegionHeld3
import Derived.Laws.Rows
import Derived.Lib.AppendStr
import Derived.ArgAppend
import Derived.Laws.IdiomCopy
import Derived.OrdersHeld
import Derived.Laws.BitsLemmas
import Derived.RowKit
import Derived.Test.YtijpcemcijaeeaaWWords
import Derived.Test.YtijpcemcijaeeaaWLast
import Derived.Test.YtijpcemcijaeeaaWTab
import Derived.Test.YtijpcemcijaeeaaWFour
import Derived.Test.YtijpcemcijaeeaaWQPut
import Derived.Test.YtijpcemcijaeeaaWApart
import Derived.Test.YtijpcemcijaeeaaWArr
import Derived.Test.YtijpcemcijaeeaaWZeros
import Derived.Test.YtijpcemcijaeeaaWFoot
import Derived.Test.YtijpcemcijaeeaaWKept
import Derived.Test.YtijpcemcijaeeaaWShare
import Derived.Test.YtijpcemcijaeeaaWN
import Derived.Test.YtijpcemcijaeeaaWFootNe
import Derived.Test.YtijpcemcijaeeaaWAt
import Derived.Test.YtijpcemcijaeeaaWEqStruct
import Derived.Test.YtijpcemcijaeeaaWRepsOne
import Derived.Test.YtijpcemcijaeeaaWInv
import Derived.Test.YtijpcemcijaeeaaWInvWords
import Derived.Test.YtijpcemcijaeeaaWGuard
import Derived.Test.YtijpcemcijaeeaaWNEv
import Derived.Test.YtijpcemcijaeeaaWMore
import Derived.Test.YtijpcemcijaeeaaMake0
namespace Go.Proofs.Ytijpcemcijaeeaa.P
open Go.RowKit Go.Proofs.YtijpcemcijaeeaaW.PrintWords Go.Proofs.YtijpcemcijaeeaaW.PrintLast Go.Proofs.YtijpcemcijaeeaaW.PrintMore
attribute [local go_sem] max2_int min2_int max_two min_two max_three min_three max_four min_four   -- for this text's walks alone
set_option linter.unusedVariables false
set_option linter.unusedSimpArgs false



def errW : Option Int → Value
  | none => .nilIface
  | some c => .iface 0 (.int .i64 c)
theorem errW_none : errW none = .nilIface := rfl
theorem errW_some (c : Int) : errW (some c) = .iface 0 (.int .i64 c) := rfl

theorem info3 : (Try.prog.info? 3).map (fun i => (i.zero, i.size, i.bytes)) = some (some (.int .i64 0), 1, 8) := by kernel_rfl
theorem info5 : (Try.prog.info? 5).map (fun i => (i.zero, i.size, i.bytes)) = some (some (.int .u8 0), 1, 1) := by kernel_rfl
theorem info43 : (Try.prog.info? 43).map (fun i => (i.zero, i.size, i.bytes)) = some (some (.slice none 0 0), 1, 24) := by kernel_rfl
-- the values' own types
def rd_L2 (xs : List (List Int)) (i : Int) : (List Int) := xs.getD i.toNat ([] : List Int)
theorem at_L2 {w : World} {A : Option Addr} {n : Nat} {xs : List (List Int)} (h : Kd.C (Kd.slice 3 (Kd.int .i64)) w A n xs) (i : Int) (h0 : 0 ≤ i) (h1 : i < n) : ∃ ad A0 c0, A = some ad ∧ w.cell? (ad.add i.toNat) = some (.slice A0 (rd_L2 xs i).length c0) ∧ (rd_L2 xs i).length ≤ c0 ∧ (Kd.int .i64).C w A0 (rd_L2 xs i).length (rd_L2 xs i) := by
  obtain ⟨ad, c, e, _, hK, hc0⟩ := Kd.C_get h ([] : List Int) i h0 h1
  have hc : ∀ j u, c[j]? = some u → w.cell? (ad.add (i.toNat * 1 + j)) = some u := hc0
  obtain ⟨A0, c0, rfl, l0, g0⟩ := hK
  exact ⟨ad, A0, c0, e, by have hq := hc 0 _ rfl; rwa [Nat.mul_one, Nat.add_zero] at hq, l0, g0⟩

theorem fld23_0 (x y : Int) (W : World) : Sem.run Try.prog (Instr.field 23 (.agg #[.int .i64 x, .int .i64 y]) 0) W = .ok (.int .i64 x) W := by kernel_rfl
theorem fld23_1 (x y : Int) (W : World) : Sem.run Try.prog (Instr.field 23 (.agg #[.int .i64 x, .int .i64 y]) 1) W = .ok (.int .i64 y) W := by kernel_rfl
end Go.Proofs.Ytijpcemcijaeeaa.P
