/- The functions that this seat's laws reach, each as a plain Lean function, and the walk of each; written by a program over the kit's print. No conditions but those that stand in the theorems. -/
import Derived.Test.YtijpcemcijaeeaaProg
import Derived.Below
import Derived.Deep.Draws
import Derived.Deep.AppendLies
import Derived.Maps.AppendAt
import Derived.OwnWalk
import Derived.Laws.BytesArg
import Derived.Laws.MakeOwn
import Derived.Laws.OwnMore
import Derived.Deep.OwnRows
import Derived.Tactics
import Derived.Lib.ConvBytes
import Derived.Laws.Slices
import Derived.WalkKit
import Derived.KernelRfl
import Derived.RowKit3
import Derived.Deep.LoopGhost
import Derived.Deep.QuietTactic
import Derived.BigQuiet
import Derived.WideLaws
import Derived.Deep.DeepCutAuto
import Derived.Deep.CutBlock
import Derived.Deep.RegionHeld3
import Derived.Laws.Rows
import Derived.Lib.AppendStr
import Derived.ArgAppend
import Derived.Laws.IdiomCopy
import Derived.OrdersHeld
import Derived.Laws.BitsLemmas
import Derived.RowKit
import Derived.Test.YtijpcemcijaeeaaWWords
import Derived.Test.YtijpcemcijaeeaaWLast
import Derived.Test.YtijpcemcijaeeaaWTab
import Derived.Test.YtijpcemcijaeeaaWFour
import Derived.Test.YtijpcemcijaeeaaWQPut
import Derived.Test.YtijpcemcijaeeaaWApart
import Derived.Test.YtijpcemcijaeeaaWArr
import Derived.Test.YtijpcemcijaeeaaWZeros
import Derived.Test.YtijpcemcijaeeaaWFoot
import Derived.Test.YtijpcemcijaeeaaWKept
import Derived.Test.YtijpcemcijaeeaaWShare
import Derived.Test.YtijpcemcijaeeaaWN
import Derived.Test.YtijpcemcijaeeaaWFootNe
import Derived.Test.YtijpcemcijaeeaaWAt
import Derived.Test.YtijpcemcijaeeaaWEqStruct
import Derived.Test.YtijpcemcijaeeaaWRepsOne
import Derived.Test.YtijpcemcijaeeaaWInv
import Derived.Test.YtijpcemcijaeeaaWInvWords
import Derived.Test.YtijpcemcijaeeaaWGuard
import Derived.Test.YtijpcemcijaeeaaWNEv
import Derived.Test.YtijpcemcijaeeaaWMore
import Derived.Test.YtijpcemcijaeeaaMake0
namespace Go.Proofs.Ytijpcemcijaeeaa.P
open Go.RowKit Go.Proofs.YtijpcemcijaeeaaW.PrintWords Go.Proofs.YtijpcemcijaeeaaW.PrintLast Go.Proofs.YtijpcemcijaeeaaW.PrintMore
attribute [local go_sem] max2_int min2_int max_two min_two max_three min_three max_four min_four   -- for this text's walks alone
set_option linter.unusedVariables false
set_option linter.unusedSimpArgs false



def errW : Option Int → Value
 | none => .nilIface
 | some c => .iface 0 (.int .i64 c)
theorem errW_none : errW none = .nilIface := rfl
theorem errW_some (c : Int) : errW (some c) = .iface 0 (.int .i64 c) := rfl

theorem info3 : (Try.prog.info? 3).map (fun i => (i.zero, i.size, i.bytes)) = some (some (.int .i64 0), 1, 8) := by kernel_rfl
theorem info5 : (Try.prog.info? 5).map (fun i => (i.zero, i.size, i.bytes)) = some (some (.int .u8 0), 1, 1) := by kernel_rfl
theorem info43 : (Try.prog.info? 43).map (fun i => (i.zero, i.size, i.bytes)) = some (some (.slice none 0 0), 1, 24) := by kernel_rfl
-- the values' own types
def rd_L2 (xs : List (List Int)) (i : Int) : (List Int) := xs.getD i.toNat ([] : List Int)
theorem at_L2 {w : World} {A : Option Addr} {n : Nat} {xs : List (List Int)} (h : Kd.C (Kd.slice 3 (Kd.int .i64)) w A n xs) (i : Int) (h0 : 0 ≤ i) (h1 : i < n) : ∃ ad A0 c0, A = some ad ∧ w.cell? (ad.add i.toNat) = some (.slice A0 (rd_L2 xs i).length c0) ∧ (rd_L2 xs i).length ≤ c0 ∧ (Kd.int .i64).C w A0 (rd_L2 xs i).length (rd_L2 xs i) := by
 obtain ⟨ad, c, e, _, hK, hc0⟩ := Kd.C_get h ([] : List Int) i h0 h1
 have hc : ∀ j u, c[j]? = some u → w.cell? (ad.add (i.toNat * 1 + j)) = some u := hc0
 obtain ⟨A0, c0, rfl, l0, g0⟩ := hK
 exact ⟨ad, A0, c0, e, by have hq := hc 0 _ rfl; rwa [Nat.mul_one, Nat.add_zero] at hq, l0, g0⟩

theorem fld23_0 (x y : Int) (W : World) : Sem.run Try.prog (Instr.field 23 (.agg #[.int .i64 x, .int .i64 y]) 0) W = .ok (.int .i64 x) W := by kernel_rfl
theorem fld23_1 (x y : Int) (W : World) : Sem.run Try.prog (Instr.field 23 (.agg #[.int .i64 x, .int .i64 y]) 1) W = .ok (.int .i64 y) W := by kernel_rfl
theorem zA {P : Prop} (h : P) : Aside0 P := ⟨h⟩
theorem zc0 {w : World} {g : Nat} {x y : Value} {t : TypeId} (b : Aside0 (w.heap[g]? = some (.cells #[x, y] t (0, 0)))) : w.cell? ⟨g, 0, none⟩ = some x := (blk_cell b.out 0).trans rfl
theorem zc1 {w : World} {g : Nat} {x y : Value} {t : TypeId} (b : Aside0 (w.heap[g]? = some (.cells #[x, y] t (0, 0)))) : w.cell? ⟨g, 1, none⟩ = some y := (blk_cell b.out 1).trans rfl
theorem zb {w w1 w2 : World} {g : Nat} {o : Obj} (b : Aside0 (w.heap[g]? = some o)) (hb : Below w1.heap.size w1 w2) (h : w.heap[g]? = some o → w1.heap[g]? = some o := by intro h_; (with_reducible repeat (first | refine blk_drewN ?_ _ | refine blk_drew ?_ | refine blk_alloc ?_ _)); exact h_) : Aside0 (w2.heap[g]? = some o) := ⟨blk_below (h b.out) hb⟩
theorem zg {w w0 w1 : World} {g : Nat} (b : Aside0 (Below w.heap.size w w0)) (hg : g = w1.heap.size) (h : Below w.heap.size w w0 → Below w.heap.size w w1 := by intro h_; repeat (first | (with_reducible first | exact h_ | apply below_alloc | apply pw_below_drewN | apply below_drew1) | exact h_)) : Aside0 (w.heap.size ≤ g) := ⟨by rw [hg]; exact below_size (h b.out)⟩
theorem zn {w w1 : World} {g g' : Nat} {o : Obj} (b : Aside0 (w.heap[g]? = some o)) (hg : g' = w1.heap.size) (h : w.heap[g]? = some o → w1.heap[g]? = some o := by intro h_; (with_reducible repeat (first | refine blk_drewN ?_ _ | refine blk_drew ?_ | refine blk_alloc ?_ _)); exact h_) : Aside0 (g ≠ g') := ⟨by rw [hg]; exact Nat.ne_of_lt (blk_lt (h b.out))⟩
theorem zo {w w1 : World} {g g' : Nat} {o : Obj} (b : Aside0 (w.heap[g]? = some o)) (hg : g' = w1.heap.size) (h : w.heap[g]? = some o → w1.heap[g]? = some o := by intro h_; (with_reducible repeat (first | refine blk_drewN ?_ _ | refine blk_drew ?_ | refine blk_alloc ?_ _)); exact h_) : Aside0 (g' ≠ g) := ⟨by rw [hg]; exact Nat.ne_of_gt (blk_lt (h b.out))⟩
theorem zF {P Q R : Prop} (b : Aside0 P) (n : Aside0 R) (h : P → R → Q := by intro h_ n_; (with_reducible repeat (first | refine blk_drewN ?_ _ | refine blk_drew ?_ | refine blk_alloc ?_ _)); refine blk_far ?_ n_ _; (with_reducible repeat (first | refine blk_drewN ?_ _ | refine blk_drew ?_ | refine blk_alloc ?_ _)); refine blk_far ?_ n_ _; (with_reducible repeat (first | refine blk_drewN ?_ _ | refine blk_drew ?_ | refine blk_alloc ?_ _)); exact h_) : Q := h b.out n.out
theorem put2_ {w : World} {g : Nat} {x0 y0 : Value} {t : TypeId} (h : w.heap[g]? = some (.cells #[x0, y0] t (0, 0))) (x y : Value) : ((w.setCell ⟨g, 0, none⟩ x).setCell ⟨g, 1, none⟩ y).heap[g]? = some (.cells #[x, y] t (0, 0)) := blk_put (cs := #[x, y0]) (blk_put (cs := #[x0, y0]) h 0 x rfl) 1 y rfl
theorem zP {P Q : Prop} (b : Aside0 P) (h : P → Q := by intro h_; (with_reducible repeat (first | refine blk_drewN ?_ _ | refine blk_drew ?_ | refine blk_alloc ?_ _)); apply put2_; (with_reducible repeat (first | refine blk_drewN ?_ _ | refine blk_drew ?_ | refine blk_alloc ?_ _)); exact h_) : Q := h b.out
theorem zf {w w1 w2 : World} {g : Nat} {o : Obj} {R : Prop} (b : Aside0 (w.heap[g]? = some o)) (n : Aside0 R) (hb : Below w1.heap.size w1 w2) (h : w.heap[g]? = some o → R → w1.heap[g]? = some o := by intro h_ n_; (with_reducible repeat (first | refine blk_drewN ?_ _ | refine blk_drew ?_ | refine blk_alloc ?_ _)); refine blk_far ?_ n_ _; (with_reducible repeat (first | refine blk_drewN ?_ _ | refine blk_drew ?_ | refine blk_alloc ?_ _)); refine blk_far ?_ n_ _; (with_reducible repeat (first | refine blk_drewN ?_ _ | refine blk_drew ?_ | refine blk_alloc ?_ _)); exact h_) : Aside0 (w2.heap[g]? = some o) := ⟨blk_below (h b.out n.out) hb⟩
theorem zp {w w1 w2 : World} {g : Nat} {x0 y0 x y : Value} {t : TypeId} (b : Aside0 (w.heap[g]? = some (.cells #[x0, y0] t (0, 0)))) (hb : Below w1.heap.size w1 w2) (h : w.heap[g]? = some (.cells #[x0, y0] t (0, 0)) → w1.heap[g]? = some (.cells #[x, y] t (0, 0)) := by intro h_; (with_reducible repeat (first | refine blk_drewN ?_ _ | refine blk_drew ?_ | refine blk_alloc ?_ _)); apply put2_; (with_reducible repeat (first | refine blk_drewN ?_ _ | refine blk_drew ?_ | refine blk_alloc ?_ _)); exact h_) : Aside0 (w2.heap[g]? = some (.cells #[x, y] t (0, 0))) := ⟨blk_below (h b.out) hb⟩
theorem zH {P : Prop} (h : P := by first | (go_simp; done) | (go_simp; rfl)) : P := h
theorem zD {P Q : Prop} (b : Aside0 P) (h : P → Q := by intro h_; (with_reducible repeat (first | refine blk_drewN ?_ _ | refine blk_drew ?_ | refine blk_alloc ?_ _)); exact h_) : Q := h b.out
theorem zR {P Q : Prop} (b : Aside0 P) (h : P → Q := by intro h_; (with_reducible repeat (first | apply Kd.R_alloc | apply Kd.R_drewN | apply Kd.R_drew)); exact h_) : Q := h b.out
theorem zM {P : Prop} (h : P := by (try simp only [List.map_toArray, List.map_cons, List.map_nil]); first | done | rfl | (simp only [List.length_drop, List.length_take]; rfl)) : P := h
theorem zS {P : Prop} (h : P := by first | rfl | (simp; done) | (simp [*]; done)) : P := h
theorem zB {P Q : Prop} (b : Aside0 P) (h : P → Q := by intro h_; repeat (first | (with_reducible first | exact h_ | apply below_alloc | apply pw_below_drewN | apply below_drew1) | exact h_)) : Q := h b.out
theorem zg1 {w w0 w1 : World} {g : Nat} {R0 : Prop} (b : Aside0 (Below w.heap.size w w0)) (r0 : Aside0 R0) (hg : g = w1.heap.size) (h : Below w.heap.size w w0 → R0 → Below w.heap.size w w1 := by intro h_ g0_; repeat (first | (with_reducible first | exact h_ | apply below_alloc | apply pw_below_drewN | apply below_drew1 | refine below_set ?_ g0_) | exact h_)) : Aside0 (w.heap.size ≤ g) := ⟨by rw [hg]; exact below_size (h b.out r0.out)⟩
theorem zB1 {P Q R0 : Prop} (b : Aside0 P) (r0 : Aside0 R0) (h : P → R0 → Q := by intro h_ g0_; repeat (first | (with_reducible first | exact h_ | apply below_alloc | apply pw_below_drewN | apply below_drew1 | refine below_set ?_ g0_) | exact h_)) : Q := h b.out r0.out
theorem zg2 {w w0 w1 : World} {g : Nat} {R0 R1 : Prop} (b : Aside0 (Below w.heap.size w w0)) (r0 : Aside0 R0) (r1 : Aside0 R1) (hg : g = w1.heap.size) (h : Below w.heap.size w w0 → R0 → R1 → Below w.heap.size w w1 := by intro h_ g0_ g1_; repeat (first | (with_reducible first | exact h_ | apply below_alloc | apply pw_below_drewN | apply below_drew1 | refine below_set ?_ g0_ | refine below_set ?_ g1_) | exact h_)) : Aside0 (w.heap.size ≤ g) := ⟨by rw [hg]; exact below_size (h b.out r0.out r1.out)⟩
theorem zB2 {P Q R0 R1 : Prop} (b : Aside0 P) (r0 : Aside0 R0) (r1 : Aside0 R1) (h : P → R0 → R1 → Q := by intro h_ g0_ g1_; repeat (first | (with_reducible first | exact h_ | apply below_alloc | apply pw_below_drewN | apply below_drew1 | refine below_set ?_ g0_ | refine below_set ?_ g1_) | exact h_)) : Q := h b.out r0.out r1.out
theorem zg3 {w w0 w1 : World} {g : Nat} {R0 R1 R2 : Prop} (b : Aside0 (Below w.heap.size w w0)) (r0 : Aside0 R0) (r1 : Aside0 R1) (r2 : Aside0 R2) (hg : g = w1.heap.size) (h : Below w.heap.size w w0 → R0 → R1 → R2 → Below w.heap.size w w1 := by intro h_ g0_ g1_ g2_; repeat (first | (with_reducible first | exact h_ | apply below_alloc | apply pw_below_drewN | apply below_drew1 | refine below_set ?_ g0_ | refine below_set ?_ g1_ | refine below_set ?_ g2_) | exact h_)) : Aside0 (w.heap.size ≤ g) := ⟨by rw [hg]; exact below_size (h b.out r0.out r1.out r2.out)⟩
theorem zB3 {P Q R0 R1 R2 : Prop} (b : Aside0 P) (r0 : Aside0 R0) (r1 : Aside0 R1) (r2 : Aside0 R2) (h : P → R0 → R1 → R2 → Q := by intro h_ g0_ g1_ g2_; repeat (first | (with_reducible first | exact h_ | apply below_alloc | apply pw_below_drewN | apply below_drew1 | refine below_set ?_ g0_ | refine below_set ?_ g1_ | refine below_set ?_ g2_) | exact h_)) : Q := h b.out r0.out r1.out r2.out
theorem zg4 {w w0 w1 : World} {g : Nat} {R0 R1 R2 R3 : Prop} (b : Aside0 (Below w.heap.size w w0)) (r0 : Aside0 R0) (r1 : Aside0 R1) (r2 : Aside0 R2) (r3 : Aside0 R3) (hg : g = w1.heap.size) (h : Below w.heap.size w w0 → R0 → R1 → R2 → R3 → Below w.heap.size w w1 := by intro h_ g0_ g1_ g2_ g3_; repeat (first | (with_reducible first | exact h_ | apply below_alloc | apply pw_below_drewN | apply below_drew1 | refine below_set ?_ g0_ | refine below_set ?_ g1_ | refine below_set ?_ g2_ | refine below_set ?_ g3_) | exact h_)) : Aside0 (w.heap.size ≤ g) := ⟨by rw [hg]; exact below_size (h b.out r0.out r1.out r2.out r3.out)⟩
theorem zB4 {P Q R0 R1 R2 R3 : Prop} (b : Aside0 P) (r0 : Aside0 R0) (r1 : Aside0 R1) (r2 : Aside0 R2) (r3 : Aside0 R3) (h : P → R0 → R1 → R2 → R3 → Q := by intro h_ g0_ g1_ g2_ g3_; repeat (first | (with_reducible first | exact h_ | apply below_alloc | apply pw_below_drewN | apply below_drew1 | refine below_set ?_ g0_ | refine below_set ?_ g1_ | refine below_set ?_ g2_ | refine below_set ?_ g3_) | exact h_)) : Q := h b.out r0.out r1.out r2.out r3.out
theorem zB5 {P Q R0 R1 R2 R3 R4 : Prop} (b : Aside0 P) (r0 : Aside0 R0) (r1 : Aside0 R1) (r2 : Aside0 R2) (r3 : Aside0 R3) (r4 : Aside0 R4) (h : P → R0 → R1 → R2 → R3 → R4 → Q := by intro h_ g0_ g1_ g2_ g3_ g4_; repeat (first | (with_reducible first | exact h_ | apply below_alloc | apply pw_below_drewN | apply below_drew1 | refine below_set ?_ g0_ | refine below_set ?_ g1_ | refine below_set ?_ g2_ | refine below_set ?_ g3_ | refine below_set ?_ g4_) | exact h_)) : Q := h b.out r0.out r1.out r2.out r3.out r4.out
theorem zB6 {P Q R0 R1 R2 R3 R4 R5 : Prop} (b : Aside0 P) (r0 : Aside0 R0) (r1 : Aside0 R1) (r2 : Aside0 R2) (r3 : Aside0 R3) (r4 : Aside0 R4) (r5 : Aside0 R5) (h : P → R0 → R1 → R2 → R3 → R4 → R5 → Q := by intro h_ g0_ g1_ g2_ g3_ g4_ g5_; repeat (first | (with_reducible first | exact h_ | apply below_alloc | apply pw_below_drewN | apply below_drew1 | refine below_set ?_ g0_ | refine below_set ?_ g1_ | refine below_set ?_ g2_ | refine below_set ?_ g3_ | refine below_set ?_ g4_ | refine below_set ?_ g5_) | exact h_)) : Q := h b.out r0.out r1.out r2.out r3.out r4.out r5.out
theorem zB7 {P Q R0 R1 R2 R3 R4 R5 R6 : Prop} (b : Aside0 P) (r0 : Aside0 R0) (r1 : Aside0 R1) (r2 : Aside0 R2) (r3 : Aside0 R3) (r4 : Aside0 R4) (r5 : Aside0 R5) (r6 : Aside0 R6) (h : P → R0 → R1 → R2 → R3 → R4 → R5 → R6 → Q := by intro h_ g0_ g1_ g2_ g3_ g4_ g5_ g6_; repeat (first | (with_reducible first | exact h_ | apply below_alloc | apply pw_below_drewN | apply below_drew1 | refine below_set ?_ g0_ | refine below_set ?_ g1_ | refine below_set ?_ g2_ | refine below_set ?_ g3_ | refine below_set ?_ g4_ | refine below_set ?_ g5_ | refine below_set ?_ g6_) | exact h_)) : Q := h b.out r0.out r1.out r2.out r3.out r4.out r5.out r6.out
theorem zB8 {P Q R0 R1 R2 R3 R4 R5 R6 R7 : Prop} (b : Aside0 P) (r0 : Aside0 R0) (r1 : Aside0 R1) (r2 : Aside0 R2) (r3 : Aside0 R3) (r4 : Aside0 R4) (r5 : Aside0 R5) (r6 : Aside0 R6) (r7 : Aside0 R7) (h : P → R0 → R1 → R2 → R3 → R4 → R5 → R6 → R7 → Q := by intro h_ g0_ g1_ g2_ g3_ g4_ g5_ g6_ g7_; repeat (first | (with_reducible first | exact h_ | apply below_alloc | apply pw_below_drewN | apply below_drew1 | refine below_set ?_ g0_ | refine below_set ?_ g1_ | refine below_set ?_ g2_ | refine below_set ?_ g3_ | refine below_set ?_ g4_ | refine below_set ?_ g5_ | refine below_set ?_ g6_ | refine below_set ?_ g7_) | exact h_)) : Q := h b.out r0.out r1.out r2.out r3.out r4.out r5.out r6.out r7.out
end Go.Proofs.Ytijpcemcijaeeaa.P
