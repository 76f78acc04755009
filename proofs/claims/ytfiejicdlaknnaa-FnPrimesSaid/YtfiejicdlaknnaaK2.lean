/- The functions that this seat's laws reach, each as a plain Lean function, and the walk of each; written by a program over the kit's print. No conditions but those that stand in the theorems. -/
import Derived.Test.YtfiejicdlaknnaaProg
import Derived.Below
import Derived.Deep.Draws
import Derived.Deep.AppendLies
import Derived.Maps.AppendAt
import Derived.OwnWalk
import Derived.Laws.BytesArg
import Derived.Laws.MakeOwn
import Derived.Laws.OwnMore
import Derived.Deep.OwnRows
import Derived.Tactics
import Derived.Lib.ConvBytes
import Derived.Laws.Slices
import Derived.WalkKit
import Derived.KernelRfl
import Derived.RowKit3
import Derived.Deep.LoopGhost
import Derived.Deep.QuietTactic
import Derived.BigQuiet
import Derived.WideLaws
import Derived.Deep.DeepCutAuto
import Derived.Deep.CutBlock
import Derived.Deep.RegionHeld3
import Derived.Laws.Rows
import Derived.Lib.AppendStr
import Derived.ArgAppend
import Derived.Laws.IdiomCopy
import Derived.OrdersHeld
import Derived.Laws.BitsLemmas
import Derived.RowKit
import Derived.Test.YtfiejicdlaknnaaWWords
import Derived.Test.YtfiejicdlaknnaaWLast
import Derived.Test.YtfiejicdlaknnaaWTab
import Derived.Test.YtfiejicdlaknnaaWFour
import Derived.Test.YtfiejicdlaknnaaWQPut
import Derived.Test.YtfiejicdlaknnaaWApart
import Derived.Test.YtfiejicdlaknnaaWArr
import Derived.Test.YtfiejicdlaknnaaWZeros
import Derived.Test.YtfiejicdlaknnaaWFoot
import Derived.Test.YtfiejicdlaknnaaWKept
import Derived.Test.YtfiejicdlaknnaaWShare
import Derived.Test.YtfiejicdlaknnaaWN
import Derived.Test.YtfiejicdlaknnaaWFootNe
import Derived.Test.YtfiejicdlaknnaaWAt
import Derived.Test.YtfiejicdlaknnaaWEqStruct
import Derived.Test.YtfiejicdlaknnaaWRepsOne
import Derived.Test.YtfiejicdlaknnaaWInv
import Derived.Test.YtfiejicdlaknnaaWInvWords
import Derived.Test.YtfiejicdlaknnaaWGuard
import Derived.Test.YtfiejicdlaknnaaWNEv
import Derived.Test.YtfiejicdlaknnaaWMore
import Derived.Test.YtfiejicdlaknnaaMake0
import Derived.Test.YtfiejicdlaknnaaK1
import Derived.RegionTactic
import Derived.ChangeAlike
import Derived.OneCell
import Derived.Outline
import Derived.Lib.Hide
import Derived.Shelf.Abstract
import Derived.WalkSpells

namespace Go.Proofs.Ytfiejicdlaknnaa.P
open Go.RowKit Go.Proofs.YtfiejicdlaknnaaW.PrintWords Go.Proofs.YtfiejicdlaknnaaW.PrintLast Go.Proofs.YtfiejicdlaknnaaW.PrintMore
attribute [local go_sem] max2_int min2_int max_two min_two max_three min_three max_four min_four   -- for this text's walks alone
set_option linter.unusedVariables false
set_option linter.unusedSimpArgs false



def errW : Option Int → Value
 | none => .nilIface
 | some c => .iface 0 (.int .i64 c)
theorem errW_none : errW none = .nilIface := rfl
theorem errW_some (c : Int) : errW (some c) = .iface 0 (.int .i64 c) := rfl

theorem info3 : (Try.prog.info? 3).map (fun i => (i.zero, i.size, i.bytes)) = some (some (.int .i64 0), 1, 8) := by kernel_rfl
theorem info5 : (Try.prog.info? 5).map (fun i => (i.zero, i.size, i.bytes)) = some (some (.int .u8 0), 1, 1) := by kernel_rfl
theorem info9 : (Try.prog.info? 9).map (fun i => (i.zero, i.size, i.bytes)) = some (some (.string ⟨#[]⟩), 1, 16) := by kernel_rfl
theorem info33 : (Try.prog.info? 33).map (fun i => (i.zero, i.size, i.bytes)) = some (some (.agg #[(.int .i64 0), (.int .i64 0)]), 2, 16) := by kernel_rfl
-- the values' own types
/-! #### struct type 33 -/
structure S33 where
 f0 : Int
 f1 : Int
def z33 : S33 := ⟨(0 : Int), (0 : Int)⟩
def k33 : Kd S33 := Kd.iso (Kd.pair (Kd.int .i64) (Kd.int .i64)) (fun x : S33 => (x.f0, x.f1))
theorem k33_open {w : World} {x : S33} {cs : List Value} (h : k33.K w x cs) : cs = [.int .i64 x.f0, .int .i64 x.f1] := by
 obtain ⟨_, _, rfl, rfl, rfl⟩ := h
 exact rfl
theorem k33_openM {w : World} {base : Nat} {ok : Nat → Prop} {x : S33} {cs : List Value} (h : k33.M w base ok x cs) : cs = [.int .i64 x.f0, .int .i64 x.f1] := by
 obtain ⟨_, _, rfl, rfl, rfl⟩ := h
 exact rfl
theorem k33_mk (w : World) (x : S33)  : k33.K w x [.int .i64 x.f0, .int .i64 x.f1] := ⟨[.int .i64 x.f0], [.int .i64 x.f1], rfl, rfl, rfl⟩
theorem k33_mkM (w : World) (base : Nat) (ok : Nat → Prop) (x : S33)  : k33.M w base ok x [.int .i64 x.f0, .int .i64 x.f1] := ⟨[.int .i64 x.f0], [.int .i64 x.f1], rfl, rfl, rfl⟩
def rd_T33 (xs : List S33) (i : Int) : S33 := xs.getD i.toNat z33
theorem at_T33 {w : World} {A : Option Addr} {n : Nat} {xs : List S33} (h : Kd.C k33 w A n xs) (i : Int) (h0 : 0 ≤ i) (h1 : i < n) : ∃ ad , A = some ad ∧ w.cell? (ad.add (i.toNat * 2)) = some (.int .i64 (rd_T33 xs i).f0) ∧ w.cell? ⟨(ad.add (i.toNat * 2)).block, (ad.add (i.toNat * 2)).off + 1, none⟩ = some (.int .i64 (rd_T33 xs i).f1) := by
 obtain ⟨ad, c, e, _, hK, hc0⟩ := Kd.C_get h z33 i h0 h1
 have hc : ∀ j u, c[j]? = some u → w.cell? (ad.add (i.toNat * 2 + j)) = some u := hc0
 obtain rfl := k33_open hK
 exact ⟨ad, e, hc 0 _ rfl, by rw [← add_field _ _ 1 (by omega)]; exact hc 1 _ rfl⟩

theorem fld25_0 (x y : Int) (W : World) : Sem.run Try.prog (Instr.field 25 (.agg #[.int .i64 x, .int .i64 y]) 0) W = .ok (.int .i64 x) W := by kernel_rfl
theorem fld25_1 (x y : Int) (W : World) : Sem.run Try.prog (Instr.field 25 (.agg #[.int .i64 x, .int .i64 y]) 1) W = .ok (.int .i64 y) W := by kernel_rfl
theorem zA {P : Prop} (h : P) : Aside0 P := ⟨h⟩
theorem zc0 {w : World} {g : Nat} {x y : Value} {t : TypeId} (b : Aside0 (w.heap[g]? = some (.cells #[x, y] t (0, 0)))) : w.cell? ⟨g, 0, none⟩ = some x := (blk_cell b.out 0).trans rfl
theorem zc1 {w : World} {g : Nat} {x y : Value} {t : TypeId} (b : Aside0 (w.heap[g]? = some (.cells #[x, y] t (0, 0)))) : w.cell? ⟨g, 1, none⟩ = some y := (blk_cell b.out 1).trans rfl
theorem zb {w w1 w2 : World} {g : Nat} {o : Obj} (b : Aside0 (w.heap[g]? = some o)) (hb : Below w1.heap.size w1 w2) (h : w.heap[g]? = some o → w1.heap[g]? = some o := by intro h_; (with_reducible repeat (first | refine blk_drewN ?_ _ | refine blk_drew ?_ | refine blk_alloc ?_ _)); exact h_) : Aside0 (w2.heap[g]? = some o) := ⟨blk_below (h b.out) hb⟩
theorem zg {w w0 w1 : World} {g : Nat} (b : Aside0 (Below w.heap.size w w0)) (hg : g = w1.heap.size) (h : Below w.heap.size w w0 → Below w.heap.size w w1 := by intro h_; repeat (first | (with_reducible first | exact h_ | apply below_alloc | apply pw_below_drewN | apply below_drew1) | exact h_)) : Aside0 (w.heap.size ≤ g) := ⟨by rw [hg]; exact below_size (h b.out)⟩
theorem zn {w w1 : World} {g g' : Nat} {o : Obj} (b : Aside0 (w.heap[g]? = some o)) (hg : g' = w1.heap.size) (h : w.heap[g]? = some o → w1.heap[g]? = some o := by intro h_; (with_reducible repeat (first | refine blk_drewN ?_ _ | refine blk_drew ?_ | refine blk_alloc ?_ _)); exact h_) : Aside0 (g ≠ g') := ⟨by rw [hg]; exact Nat.ne_of_lt (blk_lt (h b.out))⟩
theorem zo {w w1 : World} {g g' : Nat} {o : Obj} (b : Aside0 (w.heap[g]? = some o)) (hg : g' = w1.heap.size) (h : w.heap[g]? = some o → w1.heap[g]? = some o := by intro h_; (with_reducible repeat (first | refine blk_drewN ?_ _ | refine blk_drew ?_ | refine blk_alloc ?_ _)); exact h_) : Aside0 (g' ≠ g) := ⟨by rw [hg]; exact Nat.ne_of_gt (blk_lt (h b.out))⟩
theorem zF {P Q R : Prop} (b : Aside0 P) (n : Aside0 R) (h : P → R → Q := by intro h_ n_; (with_reducible repeat (first | refine blk_drewN ?_ _ | refine blk_drew ?_ | refine blk_alloc ?_ _)); refine blk_far ?_ n_ _; (with_reducible repeat (first | refine blk_drewN ?_ _ | refine blk_drew ?_ | refine blk_alloc ?_ _)); refine blk_far ?_ n_ _; (with_reducible repeat (first | refine blk_drewN ?_ _ | refine blk_drew ?_ | refine blk_alloc ?_ _)); exact h_) : Q := h b.out n.out
theorem put2_ {w : World} {g : Nat} {x0 y0 : Value} {t : TypeId} (h : w.heap[g]? = some (.cells #[x0, y0] t (0, 0))) (x y : Value) : ((w.setCell ⟨g, 0, none⟩ x).setCell ⟨g, 1, none⟩ y).heap[g]? = some (.cells #[x, y] t (0, 0)) := blk_put (cs := #[x, y0]) (blk_put (cs := #[x0, y0]) h 0 x rfl) 1 y rfl
theorem zP {P Q : Prop} (b : Aside0 P) (h : P → Q := by intro h_; (with_reducible repeat (first | refine blk_drewN ?_ _ | refine blk_drew ?_ | refine blk_alloc ?_ _)); apply put2_; (with_reducible repeat (first | refine blk_drewN ?_ _ | refine blk_drew ?_ | refine blk_alloc ?_ _)); exact h_) : Q := h b.out
theorem zf {w w1 w2 : World} {g : Nat} {o : Obj} {R : Prop} (b : Aside0 (w.heap[g]? = some o)) (n : Aside0 R) (hb : Below w1.heap.size w1 w2) (h : w.heap[g]? = some o → R → w1.heap[g]? = some o := by intro h_ n_; (with_reducible repeat (first | refine blk_drewN ?_ _ | refine blk_drew ?_ | refine blk_alloc ?_ _)); refine blk_far ?_ n_ _; (with_reducible repeat (first | refine blk_drewN ?_ _ | refine blk_drew ?_ | refine blk_alloc ?_ _)); refine blk_far ?_ n_ _; (with_reducible repeat (first | refine blk_drewN ?_ _ | refine blk_drew ?_ | refine blk_alloc ?_ _)); exact h_) : Aside0 (w2.heap[g]? = some o) := ⟨blk_below (h b.out n.out) hb⟩
theorem zp {w w1 w2 : World} {g : Nat} {x0 y0 x y : Value} {t : TypeId} (b : Aside0 (w.heap[g]? = some (.cells #[x0, y0] t (0, 0)))) (hb : Below w1.heap.size w1 w2) (h : w.heap[g]? = some (.cells #[x0, y0] t (0, 0)) → w1.heap[g]? = some (.cells #[x, y] t (0, 0)) := by intro h_; (with_reducible repeat (first | refine blk_drewN ?_ _ | refine blk_drew ?_ | refine blk_alloc ?_ _)); apply put2_; (with_reducible repeat (first | refine blk_drewN ?_ _ | refine blk_drew ?_ | refine blk_alloc ?_ _)); exact h_) : Aside0 (w2.heap[g]? = some (.cells #[x, y] t (0, 0))) := ⟨blk_below (h b.out) hb⟩
theorem zH {P : Prop} (h : P := by first | (go_simp; done) | (go_simp; rfl)) : P := h
theorem zD {P Q : Prop} (b : Aside0 P) (h : P → Q := by intro h_; (with_reducible repeat (first | refine blk_drewN ?_ _ | refine blk_drew ?_ | refine blk_alloc ?_ _)); exact h_) : Q := h b.out
theorem zR {P Q : Prop} (b : Aside0 P) (h : P → Q := by intro h_; (with_reducible repeat (first | apply Kd.R_alloc | apply Kd.R_drewN | apply Kd.R_drew)); exact h_) : Q := h b.out
theorem zM {P : Prop} (h : P := by (try simp only [List.map_toArray, List.map_cons, List.map_nil]); first | done | rfl | (simp only [List.length_drop, List.length_take]; rfl)) : P := h
theorem zS {P : Prop} (h : P := by first | rfl | (simp; done) | (simp [*]; done)) : P := h
theorem zB {P Q : Prop} (b : Aside0 P) (h : P → Q := by intro h_; repeat (first | (with_reducible first | exact h_ | apply below_alloc | apply pw_below_drewN | apply below_drew1) | exact h_)) : Q := h b.out
theorem zU {P : Prop} (h : P := by (simp only [Act.put, List.setIfInBounds_toArray, List.set_cons_zero, List.set_cons_succ, i64_w, i32_w]); rfl) : P := h
theorem zC {P Q : Prop} (x : P) (h : P → Q := by intro h_; repeat (first | exact h_ | (with_reducible refine Kd.C_alloc ?_ _) | (with_reducible refine Kd.C_drewN ?_ _) | (with_reducible refine Kd.C_drew ?_))) : Q := h x
theorem zE {P : Prop} (h : P := by first | rfl | (simp [errW_none, errW_some] <;> rfl) | (simp [*, errW_none, errW_some] <;> rfl)) : P := h
theorem zK {P Q : Prop} (b : Aside0 P) (h : P → Q := by intro h_; repeat (first | (with_reducible first | exact h_ | apply KeepBut.set_ | apply keep_drewN | apply keep_drew | apply keep_alloc) | exact h_)) : Q := h b.out
theorem zK1 {P Q R0 : Prop} (b : Aside0 P) (r0 : Aside0 R0) (h : P → R0 → Q := by intro h_ g0_; repeat (first | (with_reducible first | exact h_ | apply KeepBut.set_ | apply keep_drewN | apply keep_drew | apply keep_alloc | refine keep_far ?_ g0_ _) | exact h_)) : Q := h b.out r0.out
theorem zK2 {P Q R0 R1 : Prop} (b : Aside0 P) (r0 : Aside0 R0) (r1 : Aside0 R1) (h : P → R0 → R1 → Q := by intro h_ g0_ g1_; repeat (first | (with_reducible first | exact h_ | apply KeepBut.set_ | apply keep_drewN | apply keep_drew | apply keep_alloc | refine keep_far ?_ g0_ _ | refine keep_far ?_ g1_ _) | exact h_)) : Q := h b.out r0.out r1.out
theorem zK3 {P Q R0 R1 R2 : Prop} (b : Aside0 P) (r0 : Aside0 R0) (r1 : Aside0 R1) (r2 : Aside0 R2) (h : P → R0 → R1 → R2 → Q := by intro h_ g0_ g1_ g2_; repeat (first | (with_reducible first | exact h_ | apply KeepBut.set_ | apply keep_drewN | apply keep_drew | apply keep_alloc | refine keep_far ?_ g0_ _ | refine keep_far ?_ g1_ _ | refine keep_far ?_ g2_ _) | exact h_)) : Q := h b.out r0.out r1.out r2.out
theorem zK4 {P Q R0 R1 R2 R3 : Prop} (b : Aside0 P) (r0 : Aside0 R0) (r1 : Aside0 R1) (r2 : Aside0 R2) (r3 : Aside0 R3) (h : P → R0 → R1 → R2 → R3 → Q := by intro h_ g0_ g1_ g2_ g3_; repeat (first | (with_reducible first | exact h_ | apply KeepBut.set_ | apply keep_drewN | apply keep_drew | apply keep_alloc | refine keep_far ?_ g0_ _ | refine keep_far ?_ g1_ _ | refine keep_far ?_ g2_ _ | refine keep_far ?_ g3_ _) | exact h_)) : Q := h b.out r0.out r1.out r2.out r3.out
theorem zg1 {w w0 w1 : World} {g : Nat} {R0 : Prop} (b : Aside0 (Below w.heap.size w w0)) (r0 : Aside0 R0) (hg : g = w1.heap.size) (h : Below w.heap.size w w0 → R0 → Below w.heap.size w w1 := by intro h_ g0_; repeat (first | (with_reducible first | exact h_ | apply below_alloc | apply pw_below_drewN | apply below_drew1 | refine below_set ?_ g0_) | exact h_)) : Aside0 (w.heap.size ≤ g) := ⟨by rw [hg]; exact below_size (h b.out r0.out)⟩
theorem zB1 {P Q R0 : Prop} (b : Aside0 P) (r0 : Aside0 R0) (h : P → R0 → Q := by intro h_ g0_; repeat (first | (with_reducible first | exact h_ | apply below_alloc | apply pw_below_drewN | apply below_drew1 | refine below_set ?_ g0_) | exact h_)) : Q := h b.out r0.out
theorem zg2 {w w0 w1 : World} {g : Nat} {R0 R1 : Prop} (b : Aside0 (Below w.heap.size w w0)) (r0 : Aside0 R0) (r1 : Aside0 R1) (hg : g = w1.heap.size) (h : Below w.heap.size w w0 → R0 → R1 → Below w.heap.size w w1 := by intro h_ g0_ g1_; repeat (first | (with_reducible first | exact h_ | apply below_alloc | apply pw_below_drewN | apply below_drew1 | refine below_set ?_ g0_ | refine below_set ?_ g1_) | exact h_)) : Aside0 (w.heap.size ≤ g) := ⟨by rw [hg]; exact below_size (h b.out r0.out r1.out)⟩
theorem zB2 {P Q R0 R1 : Prop} (b : Aside0 P) (r0 : Aside0 R0) (r1 : Aside0 R1) (h : P → R0 → R1 → Q := by intro h_ g0_ g1_; repeat (first | (with_reducible first | exact h_ | apply below_alloc | apply pw_below_drewN | apply below_drew1 | refine below_set ?_ g0_ | refine below_set ?_ g1_) | exact h_)) : Q := h b.out r0.out r1.out
theorem zg3 {w w0 w1 : World} {g : Nat} {R0 R1 R2 : Prop} (b : Aside0 (Below w.heap.size w w0)) (r0 : Aside0 R0) (r1 : Aside0 R1) (r2 : Aside0 R2) (hg : g = w1.heap.size) (h : Below w.heap.size w w0 → R0 → R1 → R2 → Below w.heap.size w w1 := by intro h_ g0_ g1_ g2_; repeat (first | (with_reducible first | exact h_ | apply below_alloc | apply pw_below_drewN | apply below_drew1 | refine below_set ?_ g0_ | refine below_set ?_ g1_ | refine below_set ?_ g2_) | exact h_)) : Aside0 (w.heap.size ≤ g) := ⟨by rw [hg]; exact below_size (h b.out r0.out r1.out r2.out)⟩
theorem zB3 {P Q R0 R1 R2 : Prop} (b : Aside0 P) (r0 : Aside0 R0) (r1 : Aside0 R1) (r2 : Aside0 R2) (h : P → R0 → R1 → R2 → Q := by intro h_ g0_ g1_ g2_; repeat (first | (with_reducible first | exact h_ | apply below_alloc | apply pw_below_drewN | apply below_drew1 | refine below_set ?_ g0_ | refine below_set ?_ g1_ | refine below_set ?_ g2_) | exact h_)) : Q := h b.out r0.out r1.out r2.out
theorem zg4 {w w0 w1 : World} {g : Nat} {R0 R1 R2 R3 : Prop} (b : Aside0 (Below w.heap.size w w0)) (r0 : Aside0 R0) (r1 : Aside0 R1) (r2 : Aside0 R2) (r3 : Aside0 R3) (hg : g = w1.heap.size) (h : Below w.heap.size w w0 → R0 → R1 → R2 → R3 → Below w.heap.size w w1 := by intro h_ g0_ g1_ g2_ g3_; repeat (first | (with_reducible first | exact h_ | apply below_alloc | apply pw_below_drewN | apply below_drew1 | refine below_set ?_ g0_ | refine below_set ?_ g1_ | refine below_set ?_ g2_ | refine below_set ?_ g3_) | exact h_)) : Aside0 (w.heap.size ≤ g) := ⟨by rw [hg]; exact below_size (h b.out r0.out r1.out r2.out r3.out)⟩
theorem zB4 {P Q R0 R1 R2 R3 : Prop} (b : Aside0 P) (r0 : Aside0 R0) (r1 : Aside0 R1) (r2 : Aside0 R2) (r3 : Aside0 R3) (h : P → R0 → R1 → R2 → R3 → Q := by intro h_ g0_ g1_ g2_ g3_; repeat (first | (with_reducible first | exact h_ | apply below_alloc | apply pw_below_drewN | apply below_drew1 | refine below_set ?_ g0_ | refine below_set ?_ g1_ | refine below_set ?_ g2_ | refine below_set ?_ g3_) | exact h_)) : Q := h b.out r0.out r1.out r2.out r3.out
theorem zB5 {P Q R0 R1 R2 R3 R4 : Prop} (b : Aside0 P) (r0 : Aside0 R0) (r1 : Aside0 R1) (r2 : Aside0 R2) (r3 : Aside0 R3) (r4 : Aside0 R4) (h : P → R0 → R1 → R2 → R3 → R4 → Q := by intro h_ g0_ g1_ g2_ g3_ g4_; repeat (first | (with_reducible first | exact h_ | apply below_alloc | apply pw_below_drewN | apply below_drew1 | refine below_set ?_ g0_ | refine below_set ?_ g1_ | refine below_set ?_ g2_ | refine below_set ?_ g3_ | refine below_set ?_ g4_) | exact h_)) : Q := h b.out r0.out r1.out r2.out r3.out r4.out
theorem zB6 {P Q R0 R1 R2 R3 R4 R5 : Prop} (b : Aside0 P) (r0 : Aside0 R0) (r1 : Aside0 R1) (r2 : Aside0 R2) (r3 : Aside0 R3) (r4 : Aside0 R4) (r5 : Aside0 R5) (h : P → R0 → R1 → R2 → R3 → R4 → R5 → Q := by intro h_ g0_ g1_ g2_ g3_ g4_ g5_; repeat (first | (with_reducible first | exact h_ | apply below_alloc | apply pw_below_drewN | apply below_drew1 | refine below_set ?_ g0_ | refine below_set ?_ g1_ | refine below_set ?_ g2_ | refine below_set ?_ g3_ | refine below_set ?_ g4_ | refine below_set ?_ g5_) | exact h_)) : Q := h b.out r0.out r1.out r2.out r3.out r4.out r5.out
theorem zB7 {P Q R0 R1 R2 R3 R4 R5 R6 : Prop} (b : Aside0 P) (r0 : Aside0 R0) (r1 : Aside0 R1) (r2 : Aside0 R2) (r3 : Aside0 R3) (r4 : Aside0 R4) (r5 : Aside0 R5) (r6 : Aside0 R6) (h : P → R0 → R1 → R2 → R3 → R4 → R5 → R6 → Q := by intro h_ g0_ g1_ g2_ g3_ g4_ g5_ g6_; repeat (first | (with_reducible first | exact h_ | apply below_alloc | apply pw_below_drewN | apply below_drew1 | refine below_set ?_ g0_ | refine below_set ?_ g1_ | refine below_set ?_ g2_ | refine below_set ?_ g3_ | refine below_set ?_ g4_ | refine below_set ?_ g5_ | refine below_set ?_ g6_) | exact h_)) : Q := h b.out r0.out r1.out r2.out r3.out r4.out r5.out r6.out
theorem zB8 {P Q R0 R1 R2 R3 R4 R5 R6 R7 : Prop} (b : Aside0 P) (r0 : Aside0 R0) (r1 : Aside0 R1) (r2 : Aside0 R2) (r3 : Aside0 R3) (r4 : Aside0 R4) (r5 : Aside0 R5) (r6 : Aside0 R6) (r7 : Aside0 R7) (h : P → R0 → R1 → R2 → R3 → R4 → R5 → R6 → R7 → Q := by intro h_ g0_ g1_ g2_ g3_ g4_ g5_ g6_ g7_; repeat (first | (with_reducible first | exact h_ | apply below_alloc | apply pw_below_drewN | apply below_drew1 | refine below_set ?_ g0_ | refine below_set ?_ g1_ | refine below_set ?_ g2_ | refine below_set ?_ g3_ | refine below_set ?_ g4_ | refine below_set ?_ g5_ | refine below_set ?_ g6_ | refine below_set ?_ g7_) | exact h_)) : Q := h b.out r0.out r1.out r2.out r3.out r4.out r5.out r6.out r7.out
end Go.Proofs.Ytfiejicdlaknnaa.P

namespace Go.Proofs.Ytfiejicdlaknnaa.P
open Go.RowKit Go.Proofs.YtfiejicdlaknnaaW.PrintWords Go.Proofs.YtfiejicdlaknnaaW.PrintLast Go.Proofs.YtfiejicdlaknnaaW.PrintMore
attribute [local go_sem] max2_int min2_int max_two min_two max_three min_three max_four min_four   -- for this text's walks alone
set_option linter.unusedVariables false
set_option linter.unusedSimpArgs false

attribute [local go_sem] fld25_0 fld25_1
/-! ### spec_l1In: function 49 -/
def spec_l1In.f (a0 : Int) (a1 : Int) (a2 : Int) : Option (Bool) := if a0 ≥ a1 then (some (decide (a0 ≤ a2))) else (some false)
set_option maxHeartbeats 8000000 in
set_option maxRecDepth 100000 in
theorem spec_l1In.calls (a0 : Int) (a1 : Int) (a2 : Int) (r : Bool) (w : World) (h : spec_l1In.f a0 a1 a2 = some r) :
  Calls Try.prog 49 #[.int .i64 a0, .int .i64 a1, .int .i64 a2] w fun e w' => e = .returned (.bool r) ∧ Drawn0 w w' := by
 have H : (if a0 ≥ a1 then (some (decide (a0 ≤ a2))) else (some false)) = some r := h
 clear h
 by_cases c4 : a0 ≥ a1
 ·rw [if_pos c4] at H
  have c4b0 : decide (a1 ≤ a0) = true := decide_eq_true c4
  clear c4
  obtain rfl := Option.some.inj H
  go_enter Try.func49, Try.ntmps49
  go_wp2
  go_ret
  exact ⟨by first | rfl | (simp; done) | (simp [*]; done), by repeat (first | exact Drawn0.refl _ | apply Drawn0.step)⟩
 ·rw [if_neg c4] at H
  have c4b0 : decide (a1 ≤ a0) = false := decide_eq_false c4
  clear c4
  obtain rfl := Option.some.inj H
  go_enter Try.func49, Try.ntmps49
  go_wp2
  go_ret
  exact ⟨by first | rfl | (simp; done) | (simp [*]; done), by repeat (first | exact Drawn0.refl _ | apply Drawn0.step)⟩

end Go.Proofs.Ytfiejicdlaknnaa.P

namespace Go.Proofs.Ytfiejicdlaknnaa.P
set_option linter.unusedVariables false
set_option linter.unusedSimpArgs false
open Go.RowKit Go.Proofs.YtfiejicdlaknnaaW.PrintWords Go.Proofs.YtfiejicdlaknnaaW.PrintLast Go.Proofs.YtfiejicdlaknnaaW.PrintMore
theorem l1In_yes (a b c : Int) (w : World) (h1 : b ≤ a) (h2 : a ≤ c) : Calls Try.prog 49 #[.int .i64 a, .int .i64 b, .int .i64 c] w fun e w' => e = .returned (.bool true) ∧ Drawn0 w w' :=
 spec_l1In.calls a b c true w (by unfold spec_l1In.f; rw [if_pos (by omega)]; simp [h2])
theorem l1In_no (a b c : Int) (w : World) (h1 : ¬ (b ≤ a ∧ a ≤ c)) : Calls Try.prog 49 #[.int .i64 a, .int .i64 b, .int .i64 c] w fun e w' => e = .returned (.bool false) ∧ Drawn0 w w' :=
 spec_l1In.calls a b c false w (by unfold spec_l1In.f; split <;> simp; omega)
theorem l1In_is (a b c : Int) : spec_l1In.f a b c = some (decide (b ≤ a ∧ a ≤ c)) := by
 unfold spec_l1In.f
 by_cases h : a ≥ b
 ·rw [if_pos h]; simp [h]
 ·rw [if_neg h]; simp [h]
def spec_IsTable.f (a0_0 : Int) (a0_1 : Int) : Option (Bool) := (spec_l1In.f a0_0 0 5).bind fun t102 => (if t102 = true then (if 0 ≤ a0_0 then ((spec_l1In.f a0_1 0 (wrap64 ((shl .i64 1 (shl .u64 1 a0_0)) - 1))).bind fun t103 => (some t103)) else (none)) else (some false))
theorem isTable_at (n K w : Int) (r : Bool) (h0 : 0 ≤ n) (h5 : n ≤ 5) (hK : wrap64 ((shl .i64 1 (shl .u64 1 n)) - 1) = K) (h : spec_IsTable.f n w = some r) : spec_l1In.f w 0 K = some r := by
 unfold spec_IsTable.f at h
 rw [l1In_is, hK] at h
 simp only [Option.bind_some, h0, h5, and_self, decide_true, if_true] at h
 rw [l1In_is] at h ⊢
 simpa using h
set_option maxHeartbeats 1600000 in
set_option maxRecDepth 100000 in
theorem spec_IsTable.calls (a0_0 : Int) (a0_1 : Int) (r : Bool) (w : World) (h : spec_IsTable.f a0_0 a0_1 = some r) :
  Calls Try.prog 36 #[.agg #[.int .i64 a0_0, .int .i64 a0_1]] w fun e w' => e = .returned (.bool r) ∧ Below w.heap.size w w' := by
 by_cases hr : 0 ≤ a0_0 ∧ a0_0 ≤ 5
 ·obtain ⟨h0, h5⟩ := hr
  have hc : a0_0 = 0 ∨ a0_0 = 1 ∨ a0_0 = 2 ∨ a0_0 = 3 ∨ a0_0 = 4 ∨ a0_0 = 5 := by omega
  rcases hc with rfl | rfl | rfl | rfl | rfl | rfl
  ·have A7 := zA (isTable_at 0 1 a0_1 r (by decide) (by decide) (by decide +kernel) h)
   clear h h0 h5
   go_enter Try.func36, Try.ntmps36
   go_wp2_with (fail)
   go_quiet ((first | (go_at_call 49; (with_reducible refine (l1In_yes 0 0 5 _ (by decide) (by decide)).mono ?_); rintro e w' ⟨rfl, ⟨nd, rfl⟩⟩; (try first | exact ⟨rfl, _, World.drewN_drewN _ _ _⟩ | exact ⟨rfl, _, Eq.trans (World.drewN_drewN _ _ _) (congrArg (World.drewN _) (Nat.add_assoc _ _ _))⟩)) | (go_at_call 49; (with_reducible refine (spec_l1In.calls a0_1 0 1 r _ A7.out).mono ?_); rintro e w' ⟨rfl, ⟨nd, rfl⟩⟩; (try first | exact ⟨rfl, _, World.drewN_drewN _ _ _⟩ | exact ⟨rfl, _, Eq.trans (World.drewN_drewN _ _ _) (congrArg (World.drewN _) (Nat.add_assoc _ _ _))⟩))))
   go_wp2
   go_ret
   exact ⟨rfl, pw_below_drewN (below_alloc (Below.refl _ _) _) _⟩
  ·have A7 := zA (isTable_at 1 3 a0_1 r (by decide) (by decide) (by decide +kernel) h)
   clear h h0 h5
   go_enter Try.func36, Try.ntmps36
   go_wp2_with (fail)
   go_quiet ((first | (go_at_call 49; (with_reducible refine (l1In_yes 1 0 5 _ (by decide) (by decide)).mono ?_); rintro e w' ⟨rfl, ⟨nd, rfl⟩⟩; (try first | exact ⟨rfl, _, World.drewN_drewN _ _ _⟩ | exact ⟨rfl, _, Eq.trans (World.drewN_drewN _ _ _) (congrArg (World.drewN _) (Nat.add_assoc _ _ _))⟩)) | (go_at_call 49; (with_reducible refine (spec_l1In.calls a0_1 0 3 r _ A7.out).mono ?_); rintro e w' ⟨rfl, ⟨nd, rfl⟩⟩; (try first | exact ⟨rfl, _, World.drewN_drewN _ _ _⟩ | exact ⟨rfl, _, Eq.trans (World.drewN_drewN _ _ _) (congrArg (World.drewN _) (Nat.add_assoc _ _ _))⟩))))
   go_wp2
   go_ret
   exact ⟨rfl, pw_below_drewN (below_alloc (Below.refl _ _) _) _⟩
  ·have A7 := zA (isTable_at 2 15 a0_1 r (by decide) (by decide) (by decide +kernel) h)
   clear h h0 h5
   go_enter Try.func36, Try.ntmps36
   go_wp2_with (fail)
   go_quiet ((first | (go_at_call 49; (with_reducible refine (l1In_yes 2 0 5 _ (by decide) (by decide)).mono ?_); rintro e w' ⟨rfl, ⟨nd, rfl⟩⟩; (try first | exact ⟨rfl, _, World.drewN_drewN _ _ _⟩ | exact ⟨rfl, _, Eq.trans (World.drewN_drewN _ _ _) (congrArg (World.drewN _) (Nat.add_assoc _ _ _))⟩)) | (go_at_call 49; (with_reducible refine (spec_l1In.calls a0_1 0 15 r _ A7.out).mono ?_); rintro e w' ⟨rfl, ⟨nd, rfl⟩⟩; (try first | exact ⟨rfl, _, World.drewN_drewN _ _ _⟩ | exact ⟨rfl, _, Eq.trans (World.drewN_drewN _ _ _) (congrArg (World.drewN _) (Nat.add_assoc _ _ _))⟩))))
   go_wp2
   go_ret
   exact ⟨rfl, pw_below_drewN (below_alloc (Below.refl _ _) _) _⟩
  ·have A7 := zA (isTable_at 3 255 a0_1 r (by decide) (by decide) (by decide +kernel) h)
   clear h h0 h5
   go_enter Try.func36, Try.ntmps36
   go_wp2_with (fail)
   go_quiet ((first | (go_at_call 49; (with_reducible refine (l1In_yes 3 0 5 _ (by decide) (by decide)).mono ?_); rintro e w' ⟨rfl, ⟨nd, rfl⟩⟩; (try first | exact ⟨rfl, _, World.drewN_drewN _ _ _⟩ | exact ⟨rfl, _, Eq.trans (World.drewN_drewN _ _ _) (congrArg (World.drewN _) (Nat.add_assoc _ _ _))⟩)) | (go_at_call 49; (with_reducible refine (spec_l1In.calls a0_1 0 255 r _ A7.out).mono ?_); rintro e w' ⟨rfl, ⟨nd, rfl⟩⟩; (try first | exact ⟨rfl, _, World.drewN_drewN _ _ _⟩ | exact ⟨rfl, _, Eq.trans (World.drewN_drewN _ _ _) (congrArg (World.drewN _) (Nat.add_assoc _ _ _))⟩))))
   go_wp2
   go_ret
   exact ⟨rfl, pw_below_drewN (below_alloc (Below.refl _ _) _) _⟩
  ·have A7 := zA (isTable_at 4 65535 a0_1 r (by decide) (by decide) (by decide +kernel) h)
   clear h h0 h5
   go_enter Try.func36, Try.ntmps36
   go_wp2_with (fail)
   go_quiet ((first | (go_at_call 49; (with_reducible refine (l1In_yes 4 0 5 _ (by decide) (by decide)).mono ?_); rintro e w' ⟨rfl, ⟨nd, rfl⟩⟩; (try first | exact ⟨rfl, _, World.drewN_drewN _ _ _⟩ | exact ⟨rfl, _, Eq.trans (World.drewN_drewN _ _ _) (congrArg (World.drewN _) (Nat.add_assoc _ _ _))⟩)) | (go_at_call 49; (with_reducible refine (spec_l1In.calls a0_1 0 65535 r _ A7.out).mono ?_); rintro e w' ⟨rfl, ⟨nd, rfl⟩⟩; (try first | exact ⟨rfl, _, World.drewN_drewN _ _ _⟩ | exact ⟨rfl, _, Eq.trans (World.drewN_drewN _ _ _) (congrArg (World.drewN _) (Nat.add_assoc _ _ _))⟩))))
   go_wp2
   go_ret
   exact ⟨rfl, pw_below_drewN (below_alloc (Below.refl _ _) _) _⟩
  ·have A7 := zA (isTable_at 5 4294967295 a0_1 r (by decide) (by decide) (by decide +kernel) h)
   clear h h0 h5
   go_enter Try.func36, Try.ntmps36
   go_wp2_with (fail)
   go_quiet ((first | (go_at_call 49; (with_reducible refine (l1In_yes 5 0 5 _ (by decide) (by decide)).mono ?_); rintro e w' ⟨rfl, ⟨nd, rfl⟩⟩; (try first | exact ⟨rfl, _, World.drewN_drewN _ _ _⟩ | exact ⟨rfl, _, Eq.trans (World.drewN_drewN _ _ _) (congrArg (World.drewN _) (Nat.add_assoc _ _ _))⟩)) | (go_at_call 49; (with_reducible refine (spec_l1In.calls a0_1 0 4294967295 r _ A7.out).mono ?_); rintro e w' ⟨rfl, ⟨nd, rfl⟩⟩; (try first | exact ⟨rfl, _, World.drewN_drewN _ _ _⟩ | exact ⟨rfl, _, Eq.trans (World.drewN_drewN _ _ _) (congrArg (World.drewN _) (Nat.add_assoc _ _ _))⟩))))
   go_wp2
   go_ret
   exact ⟨rfl, pw_below_drewN (below_alloc (Below.refl _ _) _) _⟩
 ·have hf : r = false := by
   unfold spec_IsTable.f at h
   rw [l1In_is] at h
   simpa [hr] using h.symm
  subst hf
  clear h
  go_enter Try.func36, Try.ntmps36
  go_wp2_with (fail)
  go_quiet ((first | (go_at_call 49; (with_reducible refine (l1In_no a0_0 0 5 _ hr).mono ?_); rintro e w' ⟨rfl, ⟨nd, rfl⟩⟩; (try first | exact ⟨rfl, _, World.drewN_drewN _ _ _⟩ | exact ⟨rfl, _, Eq.trans (World.drewN_drewN _ _ _) (congrArg (World.drewN _) (Nat.add_assoc _ _ _))⟩))))
  go_wp2
  go_ret
  exact ⟨rfl, pw_below_drewN (below_alloc (Below.refl _ _) _) _⟩
end Go.Proofs.Ytfiejicdlaknnaa.P

namespace Go.Proofs.Ytfiejicdlaknnaa.P
open Go.RowKit Go.Proofs.YtfiejicdlaknnaaW.PrintWords Go.Proofs.YtfiejicdlaknnaaW.PrintLast Go.Proofs.YtfiejicdlaknnaaW.PrintMore
attribute [local go_sem] max2_int min2_int max_two min_two max_three min_three max_four min_four   -- for this text's walks alone
set_option linter.unusedVariables false
set_option linter.unusedSimpArgs false

attribute [local go_sem] fld25_0 fld25_1
/-! ### impl_isBits: function 50 -/
def impl_isBits.f (a0 : Int) : Option (Bool) := if a0 ≥ 0 then (some (decide (a0 ≤ 5))) else (some false)
set_option maxHeartbeats 8000000 in
set_option maxRecDepth 100000 in
theorem impl_isBits.calls (a0 : Int) (r : Bool) (w : World) (h : impl_isBits.f a0 = some r) :
  Calls Try.prog 50 #[.int .i64 a0] w fun e w' => e = .returned (.bool r) ∧ Drawn0 w w' := by
 have H : (if a0 ≥ 0 then (some (decide (a0 ≤ 5))) else (some false)) = some r := h
 clear h
 by_cases c2 : a0 ≥ 0
 ·rw [if_pos c2] at H
  have c2b0 : decide (0 ≤ a0) = true := decide_eq_true c2
  clear c2
  obtain rfl := Option.some.inj H
  go_enter Try.func50, Try.ntmps50
  go_wp2
  go_ret
  exact ⟨by first | rfl | (simp; done) | (simp [*]; done), by repeat (first | exact Drawn0.refl _ | apply Drawn0.step)⟩
 ·rw [if_neg c2] at H
  have c2b0 : decide (0 ≤ a0) = false := decide_eq_false c2
  clear c2
  obtain rfl := Option.some.inj H
  go_enter Try.func50, Try.ntmps50
  go_wp2
  go_ret
  exact ⟨by first | rfl | (simp; done) | (simp [*]; done), by repeat (first | exact Drawn0.refl _ | apply Drawn0.step)⟩

/-! ### impl_Table_size: function 63 -/
def impl_Table_size.f (a0_0 : Int) (a0_1 : Int) : Option (Int) := if 0 ≤ a0_0 then (some (shl .i64 1 a0_0)) else (none)
set_option maxHeartbeats 8000000 in
set_option maxRecDepth 100000 in
theorem impl_Table_size.calls (a0_0 : Int) (a0_1 : Int) (r : Int) (w : World) (h : impl_Table_size.f a0_0 a0_1 = some r) :
  Calls Try.prog 63 #[.agg #[.int .i64 a0_0, .int .i64 a0_1]] w fun e w' => e = .returned (.int .i64 r) ∧ Below w.heap.size w w' := by
 have hu25 := Try.underlying25
 have HB := zA (Below.refl w.heap.size w)
 have H : (if 0 ≤ a0_0 then (some (shl .i64 1 a0_0)) else (none)) = some r := h
 clear h
 by_cases c2 : 0 ≤ a0_0
 ·rw [if_pos c2] at H
  have c2b0 := eq_true c2
  have c2b1 : decide (0 ≤ a0_0) = true := decide_eq_true c2
  clear c2
  obtain ⟨ji3, hji3⟩ : ∃ j_ : Int, (shl .i64 1 a0_0) = j_ := ⟨_, rfl⟩
  replace H : (some ji3) = some r := by first | (rw [hji3] at H; exact H) | (simp only [hji3] at H ⊢; exact H)
  have hji3_ : (IntKind.i64.wrap (1 * 2 ^ min a0_0.toNat 64)) = ji3 := hji3
  have hji3z : a0_0 ≤ 64 → (IntKind.i64.wrap (1 * 2 ^ a0_0.toNat)) = ji3 := shl_small hji3
  have hji3u : (IntKind.i64.wrap (2 ^ min a0_0.toNat 64)) = ji3 := by have h_ := hji3_; rw [Int.one_mul] at h_; exact h_
  have hji3v : a0_0 ≤ 64 → (IntKind.i64.wrap (2 ^ a0_0.toNat)) = ji3 := fun hle_ => by have h_ := hji3z hle_; rw [Int.one_mul] at h_; exact h_
  have hji3y : (wrap64 (1 * 2 ^ min a0_0.toNat 64)) = ji3 := (i64_w _).symm.trans hji3_
  have hji3x : a0_0 ≤ 64 → (wrap64 (1 * 2 ^ a0_0.toNat)) = ji3 := fun h_ => (i64_w _).symm.trans (hji3z h_)
  obtain rfl := Option.some.inj H
  go_enter Try.func63, Try.ntmps63
  go_wp2_with (first | ((with_reducible refine gate_dst (N := 1) rfl ?_); refine box_event ?hg (N := 1) ?hd (cs := #[.int .i64 a0_0, .int .i64 a0_1]) (t := 25) ?hr ?_; (case hd => rfl); (case hg => rfl); (case hr => exact zH); intro gb183 hg w4 hbox hb; have BK183 := zA (hbox); have GW183 := zg HB hg; have GE183 := zg HB hg; replace HB := zA (below_step (zB HB) hb); clear hb hbox hg; have hcz5_0 := zc0 BK183; have hcz5_1 := zc1 BK183; have hfz5_0 := blk_frozen BK183.out 0; have hfz5_1 := blk_frozen BK183.out 1))
  go_ret
  exact ⟨by first | rfl | (simp [errW_none, errW_some] <;> rfl) | (simp only [← hji3]; first | rfl | (simp [errW_none, errW_some] <;> rfl)) | (simp [*, errW_none, errW_some] <;> rfl), zB1 HB GE183⟩
 ·rw [if_neg c2] at H
  exact absurd H (by simp)

/-! ### impl_Table_at: function 77 -/
def impl_Table_at.f (a0_0 : Int) (a0_1 : Int) (a1 : Int) : Option (Int) := if 0 ≤ a1 then (some (Go.bits .and .i64 (shr .i64 a0_1 a1) 1)) else (none)
set_option maxHeartbeats 8000000 in
set_option maxRecDepth 100000 in
theorem impl_Table_at.calls (a0_0 : Int) (a0_1 : Int) (a1 : Int) (r : Int) (w : World) (h : impl_Table_at.f a0_0 a0_1 a1 = some r) :
  Calls Try.prog 77 #[.agg #[.int .i64 a0_0, .int .i64 a0_1], .int .i64 a1] w fun e w' => e = .returned (.int .i64 r) ∧ Below w.heap.size w w' := by
 have hu25 := Try.underlying25
 have HB := zA (Below.refl w.heap.size w)
 have H := h
 unfold impl_Table_at.f at H
 clear h
 by_cases c3 : 0 ≤ a1
 ·rw [if_pos c3] at H
  have c3b0 := eq_true c3
  have c3b1 : decide (0 ≤ a1) = true := decide_eq_true c3
  clear c3
  obtain ⟨ji4, hji4⟩ : ∃ j_ : Int, (shr .i64 a0_1 a1) = j_ := ⟨_, rfl⟩
  replace H : (some (Go.bits .and .i64 (ji4) 1)) = some r := by first | (rw [hji4] at H; exact H) | (simp only [hji4] at H ⊢; exact H)
  have hji4_ : (a0_1 / 2 ^ min a1.toNat 64) = ji4 := hji4
  have hji4z : a1 ≤ 64 → (a0_1 / 2 ^ a1.toNat) = ji4 := shr_small hji4
  obtain rfl := Option.some.inj H
  go_enter Try.func77, Try.ntmps77
  go_wp2_with (first | ((with_reducible refine gate_dst (N := 2) rfl ?_); refine box_event ?hg (N := 2) ?hd (cs := #[.int .i64 a0_0, .int .i64 a0_1]) (t := 25) ?hr ?_; (case hd => rfl); (case hg => rfl); (case hr => exact zH); intro gb189 hg w5 hbox hb; have BK189 := zA (hbox); have GW189 := zg HB hg; have GE189 := zg HB hg; replace HB := zA (below_step (zB HB) hb); clear hb hbox hg; have hcz6_0 := zc0 BK189; have hcz6_1 := zc1 BK189; have hfz6_0 := blk_frozen BK189.out 0; have hfz6_1 := blk_frozen BK189.out 1))
  go_ret
  exact ⟨by first | rfl | (simp [errW_none, errW_some] <;> rfl) | (simp only [← hji4]; first | rfl | (simp [errW_none, errW_some] <;> rfl)) | (simp [*, errW_none, errW_some] <;> rfl), zB1 HB GE189⟩
 ·rw [if_neg c3] at H
  exact absurd H (by simp)

/-! ### impl_Term_holds: function 60 -/
def impl_Term_holds.f (a0_0 : Int) (a0_1 : Int) (a1 : Int) : Option (Bool) := some ((Go.bits .and .i64 a1 a0_0) == a0_1)
set_option maxHeartbeats 8000000 in
set_option maxRecDepth 100000 in
theorem impl_Term_holds.calls (a0_0 : Int) (a0_1 : Int) (a1 : Int) (r : Bool) (w : World) (h : impl_Term_holds.f a0_0 a0_1 a1 = some r) :
  Calls Try.prog 60 #[.agg #[.int .i64 a0_0, .int .i64 a0_1], .int .i64 a1] w fun e w' => e = .returned (.bool r) ∧ Below w.heap.size w w' := by
 have hu33 := Try.underlying33
 have HB := zA (Below.refl w.heap.size w)
 have H : (some ((Go.bits .and .i64 a1 a0_0) == a0_1)) = some r := h
 clear h
 obtain rfl := Option.some.inj H
 go_enter Try.func60, Try.ntmps60
 go_wp2_with (first | ((with_reducible refine gate_dst (N := 2) rfl ?_); refine box_event ?hg (N := 2) ?hd (cs := #[.int .i64 a0_0, .int .i64 a0_1]) (t := 33) ?hr ?_; (case hd => rfl); (case hg => rfl); (case hr => exact zH); intro gb594 hg w3 hbox hb; have BK594 := zA (hbox); have GW594 := zg HB hg; have GE594 := zg HB hg; replace HB := zA (below_step (zB HB) hb); clear hb hbox hg; have hcz4_0 := zc0 BK594; have hcz4_1 := zc1 BK594; have hfz4_0 := blk_frozen BK594.out 0; have hfz4_1 := blk_frozen BK594.out 1))
 go_ret
 exact ⟨zE, zB1 HB GE594⟩

end Go.Proofs.Ytfiejicdlaknnaa.P

namespace Go.Proofs.Ytfiejicdlaknnaa.P
set_option linter.unusedVariables false
set_option linter.unusedSimpArgs false
open Go.RowKit Go.Proofs.YtfiejicdlaknnaaW.PrintWords Go.Proofs.YtfiejicdlaknnaaW.PrintLast Go.Proofs.YtfiejicdlaknnaaW.PrintMore
def spec_IsTerm.f (a0 : Int) (a1_0 : Int) (a1_1 : Int) : Option (Bool) := (spec_l1In.f a0 0 5).bind fun t102 => (if t102 = true then (if 0 ≤ a0 then ((spec_l1In.f a1_0 0 (wrap64 ((shl .i64 1 a0) - 1))).bind fun t103 => (if t103 = true then ((spec_l1In.f a1_1 0 a1_0).bind fun t104 => (if t104 = true then (some ((Go.bits .and .i64 a1_1 a1_0) == a1_1)) else (some false))) else (some false))) else (none)) else (some false))
theorem isTerm_at (n K m v : Int) (h0 : 0 ≤ n) (h5 : n ≤ 5) (hK : wrap64 ((shl .i64 1 n) - 1) = K) :
  spec_IsTerm.f n m v = some (if 0 ≤ m ∧ m ≤ K then (if 0 ≤ v ∧ v ≤ m then (Go.bits .and .i64 v m) == v else false) else false) := by
 unfold spec_IsTerm.f
 simp only [l1In_is, hK, Option.bind_some, h0, h5, and_self, decide_true, if_true, decide_eq_true_eq]
 by_cases hm : 0 ≤ m ∧ m ≤ K
 ·rw [if_pos hm, if_pos hm]
  by_cases hv : 0 ≤ v ∧ v ≤ m
  ·rw [if_pos hv, if_pos hv]
  ·rw [if_neg hv, if_neg hv]
 ·rw [if_neg hm, if_neg hm]
set_option maxHeartbeats 4000000 in
set_option maxRecDepth 100000 in
theorem spec_IsTerm.calls (a0 : Int) (a1_0 : Int) (a1_1 : Int) (r : Bool) (w : World) (h : spec_IsTerm.f a0 a1_0 a1_1 = some r) :
  Calls Try.prog 20 #[.int .i64 a0, .agg #[.int .i64 a1_0, .int .i64 a1_1]] w fun e w' => e = .returned (.bool r) ∧ Below w.heap.size w w' := by
 by_cases hr : 0 ≤ a0 ∧ a0 ≤ 5
 ·obtain ⟨h0, h5⟩ := hr
  have hc : a0 = 0 ∨ a0 = 1 ∨ a0 = 2 ∨ a0 = 3 ∨ a0 = 4 ∨ a0 = 5 := by omega
  rcases hc with rfl | rfl | rfl | rfl | rfl | rfl
  ·rw [isTerm_at 0 0 a1_0 a1_1 (by decide) (by decide) (by decide +kernel)] at h
   clear h0 h5
   by_cases hm : 0 ≤ a1_0 ∧ a1_0 ≤ 0
   ·rw [if_pos hm] at h
    by_cases hv : 0 ≤ a1_1 ∧ a1_1 ≤ a1_0
    ·rw [if_pos hv] at h
     obtain rfl := Option.some.inj h
     clear h
     have HM := zA hm
     have HV := zA hv
     clear hm hv
     go_enter Try.func20, Try.ntmps20
     go_wp2_with (fail)
     go_quiet ((first | (go_at_call 49; (with_reducible refine (l1In_yes 0 0 5 _ (by decide) (by decide)).mono ?_); rintro e w' ⟨rfl, ⟨nd, rfl⟩⟩; (try first | exact ⟨rfl, _, World.drewN_drewN _ _ _⟩ | exact ⟨rfl, _, Eq.trans (World.drewN_drewN _ _ _) (congrArg (World.drewN _) (Nat.add_assoc _ _ _))⟩)) | (go_at_call 49; (with_reducible refine (l1In_yes a1_0 0 0 _ HM.out.1 HM.out.2).mono ?_); rintro e w' ⟨rfl, ⟨nd, rfl⟩⟩; (try first | exact ⟨rfl, _, World.drewN_drewN _ _ _⟩ | exact ⟨rfl, _, Eq.trans (World.drewN_drewN _ _ _) (congrArg (World.drewN _) (Nat.add_assoc _ _ _))⟩)) | (go_at_call 49; (with_reducible refine (l1In_yes a1_1 0 a1_0 _ HV.out.1 HV.out.2).mono ?_); rintro e w' ⟨rfl, ⟨nd, rfl⟩⟩; (try first | exact ⟨rfl, _, World.drewN_drewN _ _ _⟩ | exact ⟨rfl, _, Eq.trans (World.drewN_drewN _ _ _) (congrArg (World.drewN _) (Nat.add_assoc _ _ _))⟩))))
     go_wp2
     go_ret
     exact ⟨rfl, pw_below_drewN (below_alloc (Below.refl _ _) _) _⟩
    ·rw [if_neg hv] at h
     obtain rfl := Option.some.inj h
     clear h
     have HM := zA hm
     have HV := zA hv
     clear hm hv
     go_enter Try.func20, Try.ntmps20
     go_wp2_with (fail)
     go_quiet ((first | (go_at_call 49; (with_reducible refine (l1In_yes 0 0 5 _ (by decide) (by decide)).mono ?_); rintro e w' ⟨rfl, ⟨nd, rfl⟩⟩; (try first | exact ⟨rfl, _, World.drewN_drewN _ _ _⟩ | exact ⟨rfl, _, Eq.trans (World.drewN_drewN _ _ _) (congrArg (World.drewN _) (Nat.add_assoc _ _ _))⟩)) | (go_at_call 49; (with_reducible refine (l1In_yes a1_0 0 0 _ HM.out.1 HM.out.2).mono ?_); rintro e w' ⟨rfl, ⟨nd, rfl⟩⟩; (try first | exact ⟨rfl, _, World.drewN_drewN _ _ _⟩ | exact ⟨rfl, _, Eq.trans (World.drewN_drewN _ _ _) (congrArg (World.drewN _) (Nat.add_assoc _ _ _))⟩)) | (go_at_call 49; (with_reducible refine (l1In_no a1_1 0 a1_0 _ HV.out).mono ?_); rintro e w' ⟨rfl, ⟨nd, rfl⟩⟩; (try first | exact ⟨rfl, _, World.drewN_drewN _ _ _⟩ | exact ⟨rfl, _, Eq.trans (World.drewN_drewN _ _ _) (congrArg (World.drewN _) (Nat.add_assoc _ _ _))⟩))))
     go_wp2
     go_ret
     exact ⟨rfl, pw_below_drewN (below_alloc (Below.refl _ _) _) _⟩
   ·rw [if_neg hm] at h
    obtain rfl := Option.some.inj h
    clear h
    have HM := zA hm
    clear hm
    go_enter Try.func20, Try.ntmps20
    go_wp2_with (fail)
    go_quiet ((first | (go_at_call 49; (with_reducible refine (l1In_yes 0 0 5 _ (by decide) (by decide)).mono ?_); rintro e w' ⟨rfl, ⟨nd, rfl⟩⟩; (try first | exact ⟨rfl, _, World.drewN_drewN _ _ _⟩ | exact ⟨rfl, _, Eq.trans (World.drewN_drewN _ _ _) (congrArg (World.drewN _) (Nat.add_assoc _ _ _))⟩)) | (go_at_call 49; (with_reducible refine (l1In_no a1_0 0 0 _ HM.out).mono ?_); rintro e w' ⟨rfl, ⟨nd, rfl⟩⟩; (try first | exact ⟨rfl, _, World.drewN_drewN _ _ _⟩ | exact ⟨rfl, _, Eq.trans (World.drewN_drewN _ _ _) (congrArg (World.drewN _) (Nat.add_assoc _ _ _))⟩))))
    go_wp2
    go_ret
    exact ⟨rfl, pw_below_drewN (below_alloc (Below.refl _ _) _) _⟩
  ·rw [isTerm_at 1 1 a1_0 a1_1 (by decide) (by decide) (by decide +kernel)] at h
   clear h0 h5
   by_cases hm : 0 ≤ a1_0 ∧ a1_0 ≤ 1
   ·rw [if_pos hm] at h
    by_cases hv : 0 ≤ a1_1 ∧ a1_1 ≤ a1_0
    ·rw [if_pos hv] at h
     obtain rfl := Option.some.inj h
     clear h
     have HM := zA hm
     have HV := zA hv
     clear hm hv
     go_enter Try.func20, Try.ntmps20
     go_wp2_with (fail)
     go_quiet ((first | (go_at_call 49; (with_reducible refine (l1In_yes 1 0 5 _ (by decide) (by decide)).mono ?_); rintro e w' ⟨rfl, ⟨nd, rfl⟩⟩; (try first | exact ⟨rfl, _, World.drewN_drewN _ _ _⟩ | exact ⟨rfl, _, Eq.trans (World.drewN_drewN _ _ _) (congrArg (World.drewN _) (Nat.add_assoc _ _ _))⟩)) | (go_at_call 49; (with_reducible refine (l1In_yes a1_0 0 1 _ HM.out.1 HM.out.2).mono ?_); rintro e w' ⟨rfl, ⟨nd, rfl⟩⟩; (try first | exact ⟨rfl, _, World.drewN_drewN _ _ _⟩ | exact ⟨rfl, _, Eq.trans (World.drewN_drewN _ _ _) (congrArg (World.drewN _) (Nat.add_assoc _ _ _))⟩)) | (go_at_call 49; (with_reducible refine (l1In_yes a1_1 0 a1_0 _ HV.out.1 HV.out.2).mono ?_); rintro e w' ⟨rfl, ⟨nd, rfl⟩⟩; (try first | exact ⟨rfl, _, World.drewN_drewN _ _ _⟩ | exact ⟨rfl, _, Eq.trans (World.drewN_drewN _ _ _) (congrArg (World.drewN _) (Nat.add_assoc _ _ _))⟩))))
     go_wp2
     go_ret
     exact ⟨rfl, pw_below_drewN (below_alloc (Below.refl _ _) _) _⟩
    ·rw [if_neg hv] at h
     obtain rfl := Option.some.inj h
     clear h
     have HM := zA hm
     have HV := zA hv
     clear hm hv
     go_enter Try.func20, Try.ntmps20
     go_wp2_with (fail)
     go_quiet ((first | (go_at_call 49; (with_reducible refine (l1In_yes 1 0 5 _ (by decide) (by decide)).mono ?_); rintro e w' ⟨rfl, ⟨nd, rfl⟩⟩; (try first | exact ⟨rfl, _, World.drewN_drewN _ _ _⟩ | exact ⟨rfl, _, Eq.trans (World.drewN_drewN _ _ _) (congrArg (World.drewN _) (Nat.add_assoc _ _ _))⟩)) | (go_at_call 49; (with_reducible refine (l1In_yes a1_0 0 1 _ HM.out.1 HM.out.2).mono ?_); rintro e w' ⟨rfl, ⟨nd, rfl⟩⟩; (try first | exact ⟨rfl, _, World.drewN_drewN _ _ _⟩ | exact ⟨rfl, _, Eq.trans (World.drewN_drewN _ _ _) (congrArg (World.drewN _) (Nat.add_assoc _ _ _))⟩)) | (go_at_call 49; (with_reducible refine (l1In_no a1_1 0 a1_0 _ HV.out).mono ?_); rintro e w' ⟨rfl, ⟨nd, rfl⟩⟩; (try first | exact ⟨rfl, _, World.drewN_drewN _ _ _⟩ | exact ⟨rfl, _, Eq.trans (World.drewN_drewN _ _ _) (congrArg (World.drewN _) (Nat.add_assoc _ _ _))⟩))))
     go_wp2
     go_ret
     exact ⟨rfl, pw_below_drewN (below_alloc (Below.refl _ _) _) _⟩
   ·rw [if_neg hm] at h
    obtain rfl := Option.some.inj h
    clear h
    have HM := zA hm
    clear hm
    go_enter Try.func20, Try.ntmps20
    go_wp2_with (fail)
    go_quiet ((first | (go_at_call 49; (with_reducible refine (l1In_yes 1 0 5 _ (by decide) (by decide)).mono ?_); rintro e w' ⟨rfl, ⟨nd, rfl⟩⟩; (try first | exact ⟨rfl, _, World.drewN_drewN _ _ _⟩ | exact ⟨rfl, _, Eq.trans (World.drewN_drewN _ _ _) (congrArg (World.drewN _) (Nat.add_assoc _ _ _))⟩)) | (go_at_call 49; (with_reducible refine (l1In_no a1_0 0 1 _ HM.out).mono ?_); rintro e w' ⟨rfl, ⟨nd, rfl⟩⟩; (try first | exact ⟨rfl, _, World.drewN_drewN _ _ _⟩ | exact ⟨rfl, _, Eq.trans (World.drewN_drewN _ _ _) (congrArg (World.drewN _) (Nat.add_assoc _ _ _))⟩))))
    go_wp2
    go_ret
    exact ⟨rfl, pw_below_drewN (below_alloc (Below.refl _ _) _) _⟩
  ·rw [isTerm_at 2 3 a1_0 a1_1 (by decide) (by decide) (by decide +kernel)] at h
   clear h0 h5
   by_cases hm : 0 ≤ a1_0 ∧ a1_0 ≤ 3
   ·rw [if_pos hm] at h
    by_cases hv : 0 ≤ a1_1 ∧ a1_1 ≤ a1_0
    ·rw [if_pos hv] at h
     obtain rfl := Option.some.inj h
     clear h
     have HM := zA hm
     have HV := zA hv
     clear hm hv
     go_enter Try.func20, Try.ntmps20
     go_wp2_with (fail)
     go_quiet ((first | (go_at_call 49; (with_reducible refine (l1In_yes 2 0 5 _ (by decide) (by decide)).mono ?_); rintro e w' ⟨rfl, ⟨nd, rfl⟩⟩; (try first | exact ⟨rfl, _, World.drewN_drewN _ _ _⟩ | exact ⟨rfl, _, Eq.trans (World.drewN_drewN _ _ _) (congrArg (World.drewN _) (Nat.add_assoc _ _ _))⟩)) | (go_at_call 49; (with_reducible refine (l1In_yes a1_0 0 3 _ HM.out.1 HM.out.2).mono ?_); rintro e w' ⟨rfl, ⟨nd, rfl⟩⟩; (try first | exact ⟨rfl, _, World.drewN_drewN _ _ _⟩ | exact ⟨rfl, _, Eq.trans (World.drewN_drewN _ _ _) (congrArg (World.drewN _) (Nat.add_assoc _ _ _))⟩)) | (go_at_call 49; (with_reducible refine (l1In_yes a1_1 0 a1_0 _ HV.out.1 HV.out.2).mono ?_); rintro e w' ⟨rfl, ⟨nd, rfl⟩⟩; (try first | exact ⟨rfl, _, World.drewN_drewN _ _ _⟩ | exact ⟨rfl, _, Eq.trans (World.drewN_drewN _ _ _) (congrArg (World.drewN _) (Nat.add_assoc _ _ _))⟩))))
     go_wp2
     go_ret
     exact ⟨rfl, pw_below_drewN (below_alloc (Below.refl _ _) _) _⟩
    ·rw [if_neg hv] at h
     obtain rfl := Option.some.inj h
     clear h
     have HM := zA hm
     have HV := zA hv
     clear hm hv
     go_enter Try.func20, Try.ntmps20
     go_wp2_with (fail)
     go_quiet ((first | (go_at_call 49; (with_reducible refine (l1In_yes 2 0 5 _ (by decide) (by decide)).mono ?_); rintro e w' ⟨rfl, ⟨nd, rfl⟩⟩; (try first | exact ⟨rfl, _, World.drewN_drewN _ _ _⟩ | exact ⟨rfl, _, Eq.trans (World.drewN_drewN _ _ _) (congrArg (World.drewN _) (Nat.add_assoc _ _ _))⟩)) | (go_at_call 49; (with_reducible refine (l1In_yes a1_0 0 3 _ HM.out.1 HM.out.2).mono ?_); rintro e w' ⟨rfl, ⟨nd, rfl⟩⟩; (try first | exact ⟨rfl, _, World.drewN_drewN _ _ _⟩ | exact ⟨rfl, _, Eq.trans (World.drewN_drewN _ _ _) (congrArg (World.drewN _) (Nat.add_assoc _ _ _))⟩)) | (go_at_call 49; (with_reducible refine (l1In_no a1_1 0 a1_0 _ HV.out).mono ?_); rintro e w' ⟨rfl, ⟨nd, rfl⟩⟩; (try first | exact ⟨rfl, _, World.drewN_drewN _ _ _⟩ | exact ⟨rfl, _, Eq.trans (World.drewN_drewN _ _ _) (congrArg (World.drewN _) (Nat.add_assoc _ _ _))⟩))))
     go_wp2
     go_ret
     exact ⟨rfl, pw_below_drewN (below_alloc (Below.refl _ _) _) _⟩
   ·rw [if_neg hm] at h
    obtain rfl := Option.some.inj h
    clear h
    have HM := zA hm
    clear hm
    go_enter Try.func20, Try.ntmps20
    go_wp2_with (fail)
    go_quiet ((first | (go_at_call 49; (with_reducible refine (l1In_yes 2 0 5 _ (by decide) (by decide)).mono ?_); rintro e w' ⟨rfl, ⟨nd, rfl⟩⟩; (try first | exact ⟨rfl, _, World.drewN_drewN _ _ _⟩ | exact ⟨rfl, _, Eq.trans (World.drewN_drewN _ _ _) (congrArg (World.drewN _) (Nat.add_assoc _ _ _))⟩)) | (go_at_call 49; (with_reducible refine (l1In_no a1_0 0 3 _ HM.out).mono ?_); rintro e w' ⟨rfl, ⟨nd, rfl⟩⟩; (try first | exact ⟨rfl, _, World.drewN_drewN _ _ _⟩ | exact ⟨rfl, _, Eq.trans (World.drewN_drewN _ _ _) (congrArg (World.drewN _) (Nat.add_assoc _ _ _))⟩))))
    go_wp2
    go_ret
    exact ⟨rfl, pw_below_drewN (below_alloc (Below.refl _ _) _) _⟩
  ·rw [isTerm_at 3 7 a1_0 a1_1 (by decide) (by decide) (by decide +kernel)] at h
   clear h0 h5
   by_cases hm : 0 ≤ a1_0 ∧ a1_0 ≤ 7
   ·rw [if_pos hm] at h
    by_cases hv : 0 ≤ a1_1 ∧ a1_1 ≤ a1_0
    ·rw [if_pos hv] at h
     obtain rfl := Option.some.inj h
     clear h
     have HM := zA hm
     have HV := zA hv
     clear hm hv
     go_enter Try.func20, Try.ntmps20
     go_wp2_with (fail)
     go_quiet ((first | (go_at_call 49; (with_reducible refine (l1In_yes 3 0 5 _ (by decide) (by decide)).mono ?_); rintro e w' ⟨rfl, ⟨nd, rfl⟩⟩; (try first | exact ⟨rfl, _, World.drewN_drewN _ _ _⟩ | exact ⟨rfl, _, Eq.trans (World.drewN_drewN _ _ _) (congrArg (World.drewN _) (Nat.add_assoc _ _ _))⟩)) | (go_at_call 49; (with_reducible refine (l1In_yes a1_0 0 7 _ HM.out.1 HM.out.2).mono ?_); rintro e w' ⟨rfl, ⟨nd, rfl⟩⟩; (try first | exact ⟨rfl, _, World.drewN_drewN _ _ _⟩ | exact ⟨rfl, _, Eq.trans (World.drewN_drewN _ _ _) (congrArg (World.drewN _) (Nat.add_assoc _ _ _))⟩)) | (go_at_call 49; (with_reducible refine (l1In_yes a1_1 0 a1_0 _ HV.out.1 HV.out.2).mono ?_); rintro e w' ⟨rfl, ⟨nd, rfl⟩⟩; (try first | exact ⟨rfl, _, World.drewN_drewN _ _ _⟩ | exact ⟨rfl, _, Eq.trans (World.drewN_drewN _ _ _) (congrArg (World.drewN _) (Nat.add_assoc _ _ _))⟩))))
     go_wp2
     go_ret
     exact ⟨rfl, pw_below_drewN (below_alloc (Below.refl _ _) _) _⟩
    ·rw [if_neg hv] at h
     obtain rfl := Option.some.inj h
     clear h
     have HM := zA hm
     have HV := zA hv
     clear hm hv
     go_enter Try.func20, Try.ntmps20
     go_wp2_with (fail)
     go_quiet ((first | (go_at_call 49; (with_reducible refine (l1In_yes 3 0 5 _ (by decide) (by decide)).mono ?_); rintro e w' ⟨rfl, ⟨nd, rfl⟩⟩; (try first | exact ⟨rfl, _, World.drewN_drewN _ _ _⟩ | exact ⟨rfl, _, Eq.trans (World.drewN_drewN _ _ _) (congrArg (World.drewN _) (Nat.add_assoc _ _ _))⟩)) | (go_at_call 49; (with_reducible refine (l1In_yes a1_0 0 7 _ HM.out.1 HM.out.2).mono ?_); rintro e w' ⟨rfl, ⟨nd, rfl⟩⟩; (try first | exact ⟨rfl, _, World.drewN_drewN _ _ _⟩ | exact ⟨rfl, _, Eq.trans (World.drewN_drewN _ _ _) (congrArg (World.drewN _) (Nat.add_assoc _ _ _))⟩)) | (go_at_call 49; (with_reducible refine (l1In_no a1_1 0 a1_0 _ HV.out).mono ?_); rintro e w' ⟨rfl, ⟨nd, rfl⟩⟩; (try first | exact ⟨rfl, _, World.drewN_drewN _ _ _⟩ | exact ⟨rfl, _, Eq.trans (World.drewN_drewN _ _ _) (congrArg (World.drewN _) (Nat.add_assoc _ _ _))⟩))))
     go_wp2
     go_ret
     exact ⟨rfl, pw_below_drewN (below_alloc (Below.refl _ _) _) _⟩
   ·rw [if_neg hm] at h
    obtain rfl := Option.some.inj h
    clear h
    have HM := zA hm
    clear hm
    go_enter Try.func20, Try.ntmps20
    go_wp2_with (fail)
    go_quiet ((first | (go_at_call 49; (with_reducible refine (l1In_yes 3 0 5 _ (by decide) (by decide)).mono ?_); rintro e w' ⟨rfl, ⟨nd, rfl⟩⟩; (try first | exact ⟨rfl, _, World.drewN_drewN _ _ _⟩ | exact ⟨rfl, _, Eq.trans (World.drewN_drewN _ _ _) (congrArg (World.drewN _) (Nat.add_assoc _ _ _))⟩)) | (go_at_call 49; (with_reducible refine (l1In_no a1_0 0 7 _ HM.out).mono ?_); rintro e w' ⟨rfl, ⟨nd, rfl⟩⟩; (try first | exact ⟨rfl, _, World.drewN_drewN _ _ _⟩ | exact ⟨rfl, _, Eq.trans (World.drewN_drewN _ _ _) (congrArg (World.drewN _) (Nat.add_assoc _ _ _))⟩))))
    go_wp2
    go_ret
    exact ⟨rfl, pw_below_drewN (below_alloc (Below.refl _ _) _) _⟩
  ·rw [isTerm_at 4 15 a1_0 a1_1 (by decide) (by decide) (by decide +kernel)] at h
   clear h0 h5
   by_cases hm : 0 ≤ a1_0 ∧ a1_0 ≤ 15
   ·rw [if_pos hm] at h
    by_cases hv : 0 ≤ a1_1 ∧ a1_1 ≤ a1_0
    ·rw [if_pos hv] at h
     obtain rfl := Option.some.inj h
     clear h
     have HM := zA hm
     have HV := zA hv
     clear hm hv
     go_enter Try.func20, Try.ntmps20
     go_wp2_with (fail)
     go_quiet ((first | (go_at_call 49; (with_reducible refine (l1In_yes 4 0 5 _ (by decide) (by decide)).mono ?_); rintro e w' ⟨rfl, ⟨nd, rfl⟩⟩; (try first | exact ⟨rfl, _, World.drewN_drewN _ _ _⟩ | exact ⟨rfl, _, Eq.trans (World.drewN_drewN _ _ _) (congrArg (World.drewN _) (Nat.add_assoc _ _ _))⟩)) | (go_at_call 49; (with_reducible refine (l1In_yes a1_0 0 15 _ HM.out.1 HM.out.2).mono ?_); rintro e w' ⟨rfl, ⟨nd, rfl⟩⟩; (try first | exact ⟨rfl, _, World.drewN_drewN _ _ _⟩ | exact ⟨rfl, _, Eq.trans (World.drewN_drewN _ _ _) (congrArg (World.drewN _) (Nat.add_assoc _ _ _))⟩)) | (go_at_call 49; (with_reducible refine (l1In_yes a1_1 0 a1_0 _ HV.out.1 HV.out.2).mono ?_); rintro e w' ⟨rfl, ⟨nd, rfl⟩⟩; (try first | exact ⟨rfl, _, World.drewN_drewN _ _ _⟩ | exact ⟨rfl, _, Eq.trans (World.drewN_drewN _ _ _) (congrArg (World.drewN _) (Nat.add_assoc _ _ _))⟩))))
     go_wp2
     go_ret
     exact ⟨rfl, pw_below_drewN (below_alloc (Below.refl _ _) _) _⟩
    ·rw [if_neg hv] at h
     obtain rfl := Option.some.inj h
     clear h
     have HM := zA hm
     have HV := zA hv
     clear hm hv
     go_enter Try.func20, Try.ntmps20
     go_wp2_with (fail)
     go_quiet ((first | (go_at_call 49; (with_reducible refine (l1In_yes 4 0 5 _ (by decide) (by decide)).mono ?_); rintro e w' ⟨rfl, ⟨nd, rfl⟩⟩; (try first | exact ⟨rfl, _, World.drewN_drewN _ _ _⟩ | exact ⟨rfl, _, Eq.trans (World.drewN_drewN _ _ _) (congrArg (World.drewN _) (Nat.add_assoc _ _ _))⟩)) | (go_at_call 49; (with_reducible refine (l1In_yes a1_0 0 15 _ HM.out.1 HM.out.2).mono ?_); rintro e w' ⟨rfl, ⟨nd, rfl⟩⟩; (try first | exact ⟨rfl, _, World.drewN_drewN _ _ _⟩ | exact ⟨rfl, _, Eq.trans (World.drewN_drewN _ _ _) (congrArg (World.drewN _) (Nat.add_assoc _ _ _))⟩)) | (go_at_call 49; (with_reducible refine (l1In_no a1_1 0 a1_0 _ HV.out).mono ?_); rintro e w' ⟨rfl, ⟨nd, rfl⟩⟩; (try first | exact ⟨rfl, _, World.drewN_drewN _ _ _⟩ | exact ⟨rfl, _, Eq.trans (World.drewN_drewN _ _ _) (congrArg (World.drewN _) (Nat.add_assoc _ _ _))⟩))))
     go_wp2
     go_ret
     exact ⟨rfl, pw_below_drewN (below_alloc (Below.refl _ _) _) _⟩
   ·rw [if_neg hm] at h
    obtain rfl := Option.some.inj h
    clear h
    have HM := zA hm
    clear hm
    go_enter Try.func20, Try.ntmps20
    go_wp2_with (fail)
    go_quiet ((first | (go_at_call 49; (with_reducible refine (l1In_yes 4 0 5 _ (by decide) (by decide)).mono ?_); rintro e w' ⟨rfl, ⟨nd, rfl⟩⟩; (try first | exact ⟨rfl, _, World.drewN_drewN _ _ _⟩ | exact ⟨rfl, _, Eq.trans (World.drewN_drewN _ _ _) (congrArg (World.drewN _) (Nat.add_assoc _ _ _))⟩)) | (go_at_call 49; (with_reducible refine (l1In_no a1_0 0 15 _ HM.out).mono ?_); rintro e w' ⟨rfl, ⟨nd, rfl⟩⟩; (try first | exact ⟨rfl, _, World.drewN_drewN _ _ _⟩ | exact ⟨rfl, _, Eq.trans (World.drewN_drewN _ _ _) (congrArg (World.drewN _) (Nat.add_assoc _ _ _))⟩))))
    go_wp2
    go_ret
    exact ⟨rfl, pw_below_drewN (below_alloc (Below.refl _ _) _) _⟩
  ·rw [isTerm_at 5 31 a1_0 a1_1 (by decide) (by decide) (by decide +kernel)] at h
   clear h0 h5
   by_cases hm : 0 ≤ a1_0 ∧ a1_0 ≤ 31
   ·rw [if_pos hm] at h
    by_cases hv : 0 ≤ a1_1 ∧ a1_1 ≤ a1_0
    ·rw [if_pos hv] at h
     obtain rfl := Option.some.inj h
     clear h
     have HM := zA hm
     have HV := zA hv
     clear hm hv
     go_enter Try.func20, Try.ntmps20
     go_wp2_with (fail)
     go_quiet ((first | (go_at_call 49; (with_reducible refine (l1In_yes 5 0 5 _ (by decide) (by decide)).mono ?_); rintro e w' ⟨rfl, ⟨nd, rfl⟩⟩; (try first | exact ⟨rfl, _, World.drewN_drewN _ _ _⟩ | exact ⟨rfl, _, Eq.trans (World.drewN_drewN _ _ _) (congrArg (World.drewN _) (Nat.add_assoc _ _ _))⟩)) | (go_at_call 49; (with_reducible refine (l1In_yes a1_0 0 31 _ HM.out.1 HM.out.2).mono ?_); rintro e w' ⟨rfl, ⟨nd, rfl⟩⟩; (try first | exact ⟨rfl, _, World.drewN_drewN _ _ _⟩ | exact ⟨rfl, _, Eq.trans (World.drewN_drewN _ _ _) (congrArg (World.drewN _) (Nat.add_assoc _ _ _))⟩)) | (go_at_call 49; (with_reducible refine (l1In_yes a1_1 0 a1_0 _ HV.out.1 HV.out.2).mono ?_); rintro e w' ⟨rfl, ⟨nd, rfl⟩⟩; (try first | exact ⟨rfl, _, World.drewN_drewN _ _ _⟩ | exact ⟨rfl, _, Eq.trans (World.drewN_drewN _ _ _) (congrArg (World.drewN _) (Nat.add_assoc _ _ _))⟩))))
     go_wp2
     go_ret
     exact ⟨rfl, pw_below_drewN (below_alloc (Below.refl _ _) _) _⟩
    ·rw [if_neg hv] at h
     obtain rfl := Option.some.inj h
     clear h
     have HM := zA hm
     have HV := zA hv
     clear hm hv
     go_enter Try.func20, Try.ntmps20
     go_wp2_with (fail)
     go_quiet ((first | (go_at_call 49; (with_reducible refine (l1In_yes 5 0 5 _ (by decide) (by decide)).mono ?_); rintro e w' ⟨rfl, ⟨nd, rfl⟩⟩; (try first | exact ⟨rfl, _, World.drewN_drewN _ _ _⟩ | exact ⟨rfl, _, Eq.trans (World.drewN_drewN _ _ _) (congrArg (World.drewN _) (Nat.add_assoc _ _ _))⟩)) | (go_at_call 49; (with_reducible refine (l1In_yes a1_0 0 31 _ HM.out.1 HM.out.2).mono ?_); rintro e w' ⟨rfl, ⟨nd, rfl⟩⟩; (try first | exact ⟨rfl, _, World.drewN_drewN _ _ _⟩ | exact ⟨rfl, _, Eq.trans (World.drewN_drewN _ _ _) (congrArg (World.drewN _) (Nat.add_assoc _ _ _))⟩)) | (go_at_call 49; (with_reducible refine (l1In_no a1_1 0 a1_0 _ HV.out).mono ?_); rintro e w' ⟨rfl, ⟨nd, rfl⟩⟩; (try first | exact ⟨rfl, _, World.drewN_drewN _ _ _⟩ | exact ⟨rfl, _, Eq.trans (World.drewN_drewN _ _ _) (congrArg (World.drewN _) (Nat.add_assoc _ _ _))⟩))))
     go_wp2
     go_ret
     exact ⟨rfl, pw_below_drewN (below_alloc (Below.refl _ _) _) _⟩
   ·rw [if_neg hm] at h
    obtain rfl := Option.some.inj h
    clear h
    have HM := zA hm
    clear hm
    go_enter Try.func20, Try.ntmps20
    go_wp2_with (fail)
    go_quiet ((first | (go_at_call 49; (with_reducible refine (l1In_yes 5 0 5 _ (by decide) (by decide)).mono ?_); rintro e w' ⟨rfl, ⟨nd, rfl⟩⟩; (try first | exact ⟨rfl, _, World.drewN_drewN _ _ _⟩ | exact ⟨rfl, _, Eq.trans (World.drewN_drewN _ _ _) (congrArg (World.drewN _) (Nat.add_assoc _ _ _))⟩)) | (go_at_call 49; (with_reducible refine (l1In_no a1_0 0 31 _ HM.out).mono ?_); rintro e w' ⟨rfl, ⟨nd, rfl⟩⟩; (try first | exact ⟨rfl, _, World.drewN_drewN _ _ _⟩ | exact ⟨rfl, _, Eq.trans (World.drewN_drewN _ _ _) (congrArg (World.drewN _) (Nat.add_assoc _ _ _))⟩))))
    go_wp2
    go_ret
    exact ⟨rfl, pw_below_drewN (below_alloc (Below.refl _ _) _) _⟩
 ·have hf : r = false := by
   unfold spec_IsTerm.f at h
   rw [l1In_is] at h
   simpa [hr] using h.symm
  subst hf
  clear h
  go_enter Try.func20, Try.ntmps20
  go_wp2_with (fail)
  go_quiet ((first | (go_at_call 49; (with_reducible refine (l1In_no a0 0 5 _ hr).mono ?_); rintro e w' ⟨rfl, ⟨nd, rfl⟩⟩; (try first | exact ⟨rfl, _, World.drewN_drewN _ _ _⟩ | exact ⟨rfl, _, Eq.trans (World.drewN_drewN _ _ _) (congrArg (World.drewN _) (Nat.add_assoc _ _ _))⟩))))
  go_wp2
  go_ret
  exact ⟨rfl, pw_below_drewN (below_alloc (Below.refl _ _) _) _⟩
end Go.Proofs.Ytfiejicdlaknnaa.P

namespace Go.Proofs.Ytfiejicdlaknnaa.P
set_option linter.unusedVariables false
set_option linter.unusedSimpArgs false
open Go.RowKit Go.Proofs.Ytfiejicdlaknnaa.Bits Go.Proofs.YtfiejicdlaknnaaW.PrintWords Go.Proofs.YtfiejicdlaknnaaW.PrintLast Go.Proofs.YtfiejicdlaknnaaW.PrintMore
theorem ret_bool {a b : Bool} (h : a = b) : Ending.returned (.bool a) = .returned (.bool b) := by rw [h]
theorem shift_one (k : Nat) (hk : k ≤ 62) (W : World) : Sem.run Try.prog (Op.shift BinOp.shl IntKind.i64 1 IntKind.i64 (k : Int)) W = .ok (.int .i64 ((2 ^ k : Nat) : Int)) W := by
 rw [shift_shl _ _ _ _ (by omega) (by simp [IntKind.bits]; omega)]
 have : IntKind.i64.wrap (1 * 2 ^ (k : Int).toNat) = ((2 ^ k : Nat) : Int) := by
  rw [← wrap_nat (2 ^ k) (Nat.pow_lt_pow_right (by decide) (by omega)), Int.toNat_natCast, Int.one_mul]
  push_cast
  rfl
 rw [this]
 rfl
theorem or_pow (p : Nat → Bool) (k : Nat) (hk : k ≤ 62) : bits .or .i64 ((wordOf p k : Nat) : Int) (wrap64 (2 ^ k)) = ((wordOf p k ||| 2 ^ k : Nat) : Int) := by
 have h1 : (2 : Nat) ^ k < 2 ^ 63 := Nat.pow_lt_pow_right (by decide) (by omega)
 have h2 := wordOf_lt p k
 have e : wrap64 ((2 : Int) ^ k) = ((2 ^ k : Nat) : Int) := by
  have : ((2 : Int) ^ k) = ((2 ^ k : Nat) : Int) := by push_cast; rfl
  rw [this]
  exact w64 (by omega) (by rw [p63] at h1; omega)
 rw [e, or_nat _ _ (by omega) h1]
end Go.Proofs.Ytfiejicdlaknnaa.P

namespace Go.Proofs.Ytfiejicdlaknnaa.P
set_option linter.unusedVariables false
set_option linter.unusedSimpArgs false
open Go.RowKit Go.Proofs.Ytfiejicdlaknnaa.Bits Go.Proofs.YtfiejicdlaknnaaW.PrintWords Go.Proofs.YtfiejicdlaknnaaW.PrintLast Go.Proofs.YtfiejicdlaknnaaW.PrintMore
def seenB (w m v : Nat) (b : Bool) : Nat → Bool
 | 0 => false
 | k + 1 => seenB w m v b k || (decide (k &&& m = v) && (w.testBit k == b))
def cubeV (w m v M : Nat) : Int := if seenB w m v false M && seenB w m v true M then 2 else if seenB w m v true M then 1 else 0
def impl_Table_cube.f (a0_0 : Int) (a0_1 : Int) (a1 : Int) (a2 : Int) : Option (Int) := if 0 ≤ a0_0 ∧ a0_0 ≤ 5 ∧ 0 ≤ a0_1 ∧ a0_1 ≤ 4294967296 ∧ 0 ≤ a1 ∧ a1 < 32 ∧ 0 ≤ a2 ∧ a2 < 32 then some (cubeV a0_1.toNat a1.toNat a2.toNat (2 ^ a0_0.toNat)) else none
set_option maxHeartbeats 1000000 in
set_option maxRecDepth 100000 in
theorem impl_Table_cube.calls (a0_0 : Int) (a0_1 : Int) (a1 : Int) (a2 : Int) (r : Int) (w : World) (h : impl_Table_cube.f a0_0 a0_1 a1 a2 = some r) :
  Calls Try.prog 68 #[.agg #[.int .i64 a0_0, .int .i64 a0_1], .int .i64 a1, .int .i64 a2] w fun e w' => e = .returned (.int .i64 r) ∧ Below w.heap.size w w' := by
 unfold impl_Table_cube.f at h
 split at h
 ·rename_i hh
  obtain ⟨g0, g1, g2, g3, g4, g5, g6, g7⟩ := hh
  obtain ⟨n, rfl⟩ := Int.eq_ofNat_of_zero_le g0
  obtain ⟨v, rfl⟩ := Int.eq_ofNat_of_zero_le g2
  obtain ⟨m, rfl⟩ := Int.eq_ofNat_of_zero_le g4
  obtain ⟨u, rfl⟩ := Int.eq_ofNat_of_zero_le g6
  simp only [Option.some.injEq, Int.toNat_natCast] at h
  have HR := Go.Lib.hid h
  clear h
  have hM : 2 ^ n ≤ 2 ^ 5 := Nat.pow_le_pow_right (by decide) (by omega)
  have hsz : impl_Table_size.f (n : Int) (v : Int) = some ((2 ^ n : Nat) : Int) := by
   unfold impl_Table_size.f
   rw [if_pos (by omega)]
   have e : shl .i64 1 (n : Int) = ((2 ^ n : Nat) : Int) := by
    unfold shl
    rw [Nat.min_eq_left (by simp [IntKind.bits]; omega), Int.toNat_natCast, Int.one_mul]
    have : ((2 : Int) ^ n) = ((2 ^ n : Nat) : Int) := by push_cast; rfl
    rw [this]
    exact wrap_nat _ (Nat.pow_lt_pow_right (by decide) (by omega))
   rw [e]
  obtain ⟨M, hMM⟩ : ∃ M, 2 ^ n = M := ⟨_, rfl⟩
  rw [hMM] at hM hsz HR
  clear hMM
  have hM2 : M ≤ 32 := hM
  clear hM
  have HS := Go.Lib.hid hsz
  clear hsz
  go_enter Try.func68, Try.ntmps68
  go_wp2_with (fail)
  refine (impl_Table_size.calls (n : Int) (v : Int) _ _ HS.out).mono ?_
  rintro e w1 ⟨rfl, hb⟩
  have HB1 := Go.Lib.hid hb
  clear hb
  have HF := Go.Lib.hid (blk_below (by simpa using blk_alloc (blk_new w (.cells #[.int .i64 (n : Int), .int .i64 (v : Int)] 25)) (.cells #[.bool false, .bool false] 90)) HB1.out : w1.heap[w.heap.size]? = some (.cells #[.int .i64 (n : Int), .int .i64 (v : Int)] 25 (0, 0)))
  have HN := Go.Lib.hid (blk_below (by simpa using blk_new (w.alloc (.cells #[.int .i64 (n : Int), .int .i64 (v : Int)] 25)) (.cells #[.bool false, .bool false] 90)) HB1.out : w1.heap[w.heap.size + 1]? = some (.cells #[.bool false, .bool false] 90 (0, 0)))
  go_wp2
  go_loopw [8, 12] (fun v8 i wr => ∃ k : Nat, k ≤ M ∧ i = .int .i64 (k : Int) ∧ wr.heap[w.heap.size + 1]? = some (.cells #[.bool (seenB v m u false k), .bool (seenB v m u true k)] 90 (0, 0)) ∧ wr.heap[w.heap.size]? = some (.cells #[.int .i64 (n : Int), .int .i64 (v : Int)] 25 (0, 0)) ∧ Below w.heap.size w wr) (fun _ i _ => M - (intOf i).toNat)
  case atStart =>
   exact ⟨0, by omega, rfl, HN.out, HF.out, below_then (((Below.refl _ _).alloc (Nat.le_refl _) _).alloc (by simp) _) (by simp; omega) HB1.out⟩
  case round =>
   obtain ⟨k, hk, rfl, hb1, hb0, hB⟩ := hrel
   have HBS := Go.Lib.hid hb1
   have HBF := Go.Lib.hid hb0
   have HBB := Go.Lib.hid hB
   clear hb1 hb0 hB
   have s0 : wr.cell? ⟨w.heap.size + 1, 0, none⟩ = some (.bool (seenB v m u false k)) := blk_cell HBS.out 0
   have s1 : wr.cell? ⟨w.heap.size + 1, 1, none⟩ = some (.bool (seenB v m u true k)) := blk_cell HBS.out 1
   have q0 : wr.cell? ⟨w.heap.size, 0, none⟩ = some (.int .i64 (n : Int)) := blk_cell HBF.out 0
   have q1 : wr.cell? ⟨w.heap.size, 1, none⟩ = some (.int .i64 (v : Int)) := blk_cell HBF.out 1
   have z0 : wr.frozen? ⟨w.heap.size + 1, 0, none⟩ = false := blk_frozen HBS.out 0
   have z1 : wr.frozen? ⟨w.heap.size + 1, 1, none⟩ = false := blk_frozen HBS.out 1
   by_cases hlt : k < M
   ·have HA := Go.Lib.hid (and_nat k m (by rw [p63]; omega) (by rw [p63]; omega))
    by_cases hin : k &&& m = u
    ·have HIN := Go.Lib.hid hin
     have ht : (bits BinOp.and IntKind.i64 (k : Int) (m : Int) == (u : Int)) = true := by rw [HA.out, hin]; exact beq_self_eq_true _
     clear hin
     have hat : impl_Table_at.f (n : Int) (v : Int) (k : Int) = some (((v.testBit k).toNat : Nat) : Int) := by
      unfold impl_Table_at.f
      rw [if_pos (by omega)]
      have e : shr .i64 (v : Int) (k : Int) = (v : Int) / 2 ^ (k : Int).toNat := by
       unfold shr
       rw [Nat.min_eq_left (by simp [IntKind.bits]; omega)]
      rw [e, bit_is (by omega) (by omega) (by omega) (by omega), Int.toNat_natCast, Int.toNat_natCast]
     have HT := Go.Lib.hid hat
     clear hat
     cases hbit : v.testBit k
     ·have HBIT := Go.Lib.hid hbit
      rw [hbit] at HT
      clear hbit
      have HT0 : Hid (impl_Table_at.f (n : Int) (v : Int) (k : Int) = some 0) := HT
      clear HT
      go_wp2_with (fail)
      refine (impl_Table_at.calls (n : Int) (v : Int) (k : Int) _ _ HT0.out).mono ?_
      rintro e w2 ⟨rfl, hb⟩
      have HB2 := Go.Lib.hid hb
      have S2 : w2.heap[w.heap.size + 1]? = some (.cells #[.bool (seenB v m u false k), .bool (seenB v m u true k)] 90 (0, 0)) := blk_below HBS.out hb
      have F2 : w2.heap[w.heap.size]? = some (.cells #[.int .i64 (n : Int), .int .i64 (v : Int)] 25 (0, 0)) := blk_below HBF.out hb
      have s0' : w2.cell? ⟨w.heap.size + 1, 0, none⟩ = some (.bool (seenB v m u false k)) := blk_cell S2 0
      have z0' : w2.frozen? ⟨w.heap.size + 1, 0, none⟩ = false := blk_frozen S2 0
      clear hb s0 s1 q0 q1 z0 z1
      go_wp2
      go_roundw
      case rel =>
       refine ⟨k + 1, by omega, by go_num, ?_, blk_far F2 (by simp) _, below_set (below_then HBB.out HBB.out.size HB2.out) (by simp)⟩
       refine blk_put S2 0 _ ?_
       simp [seenB, HIN.out, HBIT.out]
      case measure => simp [intOf]; omega
     ·have HBIT := Go.Lib.hid hbit
      rw [hbit] at HT
      clear hbit
      have HT0 : Hid (impl_Table_at.f (n : Int) (v : Int) (k : Int) = some 1) := HT
      clear HT
      go_wp2_with (fail)
      refine (impl_Table_at.calls (n : Int) (v : Int) (k : Int) _ _ HT0.out).mono ?_
      rintro e w2 ⟨rfl, hb⟩
      have HB2 := Go.Lib.hid hb
      have S2 : w2.heap[w.heap.size + 1]? = some (.cells #[.bool (seenB v m u false k), .bool (seenB v m u true k)] 90 (0, 0)) := blk_below HBS.out hb
      have F2 : w2.heap[w.heap.size]? = some (.cells #[.int .i64 (n : Int), .int .i64 (v : Int)] 25 (0, 0)) := blk_below HBF.out hb
      have s1' : w2.cell? ⟨w.heap.size + 1, 1, none⟩ = some (.bool (seenB v m u true k)) := blk_cell S2 1
      have z1' : w2.frozen? ⟨w.heap.size + 1, 1, none⟩ = false := blk_frozen S2 1
      clear hb s0 s1 q0 q1 z0 z1
      go_wp2
      go_roundw
      case rel =>
       refine ⟨k + 1, by omega, by go_num, ?_, blk_far F2 (by simp) _, below_set (below_then HBB.out HBB.out.size HB2.out) (by simp)⟩
       refine blk_put S2 1 _ ?_
       simp [seenB, HIN.out, HBIT.out]
      case measure => simp [intOf]; omega
    ·have HIN := Go.Lib.hid hin
     have ht : (bits BinOp.and IntKind.i64 (k : Int) (m : Int) == (u : Int)) = false := by rw [HA.out, beq_eq_false_iff_ne]; omega
     clear hin
     go_wp2
     go_roundw
     case rel =>
      refine ⟨k + 1, by omega, by go_num, ?_, HBF.out, HBB.out⟩
      rw [HBS.out]
      simp [seenB, HIN.out]
     case measure => simp [intOf]; omega
   ·obtain rfl : k = M := by omega
    cases hs0 : seenB v m u false k
    ·rw [hs0] at s0
     cases hs1 : seenB v m u true k
     ·rw [hs1] at s1
      have E : Hid ((0 : Int) = r) := Go.Lib.hid (by rw [← HR.out]; simp [cubeV, hs0, hs1])
      clear hs0 hs1
      go_wp2
      go_ret
      exact ⟨by rw [← E.out]; rfl, HBB.out⟩
     ·rw [hs1] at s1
      have E : Hid ((1 : Int) = r) := Go.Lib.hid (by rw [← HR.out]; simp [cubeV, hs0, hs1])
      clear hs0 hs1
      go_wp2
      go_ret
      exact ⟨by rw [← E.out]; rfl, HBB.out⟩
    ·rw [hs0] at s0
     cases hs1 : seenB v m u true k
     ·rw [hs1] at s1
      have E : Hid ((0 : Int) = r) := Go.Lib.hid (by rw [← HR.out]; simp [cubeV, hs0, hs1])
      clear hs0 hs1
      go_wp2
      go_ret
      exact ⟨by rw [← E.out]; rfl, HBB.out⟩
     ·rw [hs1] at s1
      have E : Hid ((2 : Int) = r) := Go.Lib.hid (by rw [← HR.out]; simp [cubeV, hs0, hs1])
      clear hs0 hs1
      go_wp2
      go_ret
      exact ⟨by rw [← E.out]; rfl, HBB.out⟩
 ·cases h
end Go.Proofs.Ytfiejicdlaknnaa.P

namespace Go.Proofs.Ytfiejicdlaknnaa.P
open Go.RowKit Go.Proofs.YtfiejicdlaknnaaW.PrintWords Go.Proofs.YtfiejicdlaknnaaW.PrintLast Go.Proofs.YtfiejicdlaknnaaW.PrintMore
attribute [local go_sem] max2_int min2_int max_two min_two max_three min_three max_four min_four   -- for this text's walks alone
set_option linter.unusedVariables false
set_option linter.unusedSimpArgs false

attribute [local go_sem] fld25_0 fld25_1
theorem eqA25 (d : Nat) (w : World) (x0 y0 : Int) (x1 y1 : Int) :
  (Op.equalIn (d + 2) 25 (.agg #[.int .i64 x0, .int .i64 x1]) (.agg #[.int .i64 y0, .int .i64 y1])).run Try.prog w = .ok (x0 == y0 && (x1 == y1)) w := by
 refine eqA_of Try.underlying25 (by kernel_rfl) ?_
 refine eqf_cons (by rfl) (by go_simp; rfl) (by go_simp; rfl) (by go_simp) ?_
 exact eqf_last (by rfl) (by go_simp; rfl) (by go_simp; rfl) (by go_simp)
end Go.Proofs.Ytfiejicdlaknnaa.P

namespace Go.Proofs.Ytfiejicdlaknnaa.P
open Go.RowKit Go.Proofs.YtfiejicdlaknnaaW.PrintWords Go.Proofs.YtfiejicdlaknnaaW.PrintLast Go.Proofs.YtfiejicdlaknnaaW.PrintMore
attribute [local go_sem] max2_int min2_int max_two min_two max_three min_three max_four min_four   -- for this text's walks alone
set_option linter.unusedVariables false
set_option linter.unusedSimpArgs false

attribute [local go_sem] fld25_0 fld25_1
theorem eqA33 (d : Nat) (w : World) (x0 y0 : Int) (x1 y1 : Int) :
  (Op.equalIn (d + 2) 33 (.agg #[.int .i64 x0, .int .i64 x1]) (.agg #[.int .i64 y0, .int .i64 y1])).run Try.prog w = .ok (x0 == y0 && (x1 == y1)) w := by
 refine eqA_of Try.underlying33 (by kernel_rfl) ?_
 refine eqf_cons (by rfl) (by go_simp; rfl) (by go_simp; rfl) (by go_simp) ?_
 exact eqf_last (by rfl) (by go_simp; rfl) (by go_simp; rfl) (by go_simp)
end Go.Proofs.Ytfiejicdlaknnaa.P

namespace Go.Proofs.Ytfiejicdlaknnaa.P
set_option linter.unusedVariables false
set_option linter.unusedSimpArgs false
open Go.RowKit Go.Proofs.YtfiejicdlaknnaaW.PrintWords Go.Proofs.YtfiejicdlaknnaaW.PrintLast Go.Proofs.YtfiejicdlaknnaaW.PrintMore
def spec_l2Full.f (a0 : Int) : Option (Int) := if 0 ≤ a0 then (if a0 ≤ 5 then (some (wrap64 ((shl .i64 1 (shl .u64 1 a0)) - 1))) else none) else none
set_option maxHeartbeats 1600000 in
set_option maxRecDepth 100000 in
theorem spec_l2Full.calls (a0 : Int) (r : Int) (w : World) (h : spec_l2Full.f a0 = some r) :
  Calls Try.prog 75 #[.int .i64 a0] w fun e w' => e = .returned (.int .i64 r) ∧ Drawn0 w w' := by
 unfold spec_l2Full.f at h
 by_cases h0 : 0 ≤ a0
 ·rw [if_pos h0] at h
  by_cases h5 : a0 ≤ 5
  ·rw [if_pos h5] at h
   have hc : a0 = 0 ∨ a0 = 1 ∨ a0 = 2 ∨ a0 = 3 ∨ a0 = 4 ∨ a0 = 5 := by omega
   have h' := Option.some.inj h
   clear h h0 h5
   rcases hc with rfl | rfl | rfl | rfl | rfl | rfl
   ·obtain rfl : 1 = r := (show (1 : Int) = wrap64 ((shl .i64 1 (shl .u64 1 0)) - 1) by decide +kernel).trans h'
    clear h'
    go_enter Try.func75, Try.ntmps75
    go_wp2
    go_ret
    exact ⟨rfl, Drawn0.refl _⟩
   ·obtain rfl : 3 = r := (show (3 : Int) = wrap64 ((shl .i64 1 (shl .u64 1 1)) - 1) by decide +kernel).trans h'
    clear h'
    go_enter Try.func75, Try.ntmps75
    go_wp2
    go_ret
    exact ⟨rfl, Drawn0.refl _⟩
   ·obtain rfl : 15 = r := (show (15 : Int) = wrap64 ((shl .i64 1 (shl .u64 1 2)) - 1) by decide +kernel).trans h'
    clear h'
    go_enter Try.func75, Try.ntmps75
    go_wp2
    go_ret
    exact ⟨rfl, Drawn0.refl _⟩
   ·obtain rfl : 255 = r := (show (255 : Int) = wrap64 ((shl .i64 1 (shl .u64 1 3)) - 1) by decide +kernel).trans h'
    clear h'
    go_enter Try.func75, Try.ntmps75
    go_wp2
    go_ret
    exact ⟨rfl, Drawn0.refl _⟩
   ·obtain rfl : 65535 = r := (show (65535 : Int) = wrap64 ((shl .i64 1 (shl .u64 1 4)) - 1) by decide +kernel).trans h'
    clear h'
    go_enter Try.func75, Try.ntmps75
    go_wp2
    go_ret
    exact ⟨rfl, Drawn0.refl _⟩
   ·obtain rfl : 4294967295 = r := (show (4294967295 : Int) = wrap64 ((shl .i64 1 (shl .u64 1 5)) - 1) by decide +kernel).trans h'
    clear h'
    go_enter Try.func75, Try.ntmps75
    go_wp2
    go_ret
    exact ⟨rfl, Drawn0.refl _⟩
  ·rw [if_neg h5] at h
   cases h
 ·rw [if_neg h0] at h
  cases h
end Go.Proofs.Ytfiejicdlaknnaa.P

namespace Go.Proofs.Ytfiejicdlaknnaa.P
set_option linter.unusedVariables false
set_option linter.unusedSimpArgs false
open Go.RowKit Go.Proofs.Ytfiejicdlaknnaa.Bits Go.Proofs.YtfiejicdlaknnaaW.PrintWords Go.Proofs.YtfiejicdlaknnaaW.PrintLast Go.Proofs.YtfiejicdlaknnaaW.PrintMore
def impl_Term_41.f (l0 : List S33) : Option (List S33) := if l0.length ≤ 8796093022208 then some l0 else none
def ClonePost (l : List S33) (w : World) (e : Ending) (w' : World) : Prop := ∃ v0_ : Value, e = .returned (v0_) ∧ Kd.R k33 33 w' w.heap.size (fun _ => True) v0_ l ∧ Below w.heap.size w w'
set_option maxHeartbeats 1000000 in
set_option maxRecDepth 100000 in
theorem impl_Term_41.calls (A0 : Option Addr) (c0 : Nat) (l0 : List S33) (r : List S33) (w : World) (hr0 : Kd.C k33 w A0 l0.length l0) (hc0 : l0.length ≤ c0) (h : impl_Term_41.f l0 = some r) :
  Calls Try.prog 41 #[.slice A0 l0.length c0] w fun e w' => ∃ v0_ : Value, e = .returned (v0_) ∧ Kd.R k33 33 w' w.heap.size (fun _ => True) v0_ r ∧ Below w.heap.size w w' := by
 unfold impl_Term_41.f at h
 split at h
 ·rename_i hl
  obtain rfl := Option.some.inj h
  clear h
  show Calls Try.prog 41 #[.slice A0 l0.length c0] w (ClonePost l0 w)
  have HR := Go.Lib.hid hr0
  have HL := Go.Lib.hid hl
  clear hr0 hl hc0
  have hu := Try.underlying27
  rcases A0 with _ | ad
  ·have h0 : l0 = [] := by
    cases l0 with
    | nil => rfl
    | cons x l =>
     obtain ⟨ad, h, _⟩ := HR.out.2.2 (by simp)
     cases h
   subst h0
   have hq := fun W => Go.Lib.run_eql_slice_nil (P := Try.prog) W 27 33 none 0 c0 0 0 hu
   go_enter Try.func41, Try.ntmps41
   go_wp2_with (fail)
   go_ret
   exact ⟨_, rfl, Kd.R_nil _ _ _ _ _, Below.refl _ _⟩
  ·have hq := fun W => Go.Lib.run_eql_slice_nil (P := Try.prog) W 27 33 (some ad) l0.length c0 0 0 hu
   go_enter Try.func41, Try.ntmps41
   go_wp2_with (first
    | ((with_reducible refine gate_dst (N := 5) rfl ?_); refine Kd.R_lit k33 _ 33 ?hg (N := 5) ?hd (xs := ([] : List (S33))) (inner := []) (ok := fun _ => True) (okp := fun _ => True) ?hr ?hp (fun _ hk => hk) trivial (Below.refl _ _) (Nat.le_refl _) (by simp) ?_; (case hd => rfl); (case hg => rfl); (case hr => exact zH); (case hp => exact (Reps.none _ _)); intro v5 w3 ho4 hb hg_ hnew_; have HO := Go.Lib.hid ho4; have HB := Go.Lib.hid hb; clear hg_ hnew_ ho4 hb)
    | ((with_reducible refine gate_builtin (b := .append) (xs := #[.tmp 5, .tmp 6]) rfl ?_); at_builtin; refine Kd.R_append_rows k33 (w0 := w) w.heap.size rfl (.tmp 5) (.tmp 6) 27 33 (.agg #[(.int .i64 0), (.int .i64 0)]) 16 rfl Try.underlying27 info33 rfl (by decide) (by omega) v5 [] l0 (some ad) l0.length c0 (fun _ => True) (fun _ => False) rfl rfl HO.out (Kd.C_below HR.out HB.out) (fun x cs hk => by obtain rfl := k33_open hk; exact k33_mkM _ _ _ x) (fun _ h => h.elim) (fun _ _ => trivial) HB.out HB.out.size (by have := HL.out; simp; omega) ?_; intro v1 w4 ho hb hg hat; have HO2 := Go.Lib.hid ho; have HB2 := Go.Lib.hid hb; clear ho hb hg hat))
   go_ret
   exact ⟨_, rfl, HO2.out, HB2.out⟩
 ·cases h
end Go.Proofs.Ytfiejicdlaknnaa.P

namespace Go.Proofs.Ytfiejicdlaknnaa.P
open Go.RowKit Go.Proofs.YtfiejicdlaknnaaW.PrintWords Go.Proofs.YtfiejicdlaknnaaW.PrintLast Go.Proofs.YtfiejicdlaknnaaW.PrintMore
attribute [local go_sem] max2_int min2_int max_two min_two max_three min_three max_four min_four   -- for this text's walks alone
set_option linter.unusedVariables false
set_option linter.unusedSimpArgs false

attribute [local go_sem] fld25_0 fld25_1
/-! ### spec_FormatTerm: function 19 -/
mutual
def spec_FormatTerm.l0 : Nat → Int → ByteArray → Int → Int → Int → Option (ByteArray)
 | 0, _, _, _, _, _ => none
 | k + 1, x0, x5, x6, x431000, x431001 => (spec_IsTerm.f x0 x431000 x431001).bind fun t431 => (if t431 = true then (spec_FormatTerm.j1 k x0 x5 x6 (decide (x6 < x0)) x431000 x431001) else (spec_FormatTerm.j1 k x0 x5 x6 false x431000 x431001))
def spec_FormatTerm.j1 : Nat → Int → ByteArray → Int → Bool → Int → Int → Option (ByteArray)
 | 0, _, _, _, _, _, _ => none
 | k + 1, x0, x5, x6, x14, x431000, x431001 => if x14 = true then (if 0 ≤ x6 then (if (Go.bits .and .i64 (shr .i64 x431000 x6) 1) = 0 then (spec_FormatTerm.l0 k x0 x5 (wrap64 (x6 + 1)) x431000 x431001) else (if (Go.bits .and .i64 (shr .i64 x431001 x6) 1) = 0 then (if x5.size + 1 ≤ 9223372036854775807 then (if x6 ≤ (wrap64 (x6 + 1)) then (if (wrap64 (x6 + 1)) ≤ 5 then (if (x5 ++ (⟨#[33]⟩ : ByteArray)).size + ((⟨#[97, 98, 99, 100, 101]⟩ : ByteArray).extract (x6 : Int).toNat ((wrap64 (x6 + 1)) : Int).toNat).size ≤ 9223372036854775807 then (spec_FormatTerm.l0 k x0 ((x5 ++ (⟨#[33]⟩ : ByteArray)) ++ ((⟨#[97, 98, 99, 100, 101]⟩ : ByteArray).extract (x6 : Int).toNat ((wrap64 (x6 + 1)) : Int).toNat)) (wrap64 (x6 + 1)) x431000 x431001) else (none)) else (none)) else (none)) else (none)) else (if x6 ≤ (wrap64 (x6 + 1)) then (if (wrap64 (x6 + 1)) ≤ 5 then (if x5.size + ((⟨#[97, 98, 99, 100, 101]⟩ : ByteArray).extract (x6 : Int).toNat ((wrap64 (x6 + 1)) : Int).toNat).size ≤ 9223372036854775807 then (spec_FormatTerm.l0 k x0 (x5 ++ ((⟨#[97, 98, 99, 100, 101]⟩ : ByteArray).extract (x6 : Int).toNat ((wrap64 (x6 + 1)) : Int).toNat)) (wrap64 (x6 + 1)) x431000 x431001) else (none)) else (none)) else (none)))) else (none)) else (if x5.toList = ([] : List UInt8) then ((spec_IsTerm.f x0 x431000 x431001).bind fun t432 => (if t432 = true then (some (⟨#[49]⟩ : ByteArray)) else (some x5))) else (some x5))
end
def spec_FormatTerm.f (k : Nat) (a0 : Int) (a1_0 : Int) (a1_1 : Int) : Option (ByteArray) := spec_FormatTerm.l0 k a0 (⟨#[]⟩ : ByteArray) 0 a1_0 a1_1
theorem spec_FormatTerm.mono_l : ∀ k, (∀ y0 y1 y2 y3 y4, LeO (spec_FormatTerm.l0 k y0 y1 y2 y3 y4) (spec_FormatTerm.l0 (k + 1) y0 y1 y2 y3 y4)) ∧ (∀ y0 y1 y2 y3 y4 y5, LeO (spec_FormatTerm.j1 k y0 y1 y2 y3 y4 y5) (spec_FormatTerm.j1 (k + 1) y0 y1 y2 y3 y4 y5))
 | 0 => ⟨fun _ _ _ _ _ r h => by simp [spec_FormatTerm.l0] at h, fun _ _ _ _ _ _ r h => by simp [spec_FormatTerm.j1] at h⟩
 | k + 1 => by
  obtain ⟨ih0, ih1⟩ := spec_FormatTerm.mono_l k
  refine ⟨?_, ?_⟩
  ·intro y0 y1 y2 y3 y4
   unfold spec_FormatTerm.l0
   repeat' first
   | (with_reducible exact ih0 _ _ _ _ _)
   | (with_reducible exact ih1 _ _ _ _ _ _)
   | (with_reducible exact LeO.refl _)
   | (with_reducible exact LeO.none _)
   | (with_reducible refine LeO.ite ?_ ?_)
   | (with_reducible refine LeO.bind ?_ (fun _ => ?_))
   | exact ih0 _ _ _ _ _
   | exact ih1 _ _ _ _ _ _
   | exact LeO.none _
   | refine LeO.ite ?_ ?_
   | refine LeO.bind ?_ (fun _ => ?_)
  ·intro y0 y1 y2 y3 y4 y5
   unfold spec_FormatTerm.j1
   repeat' first
   | (with_reducible exact ih0 _ _ _ _ _)
   | (with_reducible exact ih1 _ _ _ _ _ _)
   | (with_reducible exact LeO.refl _)
   | (with_reducible exact LeO.none _)
   | (with_reducible refine LeO.ite ?_ ?_)
   | (with_reducible refine LeO.bind ?_ (fun _ => ?_))
   | exact ih0 _ _ _ _ _
   | exact ih1 _ _ _ _ _ _
   | exact LeO.none _
   | refine LeO.ite ?_ ?_
   | refine LeO.bind ?_ (fun _ => ?_)
theorem spec_FormatTerm.mono : ∀ a0 a1 a2 k, LeO (spec_FormatTerm.f k a0 a1 a2) (spec_FormatTerm.f (k + 1) a0 a1 a2) := by
 intro a0 a1 a2 k
 obtain ⟨ih0, ih1⟩ := spec_FormatTerm.mono_l k
 unfold spec_FormatTerm.f
 repeat' first
   | (with_reducible exact ih0 _ _ _ _ _)
   | (with_reducible exact ih1 _ _ _ _ _ _)
   | (with_reducible exact LeO.refl _)
   | (with_reducible exact LeO.none _)
   | (with_reducible refine LeO.ite ?_ ?_)
   | (with_reducible refine LeO.bind ?_ (fun _ => ?_))
   | exact ih0 _ _ _ _ _
   | exact ih1 _ _ _ _ _ _
   | exact LeO.none _
   | refine LeO.ite ?_ ?_
   | refine LeO.bind ?_ (fun _ => ?_)
set_option maxHeartbeats 8000000 in
set_option maxRecDepth 100000 in
theorem spec_FormatTerm.calls (k : Nat) (a0 : Int) (a1_0 : Int) (a1_1 : Int) (r : ByteArray) (w : World) (h : spec_FormatTerm.f k a0 a1_0 a1_1 = some r) :
  Calls Try.prog 19 #[.int .i64 a0, .agg #[.int .i64 a1_0, .int .i64 a1_1]] w fun e w' => e = .returned (.string r) ∧ Below w.heap.size w w' := by
 have hu33 := Try.underlying33
 have HB := zA (Below.refl w.heap.size w)
 have H : (spec_FormatTerm.l0 k a0 (⟨#[]⟩ : ByteArray) 0 a1_0 a1_1) = some r := h
 clear h
 have H' := zA H
 clear H
 go_enter Try.func19, Try.ntmps19
 go_wp2_with (first | ((with_reducible refine gate_dst (N := 3) rfl ?_); refine box_event ?hg (N := 3) ?hd (cs := #[.int .i64 a1_0, .int .i64 a1_1]) (t := 33) ?hr ?_; (case hd => rfl); (case hg => rfl); (case hr => exact zH); intro gb430 hg w3 hbox hb; have BK430 := zA (hbox); have GW430 := zg HB hg; have GE430 := zg HB hg; replace HB := zA (below_step (zB HB) hb); clear hb hbox hg))
 go_loopg [5, 6] k (fun kq v5 v6 w' => ∃ (x5_1 : ByteArray) (x6_1 : Int), v5 = .string x5_1 ∧ v6 = .int .i64 x6_1 ∧ Aside0 (spec_FormatTerm.l0 kq a0 x5_1 x6_1 a1_0 a1_1 = some r) ∧ Aside0 (kq ≤ k) ∧ Aside0 (w'.heap[gb430]? = some (.cells #[.int .i64 a1_0, .int .i64 a1_1] 33 (0, 0))) ∧ Aside0 (Below w.heap.size w w'))
 case atStart => exact ⟨((⟨#[]⟩ : ByteArray)), (0), zS, zS, H', ⟨Nat.le_refl _⟩, ⟨zD BK430⟩, ⟨zB1 HB GE430⟩⟩
 case round =>
  clear H'
  obtain ⟨x5_1, x6_1, rfl, rfl, HA, HK1, BK430, HB⟩ := hrel
  cases gk with
  | zero => exact absurd HA.out (by simp [spec_FormatTerm.l0])
  | succ k1 =>
   have H := HA.out
   clear HA
   simp only [spec_FormatTerm.l0] at H
   have HC4 := zA H
   clear H
   go_upto_region 3 with (fail)
   go_cut [14] (fun v14 wc => ∃ (kq : Nat) (x14_3 : Bool), v14 = .bool x14_3 ∧ Aside0 (spec_FormatTerm.j1 kq a0 x5_1 x6_1 x14_3 a1_0 a1_1 = some r) ∧ Aside0 (kq ≤ k1) ∧ Aside0 (wc.heap[gb430]? = some (.cells #[.int .i64 a1_0, .int .i64 a1_1] 33 (0, 0))) ∧ Aside0 (Below w.heap.size w wc))
   case first =>
    have H := HC4.out
    clear HC4
    replace H := Option.bind_eq_some_iff.mp H
    obtain ⟨t431, A50, H⟩ := H
    replace H : (if t431 = true then (spec_FormatTerm.j1 k1 a0 x5_1 x6_1 (decide (x6_1 < a0)) a1_0 a1_1) else (spec_FormatTerm.j1 k1 a0 x5_1 x6_1 false a1_0 a1_1)) = some r := H
    have A5 := zA A50
    clear A50
    by_cases c6 : t431 = true
    ·subst c6
     have H1 : (spec_FormatTerm.j1 k1 a0 x5_1 x6_1 (decide (x6_1 < a0)) a1_0 a1_1) = some r := by rw [if_pos rfl] at H; exact H
     clear H
     have H := H1
     clear H1
     have H' := zA H
     clear H
     have hcz7_0 := zc0 BK430
     have hcz7_1 := zc1 BK430
     have hfz7_0 := blk_frozen BK430.out 0
     have hfz7_1 := blk_frozen BK430.out 1
     go_wp2_with (first | ((with_reducible refine gate_callee (f := 20) rfl ?_); refine goesL_ (some 9) rfl rfl Try.func20 (by kernel_rfl) rfl #[.int .i64 a0, .agg #[.int .i64 a1_0, .int .i64 a1_1]] rfl zM ?_; (with_reducible refine (spec_IsTerm.calls a0 a1_0 a1_1 true _ A5.out).mono ?_); rintro e w8 ⟨rfl, hb⟩; refine ⟨_, rfl, ?_⟩; replace BK430 := zb BK430 hb; replace HB := zA (below_step (zB1 HB GE430) hb); (try clear hb); (try clear hb2); (try clear hk); (try clear hi)))
     go_meet
     case rel => exact ⟨_, (decide (x6_1 < a0)), zS, H', ⟨by have := HK1.out; first | omega | exact Nat.le_refl _⟩, ⟨zD BK430⟩, ⟨zB1 HB GE430⟩⟩
    ·replace c6 := Bool.eq_false_iff.mpr c6
     subst c6
     have H1 : (spec_FormatTerm.j1 k1 a0 x5_1 x6_1 false a1_0 a1_1) = some r := by rw [if_neg (show ¬ (false = true) by decide)] at H; exact H
     clear H
     have H := H1
     clear H1
     have H' := zA H
     clear H
     have hcz9_0 := zc0 BK430
     have hcz9_1 := zc1 BK430
     have hfz9_0 := blk_frozen BK430.out 0
     have hfz9_1 := blk_frozen BK430.out 1
     go_wp2_with (first | ((with_reducible refine gate_callee (f := 20) rfl ?_); refine goesL_ (some 9) rfl rfl Try.func20 (by kernel_rfl) rfl #[.int .i64 a0, .agg #[.int .i64 a1_0, .int .i64 a1_1]] rfl zM ?_; (with_reducible refine (spec_IsTerm.calls a0 a1_0 a1_1 false _ A5.out).mono ?_); rintro e w10 ⟨rfl, hb⟩; refine ⟨_, rfl, ?_⟩; replace BK430 := zb BK430 hb; replace HB := zA (below_step (zB1 HB GE430) hb); (try clear hb); (try clear hb2); (try clear hk); (try clear hi)))
     go_meet
     case rel => exact ⟨_, (false), zS, H', ⟨by have := HK1.out; first | omega | exact Nat.le_refl _⟩, ⟨zD BK430⟩, ⟨zB1 HB GE430⟩⟩
   case rest =>
    clear HC4
    obtain ⟨kq, x14_3, rfl, HA, HJ3, BK430, HB⟩ := hcut
    cases kq with
    | zero => exact absurd HA.out (by simp [spec_FormatTerm.j1])
    | succ kj3 =>
     have H := HA.out
     clear HA
     simp only [spec_FormatTerm.j1] at H
     by_cases c11 : x14_3 = true
     ·subst c11
      have H1 : (if 0 ≤ x6_1 then (if (Go.bits .and .i64 (shr .i64 a1_0 x6_1) 1) = 0 then (spec_FormatTerm.l0 kj3 a0 x5_1 (wrap64 (x6_1 + 1)) a1_0 a1_1) else (if (Go.bits .and .i64 (shr .i64 a1_1 x6_1) 1) = 0 then (if x5_1.size + 1 ≤ 9223372036854775807 then (if x6_1 ≤ (wrap64 (x6_1 + 1)) then (if (wrap64 (x6_1 + 1)) ≤ 5 then (if (x5_1 ++ (⟨#[33]⟩ : ByteArray)).size + ((⟨#[97, 98, 99, 100, 101]⟩ : ByteArray).extract (x6_1 : Int).toNat ((wrap64 (x6_1 + 1)) : Int).toNat).size ≤ 9223372036854775807 then (spec_FormatTerm.l0 kj3 a0 ((x5_1 ++ (⟨#[33]⟩ : ByteArray)) ++ ((⟨#[97, 98, 99, 100, 101]⟩ : ByteArray).extract (x6_1 : Int).toNat ((wrap64 (x6_1 + 1)) : Int).toNat)) (wrap64 (x6_1 + 1)) a1_0 a1_1) else (none)) else (none)) else (none)) else (none)) else (if x6_1 ≤ (wrap64 (x6_1 + 1)) then (if (wrap64 (x6_1 + 1)) ≤ 5 then (if x5_1.size + ((⟨#[97, 98, 99, 100, 101]⟩ : ByteArray).extract (x6_1 : Int).toNat ((wrap64 (x6_1 + 1)) : Int).toNat).size ≤ 9223372036854775807 then (spec_FormatTerm.l0 kj3 a0 (x5_1 ++ ((⟨#[97, 98, 99, 100, 101]⟩ : ByteArray).extract (x6_1 : Int).toNat ((wrap64 (x6_1 + 1)) : Int).toNat)) (wrap64 (x6_1 + 1)) a1_0 a1_1) else (none)) else (none)) else (none)))) else (none)) = some r := by rw [if_pos rfl] at H; exact H
      clear H
      have H := H1
      clear H1
      by_cases c12 : 0 ≤ x6_1
      ·rw [if_pos c12] at H
       have c12b0 := eq_true c12
       have c12b1 : decide (0 ≤ x6_1) = true := decide_eq_true c12
       clear c12
       obtain ⟨ji13, hji13⟩ : ∃ j_ : Int, (shr .i64 a1_0 x6_1) = j_ := ⟨_, rfl⟩
       replace H : (if (Go.bits .and .i64 (ji13) 1) = 0 then (spec_FormatTerm.l0 kj3 a0 x5_1 (wrap64 (x6_1 + 1)) a1_0 a1_1) else (if (Go.bits .and .i64 (shr .i64 a1_1 x6_1) 1) = 0 then (if x5_1.size + 1 ≤ 9223372036854775807 then (if x6_1 ≤ (wrap64 (x6_1 + 1)) then (if (wrap64 (x6_1 + 1)) ≤ 5 then (if (x5_1 ++ (⟨#[33]⟩ : ByteArray)).size + ((⟨#[97, 98, 99, 100, 101]⟩ : ByteArray).extract (x6_1 : Int).toNat ((wrap64 (x6_1 + 1)) : Int).toNat).size ≤ 9223372036854775807 then (spec_FormatTerm.l0 kj3 a0 ((x5_1 ++ (⟨#[33]⟩ : ByteArray)) ++ ((⟨#[97, 98, 99, 100, 101]⟩ : ByteArray).extract (x6_1 : Int).toNat ((wrap64 (x6_1 + 1)) : Int).toNat)) (wrap64 (x6_1 + 1)) a1_0 a1_1) else (none)) else (none)) else (none)) else (none)) else (if x6_1 ≤ (wrap64 (x6_1 + 1)) then (if (wrap64 (x6_1 + 1)) ≤ 5 then (if x5_1.size + ((⟨#[97, 98, 99, 100, 101]⟩ : ByteArray).extract (x6_1 : Int).toNat ((wrap64 (x6_1 + 1)) : Int).toNat).size ≤ 9223372036854775807 then (spec_FormatTerm.l0 kj3 a0 (x5_1 ++ ((⟨#[97, 98, 99, 100, 101]⟩ : ByteArray).extract (x6_1 : Int).toNat ((wrap64 (x6_1 + 1)) : Int).toNat)) (wrap64 (x6_1 + 1)) a1_0 a1_1) else (none)) else (none)) else (none)))) = some r := by first | (rw [hji13] at H; exact H) | (simp only [hji13] at H ⊢; exact H)
       have hji13_ : (a1_0 / 2 ^ min x6_1.toNat 64) = ji13 := hji13
       have hji13z : x6_1 ≤ 64 → (a1_0 / 2 ^ x6_1.toNat) = ji13 := shr_small hji13
       by_cases c14 : (Go.bits .and .i64 (ji13) 1) = 0
       ·rw [if_pos c14] at H
        have c14b0 : ((Go.bits .and .i64 (ji13) 1) == 0) = true := beq_iff_eq.mpr c14
        have c14b1 : ((Go.bits .and .i64 (ji13) 1) != 0) = false := bne_eq_false_iff_eq.mpr c14
        clear c14
        have H' := zA H
        clear H
        have hcz15_0 := zc0 BK430
        have hcz15_1 := zc1 BK430
        have hfz15_0 := blk_frozen BK430.out 0
        have hfz15_1 := blk_frozen BK430.out 1
        go_wp2
        go_roundg kj3
        case measure => have := HK1.out; have := HJ3.out; omega
        case rel => exact ⟨(x5_1), (wrap64 (x6_1 + 1)), zS, zS, H', ⟨by have := HK1.out; have := HJ3.out; omega⟩, ⟨zD BK430⟩, ⟨zB1 HB GE430⟩⟩
       ·rw [if_neg c14] at H
        have c14b0 : ((Go.bits .and .i64 (ji13) 1) == 0) = false := beq_eq_false_iff_ne.mpr c14
        have c14b1 : ((Go.bits .and .i64 (ji13) 1) != 0) = true := bne_iff_ne.mpr c14
        have c16b0 := eq_true (of_decide_eq_true (by first | (with_reducible assumption) | assumption) : 0 ≤ x6_1)
        obtain ⟨ji17, hji17⟩ : ∃ j_ : Int, (shr .i64 a1_1 x6_1) = j_ := ⟨_, rfl⟩
        replace H : (if (Go.bits .and .i64 (ji17) 1) = 0 then (if x5_1.size + 1 ≤ 9223372036854775807 then (if x6_1 ≤ (wrap64 (x6_1 + 1)) then (if (wrap64 (x6_1 + 1)) ≤ 5 then (if (x5_1 ++ (⟨#[33]⟩ : ByteArray)).size + ((⟨#[97, 98, 99, 100, 101]⟩ : ByteArray).extract (x6_1 : Int).toNat ((wrap64 (x6_1 + 1)) : Int).toNat).size ≤ 9223372036854775807 then (spec_FormatTerm.l0 kj3 a0 ((x5_1 ++ (⟨#[33]⟩ : ByteArray)) ++ ((⟨#[97, 98, 99, 100, 101]⟩ : ByteArray).extract (x6_1 : Int).toNat ((wrap64 (x6_1 + 1)) : Int).toNat)) (wrap64 (x6_1 + 1)) a1_0 a1_1) else (none)) else (none)) else (none)) else (none)) else (if x6_1 ≤ (wrap64 (x6_1 + 1)) then (if (wrap64 (x6_1 + 1)) ≤ 5 then (if x5_1.size + ((⟨#[97, 98, 99, 100, 101]⟩ : ByteArray).extract (x6_1 : Int).toNat ((wrap64 (x6_1 + 1)) : Int).toNat).size ≤ 9223372036854775807 then (spec_FormatTerm.l0 kj3 a0 (x5_1 ++ ((⟨#[97, 98, 99, 100, 101]⟩ : ByteArray).extract (x6_1 : Int).toNat ((wrap64 (x6_1 + 1)) : Int).toNat)) (wrap64 (x6_1 + 1)) a1_0 a1_1) else (none)) else (none)) else (none))) = some r := by first | (rw [hji17] at H; exact H) | (simp only [hji17] at H ⊢; exact H)
        have hji17_ : (a1_1 / 2 ^ min x6_1.toNat 64) = ji17 := hji17
        have hji17z : x6_1 ≤ 64 → (a1_1 / 2 ^ x6_1.toNat) = ji17 := shr_small hji17
        by_cases c18 : (Go.bits .and .i64 (ji17) 1) = 0
        ·rw [if_pos c18] at H
         have c18b0 : ((Go.bits .and .i64 (ji17) 1) == 0) = true := beq_iff_eq.mpr c18
         have c18b1 : ((Go.bits .and .i64 (ji17) 1) != 0) = false := bne_eq_false_iff_eq.mpr c18
         clear c18
         by_cases c19 : x5_1.size + 1 ≤ 9223372036854775807
         ·rw [if_pos c19] at H
          have c19b0 := eq_true c19
          have c19b1 : decide (x5_1.size + 1 ≤ 9223372036854775807) = true := decide_eq_true c19
          try have c19b2 : (9223372036854775807 < x5_1.size + 1) = False := eq_false (Nat.not_lt.2 c19)
          have c20b0 := eq_true (of_decide_eq_true (by first | (with_reducible assumption) | assumption) : 0 ≤ x6_1)
          by_cases c21 : x6_1 ≤ (wrap64 (x6_1 + 1))
          ·rw [if_pos c21] at H
           have c21b0 := eq_true c21
           have c21b1 : decide (x6_1 ≤ (wrap64 (x6_1 + 1))) = true := decide_eq_true c21
           by_cases c22 : (wrap64 (x6_1 + 1)) ≤ 5
           ·rw [if_pos c22] at H
            have c22b0 := eq_true c22
            have c22b1 : decide ((wrap64 (x6_1 + 1)) ≤ 5) = true := decide_eq_true c22
            by_cases c23 : (x5_1 ++ (⟨#[33]⟩ : ByteArray)).size + ((⟨#[97, 98, 99, 100, 101]⟩ : ByteArray).extract (x6_1 : Int).toNat ((wrap64 (x6_1 + 1)) : Int).toNat).size ≤ 9223372036854775807
            ·rw [if_pos c23] at H
             have c23b0 := eq_true c23
             have c23b1 : decide ((x5_1 ++ (⟨#[33]⟩ : ByteArray)).size + ((⟨#[97, 98, 99, 100, 101]⟩ : ByteArray).extract (x6_1 : Int).toNat ((wrap64 (x6_1 + 1)) : Int).toNat).size ≤ 9223372036854775807) = true := decide_eq_true c23
             try have c23b2 : (9223372036854775807 < (x5_1 ++ (⟨#[33]⟩ : ByteArray)).size + ((⟨#[97, 98, 99, 100, 101]⟩ : ByteArray).extract (x6_1 : Int).toNat ((wrap64 (x6_1 + 1)) : Int).toNat).size) = False := eq_false (Nat.not_lt.2 c23)
             have H' := zA H
             clear H
             have hcz24_0 := zc0 BK430
             have hcz24_1 := zc1 BK430
             have hfz24_0 := blk_frozen BK430.out 0
             have hfz24_1 := blk_frozen BK430.out 1
             go_wp2
             go_roundg kj3
             case measure => have := HK1.out; have := HJ3.out; omega
             case rel => exact ⟨((x5_1 ++ (⟨#[33]⟩ : ByteArray)) ++ ((⟨#[97, 98, 99, 100, 101]⟩ : ByteArray).extract (x6_1 : Int).toNat ((wrap64 (x6_1 + 1)) : Int).toNat)), (wrap64 (x6_1 + 1)), zS, zS, H', ⟨by have := HK1.out; have := HJ3.out; omega⟩, ⟨zD BK430⟩, ⟨zB1 HB GE430⟩⟩
            ·rw [if_neg c23] at H
             exact absurd H (by simp)
           ·rw [if_neg c22] at H
            exact absurd H (by simp)
          ·rw [if_neg c21] at H
           exact absurd H (by simp)
         ·rw [if_neg c19] at H
          exact absurd H (by simp)
        ·rw [if_neg c18] at H
         have c18b0 : ((Go.bits .and .i64 (ji17) 1) == 0) = false := beq_eq_false_iff_ne.mpr c18
         have c18b1 : ((Go.bits .and .i64 (ji17) 1) != 0) = true := bne_iff_ne.mpr c18
         have c25b0 := eq_true (of_decide_eq_true (by first | (with_reducible assumption) | assumption) : 0 ≤ x6_1)
         by_cases c26 : x6_1 ≤ (wrap64 (x6_1 + 1))
         ·rw [if_pos c26] at H
          have c26b0 := eq_true c26
          have c26b1 : decide (x6_1 ≤ (wrap64 (x6_1 + 1))) = true := decide_eq_true c26
          by_cases c27 : (wrap64 (x6_1 + 1)) ≤ 5
          ·rw [if_pos c27] at H
           have c27b0 := eq_true c27
           have c27b1 : decide ((wrap64 (x6_1 + 1)) ≤ 5) = true := decide_eq_true c27
           by_cases c28 : x5_1.size + ((⟨#[97, 98, 99, 100, 101]⟩ : ByteArray).extract (x6_1 : Int).toNat ((wrap64 (x6_1 + 1)) : Int).toNat).size ≤ 9223372036854775807
           ·rw [if_pos c28] at H
            have c28b0 := eq_true c28
            have c28b1 : decide (x5_1.size + ((⟨#[97, 98, 99, 100, 101]⟩ : ByteArray).extract (x6_1 : Int).toNat ((wrap64 (x6_1 + 1)) : Int).toNat).size ≤ 9223372036854775807) = true := decide_eq_true c28
            try have c28b2 : (9223372036854775807 < x5_1.size + ((⟨#[97, 98, 99, 100, 101]⟩ : ByteArray).extract (x6_1 : Int).toNat ((wrap64 (x6_1 + 1)) : Int).toNat).size) = False := eq_false (Nat.not_lt.2 c28)
            have H' := zA H
            clear H
            have hcz29_0 := zc0 BK430
            have hcz29_1 := zc1 BK430
            have hfz29_0 := blk_frozen BK430.out 0
            have hfz29_1 := blk_frozen BK430.out 1
            go_wp2
            go_roundg kj3
            case measure => have := HK1.out; have := HJ3.out; omega
            case rel => exact ⟨(x5_1 ++ ((⟨#[97, 98, 99, 100, 101]⟩ : ByteArray).extract (x6_1 : Int).toNat ((wrap64 (x6_1 + 1)) : Int).toNat)), (wrap64 (x6_1 + 1)), zS, zS, H', ⟨by have := HK1.out; have := HJ3.out; omega⟩, ⟨zD BK430⟩, ⟨zB1 HB GE430⟩⟩
           ·rw [if_neg c28] at H
            exact absurd H (by simp)
          ·rw [if_neg c27] at H
           exact absurd H (by simp)
         ·rw [if_neg c26] at H
          exact absurd H (by simp)
      ·rw [if_neg c12] at H
       exact absurd H (by simp)
     ·replace c11 := Bool.eq_false_iff.mpr c11
      subst c11
      have H1 : (if x5_1.toList = ([] : List UInt8) then ((spec_IsTerm.f a0 a1_0 a1_1).bind fun t432 => (if t432 = true then (some (⟨#[49]⟩ : ByteArray)) else (some x5_1))) else (some x5_1)) = some r := by rw [if_neg (show ¬ (false = true) by decide)] at H; exact H
      clear H
      have H := H1
      clear H1
      by_cases c30 : x5_1.toList = ([] : List UInt8)
      ·rw [if_pos c30] at H
       have c30b0 : (x5_1.toList == ([] : List UInt8)) = true := beq_iff_eq.mpr c30
       have c30b1 : (x5_1.toList != ([] : List UInt8)) = false := bne_eq_false_iff_eq.mpr c30
       clear c30
       replace H := Option.bind_eq_some_iff.mp H
       obtain ⟨t432, A310, H⟩ := H
       replace H : (if t432 = true then (some (⟨#[49]⟩ : ByteArray)) else (some x5_1)) = some r := H
       have A31 := zA A310
       clear A310
       by_cases c32 : t432 = true
       ·subst c32
        have H1 : (some (⟨#[49]⟩ : ByteArray)) = some r := by rw [if_pos rfl] at H; exact H
        clear H
        have H := H1
        clear H1
        obtain rfl := Option.some.inj H
        have hcz33_0 := zc0 BK430
        have hcz33_1 := zc1 BK430
        have hfz33_0 := blk_frozen BK430.out 0
        have hfz33_1 := blk_frozen BK430.out 1
        go_wp2_with (first | (go_at_call 20; (with_reducible refine (spec_IsTerm.calls a0 a1_0 a1_1 true _ A31.out).mono ?_); rintro e w34 ⟨rfl, hb⟩; replace BK430 := zb BK430 hb; replace HB := zA (below_step (zB1 HB GE430) hb); (try clear hb); (try clear hb2); (try clear hk); (try clear hi)))
        go_ret
        exact ⟨zE, zB1 HB GE430⟩
       ·replace c32 := Bool.eq_false_iff.mpr c32
        subst c32
        have H1 : (some x5_1) = some r := by rw [if_neg (show ¬ (false = true) by decide)] at H; exact H
        clear H
        have H := H1
        clear H1
        obtain rfl := Option.some.inj H
        have hcz35_0 := zc0 BK430
        have hcz35_1 := zc1 BK430
        have hfz35_0 := blk_frozen BK430.out 0
        have hfz35_1 := blk_frozen BK430.out 1
        go_wp2_with (first | (go_at_call 20; (with_reducible refine (spec_IsTerm.calls a0 a1_0 a1_1 false _ A31.out).mono ?_); rintro e w36 ⟨rfl, hb⟩; replace BK430 := zb BK430 hb; replace HB := zA (below_step (zB1 HB GE430) hb); (try clear hb); (try clear hb2); (try clear hk); (try clear hi)))
        go_ret
        exact ⟨zE, zB1 HB GE430⟩
      ·rw [if_neg c30] at H
       have c30b0 : (x5_1.toList == ([] : List UInt8)) = false := beq_eq_false_iff_ne.mpr c30
       have c30b1 : (x5_1.toList != ([] : List UInt8)) = true := bne_iff_ne.mpr c30
       obtain rfl := Option.some.inj H
       go_wp2
       go_ret
       exact ⟨zE, zB1 HB GE430⟩

end Go.Proofs.Ytfiejicdlaknnaa.P
