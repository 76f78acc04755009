/- A shift of 1, and a bit that is set: what the walks of makeTable need. No conditions but those that stand in the theorems. -/
import Derived.Test.YtijpcemcijaeeaaP0
import Derived.Test.YtijpcemcijaeeaaBits
import Derived.RegionTactic
import Derived.ChangeAlike
import Derived.OneCell
import Derived.Outline
import Derived.Lib.Hide
import Derived.Laws.BitsAllLaws
import Derived.Test.YtijpcemcijaeeaaPm
import Derived.Deep.RegionWith

namespace Go.Proofs.Ytijpcemcijaeeaa.P
set_option linter.unusedVariables false
set_option linter.unusedSimpArgs false
open Go.RowKit Go.Proofs.Ytijpcemcijaeeaa.Bits Go.Proofs.YtijpcemcijaeeaaW.PrintWords Go.Proofs.YtijpcemcijaeeaaW.PrintLast Go.Proofs.YtijpcemcijaeeaaW.PrintMore

theorem ret_bool {a b : Bool} (h : a = b) : Ending.returned (.bool a) = .returned (.bool b) := by rw [h]

theorem shift_one (k : Nat) (hk : k ≤ 62) (W : World) : Sem.run Try.prog (Op.shift BinOp.shl IntKind.i64 1 IntKind.i64 (k : Int)) W = .ok (.int .i64 ((2 ^ k : Nat) : Int)) W := by
 rw [shift_shl _ _ _ _ (by omega) (by simp [IntKind.bits]; omega)]
 have : IntKind.i64.wrap (1 * 2 ^ (k : Int).toNat) = ((2 ^ k : Nat) : Int) := by
  rw [← wrap_nat (2 ^ k) (Nat.pow_lt_pow_right (by decide) (by omega)), Int.toNat_natCast, Int.one_mul]
  push_cast
  rfl
 rw [this]
 rfl

theorem or_pow (p : Nat → Bool) (k : Nat) (hk : k ≤ 62) : bits .or .i64 ((wordOf p k : Nat) : Int) (wrap64 (2 ^ k)) = ((wordOf p k ||| 2 ^ k : Nat) : Int) := by
 have h1 : (2 : Nat) ^ k < 2 ^ 63 := Nat.pow_lt_pow_right (by decide) (by omega)
 have h2 := wordOf_lt p k
 have e : wrap64 ((2 : Int) ^ k) = ((2 ^ k : Nat) : Int) := by
  have : ((2 : Int) ^ k) = ((2 ^ k : Nat) : Int) := by push_cast; rfl
  rw [this]
  exact w64 (by omega) (by rw [p63] at h1; omega)
 rw [e, or_nat _ _ (by omega) h1]

end Go.Proofs.Ytijpcemcijaeeaa.P

namespace Go.Proofs.Ytijpcemcijaeeaa.P
set_option linter.unusedVariables false
set_option linter.unusedSimpArgs false
open Go Go.RowKit Go.Proofs.Ytijpcemcijaeeaa.Bits Go.Proofs.YtijpcemcijaeeaaW.PrintWords Go.Proofs.YtijpcemcijaeeaaW.PrintLast Go.Proofs.YtijpcemcijaeeaaW.PrintMore

/-- x with the bit b put in at place i. -/
def spreadN (x i b : Nat) : Nat := (x / 2 ^ i) * 2 ^ (i + 1) + b * 2 ^ i + x % 2 ^ i

def chkSpread (x i b : Nat) : Bool := impl_spread.f (x : Int) (i : Int) (b : Int) == some ((spreadN x i b : Nat) : Int)
theorem chkSpread_all : ∀ (x : Fin 32) (i : Fin 6) (b : Fin 2), chkSpread x.val i.val b.val = true := by decide +kernel
theorem spread_is (x i b : Nat) (hx : x < 32) (hi : i ≤ 5) (hb : b ≤ 1) : impl_spread.f (x : Int) (i : Int) (b : Int) = some ((spreadN x i b : Nat) : Int) := by
 have h := chkSpread_all ⟨x, hx⟩ ⟨i, by omega⟩ ⟨b, by omega⟩
 exact eq_of_beq h
theorem spreadN_all : ∀ (x : Fin 32) (i : Fin 6) (b : Fin 2), spreadN x.val i.val b.val < 64 := by decide +kernel
theorem spreadN_lt (x i b : Nat) (hx : x < 32) (hi : i ≤ 5) (hb : b ≤ 1) : spreadN x i b < 64 := spreadN_all ⟨x, hx⟩ ⟨i, by omega⟩ ⟨b, by omega⟩
end Go.Proofs.Ytijpcemcijaeeaa.P

namespace Go.Proofs.Ytijpcemcijaeeaa.P
set_option linter.unusedVariables false
set_option linter.unusedSimpArgs false
open Go.RowKit Go.Proofs.Ytijpcemcijaeeaa.Bits Go.Proofs.YtijpcemcijaeeaaW.PrintWords Go.Proofs.YtijpcemcijaeeaaW.PrintLast Go.Proofs.YtijpcemcijaeeaaW.PrintMore

set_option maxHeartbeats 1000000 in
set_option maxRecDepth 100000 in
theorem makeTable_restrict (n : Int) (N : Nat) (h1 : N ≤ 32) (hN : ∀ W : World, Sem.run Try.prog (Op.shift BinOp.shl IntKind.i64 1 IntKind.i64 n) W = .ok (.int .i64 (N : Int)) W) (c0 c1 c2 : Value) (p : Nat → Bool) (w : World)
  (hcl : ∀ (k : Nat) (W : World), k < N → Below w.heap.size w W → Calls Try.prog 130 #[.int .i64 (k : Int), c0, c1, c2] W fun e w' => e = .returned (.bool (p k)) ∧ Below W.heap.size W w') :
  Calls Try.prog 82 #[.int .i64 n, .func (.func 130) #[] #[c0, c1, c2]] w fun e w' => e = .returned (.agg #[.int .i64 n, .int .i64 (wordOf p N : Nat)]) ∧ Below w.heap.size w w' := by
 have HC := Go.Lib.hid hcl
 clear hcl
 go_enter Try.func82, Try.ntmps82
 go_wp2
 go_loopw [6, 11] (fun v6 i wr => ∃ k : Nat, k ≤ N ∧ i = .int .i64 (k : Int) ∧ wr.heap[w.heap.size + 1]? = some (.cells #[.int .i64 n, .int .i64 (wordOf p k : Nat)] 23 (0, 0)) ∧ wr.heap[w.heap.size]? = some (.cells #[.int .i64 0, .int .i64 0] 23 (0, 0)) ∧ Below w.heap.size w wr) (fun _ i _ => N - (intOf i).toNat)
 case atStart =>
  refine ⟨0, by omega, rfl, ?_, ?_, ((Below.refl _ _).alloc (Nat.le_refl _) _).alloc (by simp) _⟩
  ·simpa [wordOf] using heap_alloc_new (w.alloc (.cells #[.int .i64 0, .int .i64 0] 23)) (.cells #[.int .i64 n, .int .i64 0] 23)
  ·exact (Below.heap_alloc _ _ _ (by simp)).trans (heap_alloc_new _ _)
 case round =>
  obtain ⟨k, hk, rfl, hb1, hb0, hB⟩ := hrel
  have HB1 := Go.Lib.hid hb1
  have HB0 := Go.Lib.hid hb0
  have HBB := Go.Lib.hid hB
  clear hb1 hb0 hB
  by_cases hlt : k < N
  ·go_wp2_with (fail)
   refine (HC.out k wr hlt HBB.out).mono ?_
   rintro e w2 ⟨rfl, hb⟩
   have hs := shift_one k (by omega)
   have B1 : w2.heap[w.heap.size + 1]? = some (.cells #[.int .i64 n, .int .i64 (wordOf p k : Nat)] 23 (0, 0)) := (hb.block _ (blk_lt HB1.out)).trans HB1.out
   have c0 : w2.cell? ⟨w.heap.size + 1, 0, none⟩ = some (.int .i64 n) := blk_cell B1 0
   have c1 : w2.cell? ⟨w.heap.size + 1, 1, none⟩ = some (.int .i64 (wordOf p k : Nat)) := blk_cell B1 1
   have f1 : w2.frozen? ⟨w.heap.size + 1, 1, none⟩ = false := blk_frozen B1 1
   cases hp : p k
   ·have HP := Go.Lib.hid hp
    clear hp
    go_wp2
    go_roundw
    case rel => exact ⟨k + 1, by omega, by go_num, by rw [B1]; simp only [wordOf, HP.out]; simp, (hb.block _ (blk_lt HB0.out)).trans HB0.out, below_then HBB.out HBB.out.size hb⟩
    case measure => simp [intOf]; omega
   ·have HP := Go.Lib.hid hp
    clear hp
    go_wp2
    go_region
    go_wp2
    go_roundw
    case rel => exact ⟨k + 1, by omega, by go_num, blk_drew (blk_put B1 1 _ (by simp only [wordOf, HP.out, if_true]; rw [or_pow p k (by omega)]; rfl)), blk_drew (blk_far ((hb.block _ (blk_lt HB0.out)).trans HB0.out) (by simp) _), (below_set (below_then HBB.out HBB.out.size hb) (by simp)).drew⟩
    case measure => simp [intOf]; omega
  ·have c0 : wr.cell? ⟨w.heap.size + 1, 0, none⟩ = some (.int .i64 n) := blk_cell HB1.out 0
   have c1 : wr.cell? ⟨w.heap.size + 1, 1, none⟩ = some (.int .i64 (wordOf p k : Nat)) := blk_cell HB1.out 1
   have f0 : wr.frozen? ⟨w.heap.size, 0, none⟩ = false := blk_frozen HB0.out 0
   have f1 : wr.frozen? ⟨w.heap.size, 1, none⟩ = false := blk_frozen HB0.out 1
   have d0 : wr.cell? ⟨w.heap.size, 0, none⟩ = some (.int .i64 0) := blk_cell HB0.out 0
   have d1 : wr.cell? ⟨w.heap.size, 1, none⟩ = some (.int .i64 0) := blk_cell HB0.out 1
   obtain rfl : k = N := by omega
   go_wp2
   refine bodyPost_ret (results_cell_row rfl _ _ w.heap.size 23 #[.int .i64 n, .int .i64 (wordOf p k : Nat)] (0, 0) _ rfl ?_ Try.underlying23 rfl (by kernel_rfl)) rfl ⟨rfl, ?_⟩
   ·exact blk_put (blk_put (cs' := #[.int .i64 n, .int .i64 0]) HB0.out 0 _ rfl) 1 _ rfl
   ·exact below_set (below_set HBB.out (Nat.le_refl _)) (Nat.le_refl _)

theorem spread_nat (x i b : Nat) (hx : x < 32) (hi : i ≤ 5) (hb : b ≤ 1) : impl_spread.f (x : Int) (i : Int) (b : Int) = some ((spreadN x i b : Nat) : Int) := spread_is x i b hx hi hb

set_option maxHeartbeats 1000000 in
theorem restrict1_calls (n v : Int) (x i b : Nat) (hx : x < 32) (hi : i ≤ 5) (hb1 : b ≤ 1) (h0 : 0 ≤ v) (h1 : v ≤ 4294967296) (A B C : Nat) (W : World) (hn : W.cell? ⟨A, 0, none⟩ = some (.int .i64 n)) (hv : W.cell? ⟨A, 1, none⟩ = some (.int .i64 v)) (hci : W.cell? ⟨B, 0, none⟩ = some (.int .i64 (i : Int))) (hcb : W.cell? ⟨C, 0, none⟩ = some (.int .i64 (b : Int))) :
  Calls Try.prog 130 #[.int .i64 (x : Int), .pointer (some ⟨A, 0, none⟩), .pointer (some ⟨B, 0, none⟩), .pointer (some ⟨C, 0, none⟩)] W fun e w' => e = .returned (.bool (v.toNat.testBit (spreadN x i b))) ∧ Below W.heap.size W w' := by
 have hlt := spreadN_lt x i b hx hi hb1
 have hat : impl_Table_at.f n v ((spreadN x i b : Nat) : Int) = some (((v.toNat.testBit (spreadN x i b)).toNat : Nat) : Int) := by
  unfold impl_Table_at.f
  rw [if_pos (by omega)]
  have e : shr .i64 v ((spreadN x i b : Nat) : Int) = v / 2 ^ ((spreadN x i b : Nat) : Int).toNat := by
   unfold shr
   rw [Nat.min_eq_left (by simp [IntKind.bits]; omega)]
  rw [e, bit_is h0 (by omega) (by omega) (by omega), Int.toNat_natCast]
 have HA := Go.Lib.hid hat
 have HS := Go.Lib.hid (spread_nat x i b hx hi hb1)
 clear hat
 have E2 := Go.Lib.hid (show ((((v.toNat.testBit (spreadN x i b)).toNat : Nat) : Int) == 1) = v.toNat.testBit (spreadN x i b) by cases v.toNat.testBit (spreadN x i b) <;> rfl)
 obtain ⟨sp, hsp⟩ : ∃ sp : Nat, spreadN x i b = sp := ⟨_, rfl⟩
 rw [hsp] at HA HS E2 hlt ⊢
 clear hsp
 obtain ⟨bt_, hbt⟩ : ∃ z : Bool, v.toNat.testBit sp = z := ⟨_, rfl⟩
 rw [hbt] at HA E2 ⊢
 clear hbt
 go_enter Try.func130, Try.ntmps130
 go_wp2_with (fail)
 go_region_with (first | (go_at_call 93; (with_reducible refine (impl_spread.calls (x : Int) (i : Int) (b : Int) _ _ HS.out).mono ?_); rintro e w' ⟨rfl, ⟨nd, rfl⟩⟩) | (go_at_call 92; (with_reducible refine (impl_Table_at.calls n v (sp : Int) _ _ HA.out).mono ?_); rintro e w' ⟨rfl, hb⟩))
 all_goals (go_wp2; go_ret)
 all_goals exact ⟨ret_bool E2.out, ⟨hb.os, hb.tape, hb.output, hb.size, hb.block⟩⟩

def impl_Table_restrict.f (a0_0 : Int) (a0_1 : Int) (a1 : Int) (a2 : Int) : Option (Int × Int) := if 1 ≤ a0_0 ∧ a0_0 ≤ 5 ∧ 0 ≤ a0_1 ∧ a0_1 ≤ 4294967296 ∧ 0 ≤ a1 ∧ a1 ≤ 5 ∧ 0 ≤ a2 ∧ a2 ≤ 1 then some (a0_0 - 1, (wordOf (fun x => a0_1.toNat.testBit (spreadN x a1.toNat a2.toNat)) (2 ^ (a0_0 - 1).toNat) : Nat)) else none
set_option maxHeartbeats 1000000 in
set_option maxRecDepth 100000 in
theorem impl_Table_restrict.calls (a0_0 : Int) (a0_1 : Int) (a1 : Int) (a2 : Int) (r1 : Int) (r2 : Int) (w : World) (h : impl_Table_restrict.f a0_0 a0_1 a1 a2 = some (r1, r2)) :
  Calls Try.prog 102 #[.agg #[.int .i64 a0_0, .int .i64 a0_1], .int .i64 a1, .int .i64 a2] w fun e w' => e = .returned (.agg #[.int .i64 r1, .int .i64 r2]) ∧ Below w.heap.size w w' := by
 unfold impl_Table_restrict.f at h
 split at h
 ·rename_i hh
  obtain ⟨g0, g1, g2, g3, g4, g5, g6, g7⟩ := hh
  obtain ⟨n, hn⟩ := Int.eq_ofNat_of_zero_le (show 0 ≤ a0_0 - 1 by omega)
  obtain ⟨i, rfl⟩ := Int.eq_ofNat_of_zero_le g4
  obtain ⟨b, rfl⟩ := Int.eq_ofNat_of_zero_le g6
  have ha : a0_0 = (n : Int) + 1 := by omega
  subst ha
  rw [show (n : Int) + 1 - 1 = n by omega] at h
  clear hn
  simp only [Option.some.injEq, Prod.mk.injEq, Int.toNat_natCast] at h
  obtain ⟨rfl, rfl⟩ := h
  have hN := shift_one n (by omega)
  have h32 : 2 ^ n ≤ 2 ^ 4 := Nat.pow_le_pow_right (by decide) (by omega)
  have h16 : 2 ^ n ≤ 32 := by omega
  have HC := Go.Lib.hid (fun W => makeTable_restrict (n : Int) (2 ^ n) h16 hN (.pointer (some ⟨w.heap.size, 0, none⟩)) (.pointer (some ⟨w.heap.size + 1, 0, none⟩)) (.pointer (some ⟨w.heap.size + 2, 0, none⟩)) (fun x => a0_1.toNat.testBit (spreadN x i b)) W)
  have hmf : ∀ (fn : Fn) (first cap : Array Value) (w : World), (Instr.makeFunc fn first cap).run Try.prog w = .ok (.func fn first cap) w := fun _ _ _ _ => rfl
  have HW := Go.Lib.hid (show wrap64 ((n : Int) + 1 - 1) = n by unfold wrap64; omega)
  clear hN
  go_enter Try.func102, Try.ntmps102
  go_wp2_with (fail)
  (try rw [HW.out])
  (try rw [show (n : Int) + 1 - 1 = n by omega])
  refine (HC.out _ (fun k W hk hb => restrict1_calls ((n : Int) + 1) a0_1 k i b (by omega) (by omega) (by omega) g2 g3 w.heap.size (w.heap.size + 1) (w.heap.size + 2) W ?_ ?_ ?_ ?_)).mono ?_
  ·exact pw_cell_below hb (by go_simp)
  ·exact pw_cell_below hb (by go_simp)
  ·exact pw_cell_below hb (by go_simp)
  ·exact pw_cell_below hb (by go_simp)
  rintro e w2 ⟨rfl, hb⟩
  have B0 : w2.heap[w.heap.size + 3]? = some (.cells #[.int .i64 0, .int .i64 0] 23 (0, 0)) := blk_below (by simpa using blk_new (((w.alloc (.cells #[.int .i64 ((n : Int) + 1), .int .i64 a0_1] 23)).alloc (.cells #[.int .i64 (i : Int)] 3)).alloc (.cells #[.int .i64 (b : Int)] 3)) (.cells #[.int .i64 0, .int .i64 0] 23)) hb
  have f0 : w2.frozen? ⟨w.heap.size + 3, 0, none⟩ = false := blk_frozen B0 0
  have f1 : w2.frozen? ⟨w.heap.size + 3, 1, none⟩ = false := blk_frozen B0 1
  have d0 : w2.cell? ⟨w.heap.size + 3, 0, none⟩ = some (.int .i64 0) := blk_cell B0 0
  have d1 : w2.cell? ⟨w.heap.size + 3, 1, none⟩ = some (.int .i64 0) := blk_cell B0 1
  go_wp2
  refine bodyPost_ret (results_cell_row rfl _ _ (w.heap.size + 3) 23 #[.int .i64 (n : Int), .int .i64 (wordOf (fun x => a0_1.toNat.testBit (spreadN x i b)) (2 ^ n) : Nat)] (0, 0) _ rfl ?_ Try.underlying23 rfl (by kernel_rfl)) rfl ⟨rfl, ?_⟩
  ·exact blk_put (blk_put (cs' := #[.int .i64 (n : Int), .int .i64 0]) B0 0 _ rfl) 1 _ rfl
  ·exact below_set (below_set (below_then (((((Below.refl _ _).alloc (Nat.le_refl _) _).alloc (by simp) _).alloc (by simp; omega) _).alloc (by simp; omega) _) (by simp; omega) hb) (by omega)) (by omega)
 ·cases h

end Go.Proofs.Ytijpcemcijaeeaa.P

namespace Go.Proofs.Ytijpcemcijaeeaa.P
set_option linter.unusedVariables false
set_option linter.unusedSimpArgs false
open Go.RowKit Go.Proofs.Ytijpcemcijaeeaa.Bits Go.Proofs.YtijpcemcijaeeaaW.PrintWords Go.Proofs.YtijpcemcijaeeaaW.PrintLast Go.Proofs.YtijpcemcijaeeaaW.PrintMore

set_option maxHeartbeats 1000000 in
set_option maxRecDepth 100000 in
theorem makeTable_variable (n : Int) (N : Nat) (h1 : N ≤ 32) (hN : ∀ W : World, Sem.run Try.prog (Op.shift BinOp.shl IntKind.i64 1 IntKind.i64 n) W = .ok (.int .i64 (N : Int)) W) (c0 : Value) (p : Nat → Bool) (w : World)
  (hcl : ∀ (k : Nat) (W : World), k < N → Below w.heap.size w W → Calls Try.prog 126 #[.int .i64 (k : Int), c0] W fun e w' => e = .returned (.bool (p k)) ∧ Below W.heap.size W w') :
  Calls Try.prog 82 #[.int .i64 n, .func (.func 126) #[] #[c0]] w fun e w' => e = .returned (.agg #[.int .i64 n, .int .i64 (wordOf p N : Nat)]) ∧ Below w.heap.size w w' := by
 have HC := Go.Lib.hid hcl
 clear hcl
 go_enter Try.func82, Try.ntmps82
 go_wp2
 go_loopw [6, 11] (fun v6 i wr => ∃ k : Nat, k ≤ N ∧ i = .int .i64 (k : Int) ∧ wr.heap[w.heap.size + 1]? = some (.cells #[.int .i64 n, .int .i64 (wordOf p k : Nat)] 23 (0, 0)) ∧ wr.heap[w.heap.size]? = some (.cells #[.int .i64 0, .int .i64 0] 23 (0, 0)) ∧ Below w.heap.size w wr) (fun _ i _ => N - (intOf i).toNat)
 case atStart =>
  refine ⟨0, by omega, rfl, ?_, ?_, ((Below.refl _ _).alloc (Nat.le_refl _) _).alloc (by simp) _⟩
  ·simpa [wordOf] using heap_alloc_new (w.alloc (.cells #[.int .i64 0, .int .i64 0] 23)) (.cells #[.int .i64 n, .int .i64 0] 23)
  ·exact (Below.heap_alloc _ _ _ (by simp)).trans (heap_alloc_new _ _)
 case round =>
  obtain ⟨k, hk, rfl, hb1, hb0, hB⟩ := hrel
  have HB1 := Go.Lib.hid hb1
  have HB0 := Go.Lib.hid hb0
  have HBB := Go.Lib.hid hB
  clear hb1 hb0 hB
  by_cases hlt : k < N
  ·go_wp2_with (fail)
   refine (HC.out k wr hlt HBB.out).mono ?_
   rintro e w2 ⟨rfl, hb⟩
   have hs := shift_one k (by omega)
   have B1 : w2.heap[w.heap.size + 1]? = some (.cells #[.int .i64 n, .int .i64 (wordOf p k : Nat)] 23 (0, 0)) := (hb.block _ (blk_lt HB1.out)).trans HB1.out
   have c0 : w2.cell? ⟨w.heap.size + 1, 0, none⟩ = some (.int .i64 n) := blk_cell B1 0
   have c1 : w2.cell? ⟨w.heap.size + 1, 1, none⟩ = some (.int .i64 (wordOf p k : Nat)) := blk_cell B1 1
   have f1 : w2.frozen? ⟨w.heap.size + 1, 1, none⟩ = false := blk_frozen B1 1
   cases hp : p k
   ·have HP := Go.Lib.hid hp
    clear hp
    go_wp2
    go_roundw
    case rel => exact ⟨k + 1, by omega, by go_num, by rw [B1]; simp only [wordOf, HP.out]; simp, (hb.block _ (blk_lt HB0.out)).trans HB0.out, below_then HBB.out HBB.out.size hb⟩
    case measure => simp [intOf]; omega
   ·have HP := Go.Lib.hid hp
    clear hp
    go_wp2
    go_region
    go_wp2
    go_roundw
    case rel => exact ⟨k + 1, by omega, by go_num, blk_drew (blk_put B1 1 _ (by simp only [wordOf, HP.out, if_true]; rw [or_pow p k (by omega)]; rfl)), blk_drew (blk_far ((hb.block _ (blk_lt HB0.out)).trans HB0.out) (by simp) _), (below_set (below_then HBB.out HBB.out.size hb) (by simp)).drew⟩
    case measure => simp [intOf]; omega
  ·have c0 : wr.cell? ⟨w.heap.size + 1, 0, none⟩ = some (.int .i64 n) := blk_cell HB1.out 0
   have c1 : wr.cell? ⟨w.heap.size + 1, 1, none⟩ = some (.int .i64 (wordOf p k : Nat)) := blk_cell HB1.out 1
   have f0 : wr.frozen? ⟨w.heap.size, 0, none⟩ = false := blk_frozen HB0.out 0
   have f1 : wr.frozen? ⟨w.heap.size, 1, none⟩ = false := blk_frozen HB0.out 1
   have d0 : wr.cell? ⟨w.heap.size, 0, none⟩ = some (.int .i64 0) := blk_cell HB0.out 0
   have d1 : wr.cell? ⟨w.heap.size, 1, none⟩ = some (.int .i64 0) := blk_cell HB0.out 1
   obtain rfl : k = N := by omega
   go_wp2
   refine bodyPost_ret (results_cell_row rfl _ _ w.heap.size 23 #[.int .i64 n, .int .i64 (wordOf p k : Nat)] (0, 0) _ rfl ?_ Try.underlying23 rfl (by kernel_rfl)) rfl ⟨rfl, ?_⟩
   ·exact blk_put (blk_put (cs' := #[.int .i64 n, .int .i64 0]) HB0.out 0 _ rfl) 1 _ rfl
   ·exact below_set (below_set HBB.out (Nat.le_refl _)) (Nat.le_refl _)

set_option maxHeartbeats 400000 in
theorem variable1_calls (x i : Nat) (hx : x < 32) (hi : i ≤ 5) (b : Nat) (W : World) (hc : W.cell? ⟨b, 0, none⟩ = some (.int .i64 (i : Int))) :
  Calls Try.prog 126 #[.int .i64 (x : Int), .pointer (some ⟨b, 0, none⟩)] W fun e w' => e = .returned (.bool (x.testBit i)) ∧ Below W.heap.size W w' := by
 have hs : ∀ w : World, Sem.run Try.prog (Op.shift BinOp.shr IntKind.i64 (x : Int) IntKind.i64 (i : Int)) w = .ok (.int .i64 (((x : Int) / 2 ^ (i : Int).toNat))) w := fun w => by
  rw [shift_shr _ _ _ _ (by omega) (by simp [IntKind.bits]; omega)]
  rfl
 have hb := bit_is (w := (x : Int)) (x := (i : Int)) (by omega) (by omega) (by omega) (by omega)
 rw [Int.toNat_natCast, Int.toNat_natCast] at hb
 have e : ((bits BinOp.and IntKind.i64 ((x : Int) / 2 ^ i) 1) == 1) = x.testBit i := by
  rw [hb]
  cases x.testBit i <;> rfl
 rw [← e]
 clear e hb
 go_enter Try.func126, Try.ntmps126
 go_wp2
 go_ret
 exact ⟨rfl, Below.refl _ _⟩

def impl_variable.f (a0 : Int) (a1 : Int) : Option (Int × Int) := if 0 ≤ a0 ∧ a0 ≤ 5 ∧ 0 ≤ a1 ∧ a1 ≤ 5 then some (a0, (wordOf (fun x => x.testBit a1.toNat) (2 ^ a0.toNat) : Nat)) else none
set_option maxHeartbeats 1000000 in
set_option maxRecDepth 100000 in
theorem impl_variable.calls (a0 : Int) (a1 : Int) (r1 : Int) (r2 : Int) (w : World) (h : impl_variable.f a0 a1 = some (r1, r2)) :
  Calls Try.prog 77 #[.int .i64 a0, .int .i64 a1] w fun e w' => e = .returned (.agg #[.int .i64 r1, .int .i64 r2]) ∧ Below w.heap.size w w' := by
 unfold impl_variable.f at h
 split at h
 ·rename_i hh
  obtain ⟨g0, g1, g2, g3⟩ := hh
  obtain ⟨n, rfl⟩ := Int.eq_ofNat_of_zero_le g0
  obtain ⟨i, rfl⟩ := Int.eq_ofNat_of_zero_le g2
  simp only [Option.some.injEq, Prod.mk.injEq, Int.toNat_natCast] at h
  obtain ⟨rfl, rfl⟩ := h
  have hN := shift_one n (by omega)
  have h32 : 2 ^ n ≤ 2 ^ 5 := Nat.pow_le_pow_right (by decide) (by omega)
  have HC := Go.Lib.hid (fun W => makeTable_variable (n : Int) (2 ^ n) h32 hN (.pointer (some ⟨w.heap.size, 0, none⟩)) (fun x => x.testBit i) W)
  have hmf : ∀ (fn : Fn) (first cap : Array Value) (w : World), (Instr.makeFunc fn first cap).run Try.prog w = .ok (.func fn first cap) w := fun _ _ _ _ => rfl
  clear hN
  go_enter Try.func77, Try.ntmps77
  go_wp2_with (fail)
  refine (HC.out _ (fun k W hk hb => variable1_calls k i (by omega) (by omega) w.heap.size W ?_)).mono ?_
  ·exact pw_cell_below hb (by go_simp)
  rintro e w2 ⟨rfl, hb⟩
  have B0 : w2.heap[w.heap.size + 1]? = some (.cells #[.int .i64 0, .int .i64 0] 23 (0, 0)) := blk_below (by simpa using blk_new (w.alloc (.cells #[.int .i64 (i : Int)] 3)) (.cells #[.int .i64 0, .int .i64 0] 23)) hb
  have f0 : w2.frozen? ⟨w.heap.size + 1, 0, none⟩ = false := blk_frozen B0 0
  have f1 : w2.frozen? ⟨w.heap.size + 1, 1, none⟩ = false := blk_frozen B0 1
  have d0 : w2.cell? ⟨w.heap.size + 1, 0, none⟩ = some (.int .i64 0) := blk_cell B0 0
  have d1 : w2.cell? ⟨w.heap.size + 1, 1, none⟩ = some (.int .i64 0) := blk_cell B0 1
  go_wp2
  refine bodyPost_ret (results_cell_row rfl _ _ (w.heap.size + 1) 23 #[.int .i64 (n : Int), .int .i64 (wordOf (fun x => x.testBit i) (2 ^ n) : Nat)] (0, 0) _ rfl ?_ Try.underlying23 rfl (by kernel_rfl)) rfl ⟨rfl, ?_⟩
  ·exact blk_put (blk_put (cs' := #[.int .i64 (n : Int), .int .i64 0]) B0 0 _ rfl) 1 _ rfl
  ·exact below_set (below_set (below_then (((Below.refl _ _).alloc (Nat.le_refl _) _).alloc (by simp) _) (by simp; omega) hb) (by omega)) (by omega)
 ·cases h

end Go.Proofs.Ytijpcemcijaeeaa.P

namespace Go.Proofs.Ytijpcemcijaeeaa.P
set_option linter.unusedVariables false
set_option linter.unusedSimpArgs false
open Go.RowKit Go.Proofs.Ytijpcemcijaeeaa.Bits Go.Proofs.YtijpcemcijaeeaaW.PrintWords Go.Proofs.YtijpcemcijaeeaaW.PrintLast Go.Proofs.YtijpcemcijaeeaaW.PrintMore

set_option maxHeartbeats 1000000 in
set_option maxRecDepth 100000 in
theorem makeTable_shift (n : Int) (N : Nat) (h1 : N ≤ 32) (hN : ∀ W : World, Sem.run Try.prog (Op.shift BinOp.shl IntKind.i64 1 IntKind.i64 n) W = .ok (.int .i64 (N : Int)) W) (c0 c1 : Value) (p : Nat → Bool) (w : World)
  (hcl : ∀ (k : Nat) (W : World), k < N → Below w.heap.size w W → Calls Try.prog 129 #[.int .i64 (k : Int), c0, c1] W fun e w' => e = .returned (.bool (p k)) ∧ Below W.heap.size W w') :
  Calls Try.prog 82 #[.int .i64 n, .func (.func 129) #[] #[c0, c1]] w fun e w' => e = .returned (.agg #[.int .i64 n, .int .i64 (wordOf p N : Nat)]) ∧ Below w.heap.size w w' := by
 have HC := Go.Lib.hid hcl
 clear hcl
 go_enter Try.func82, Try.ntmps82
 go_wp2
 go_loopw [6, 11] (fun v6 i wr => ∃ k : Nat, k ≤ N ∧ i = .int .i64 (k : Int) ∧ wr.heap[w.heap.size + 1]? = some (.cells #[.int .i64 n, .int .i64 (wordOf p k : Nat)] 23 (0, 0)) ∧ wr.heap[w.heap.size]? = some (.cells #[.int .i64 0, .int .i64 0] 23 (0, 0)) ∧ Below w.heap.size w wr) (fun _ i _ => N - (intOf i).toNat)
 case atStart =>
  refine ⟨0, by omega, rfl, ?_, ?_, ((Below.refl _ _).alloc (Nat.le_refl _) _).alloc (by simp) _⟩
  ·simpa [wordOf] using heap_alloc_new (w.alloc (.cells #[.int .i64 0, .int .i64 0] 23)) (.cells #[.int .i64 n, .int .i64 0] 23)
  ·exact (Below.heap_alloc _ _ _ (by simp)).trans (heap_alloc_new _ _)
 case round =>
  obtain ⟨k, hk, rfl, hb1, hb0, hB⟩ := hrel
  have HB1 := Go.Lib.hid hb1
  have HB0 := Go.Lib.hid hb0
  have HBB := Go.Lib.hid hB
  clear hb1 hb0 hB
  by_cases hlt : k < N
  ·go_wp2_with (fail)
   refine (HC.out k wr hlt HBB.out).mono ?_
   rintro e w2 ⟨rfl, hb⟩
   have hs := shift_one k (by omega)
   have B1 : w2.heap[w.heap.size + 1]? = some (.cells #[.int .i64 n, .int .i64 (wordOf p k : Nat)] 23 (0, 0)) := (hb.block _ (blk_lt HB1.out)).trans HB1.out
   have c0 : w2.cell? ⟨w.heap.size + 1, 0, none⟩ = some (.int .i64 n) := blk_cell B1 0
   have c1 : w2.cell? ⟨w.heap.size + 1, 1, none⟩ = some (.int .i64 (wordOf p k : Nat)) := blk_cell B1 1
   have f1 : w2.frozen? ⟨w.heap.size + 1, 1, none⟩ = false := blk_frozen B1 1
   cases hp : p k
   ·have HP := Go.Lib.hid hp
    clear hp
    go_wp2
    go_roundw
    case rel => exact ⟨k + 1, by omega, by go_num, by rw [B1]; simp only [wordOf, HP.out]; simp, (hb.block _ (blk_lt HB0.out)).trans HB0.out, below_then HBB.out HBB.out.size hb⟩
    case measure => simp [intOf]; omega
   ·have HP := Go.Lib.hid hp
    clear hp
    go_wp2
    go_region
    go_wp2
    go_roundw
    case rel => exact ⟨k + 1, by omega, by go_num, blk_drew (blk_put B1 1 _ (by simp only [wordOf, HP.out, if_true]; rw [or_pow p k (by omega)]; rfl)), blk_drew (blk_far ((hb.block _ (blk_lt HB0.out)).trans HB0.out) (by simp) _), (below_set (below_then HBB.out HBB.out.size hb) (by simp)).drew⟩
    case measure => simp [intOf]; omega
  ·have c0 : wr.cell? ⟨w.heap.size + 1, 0, none⟩ = some (.int .i64 n) := blk_cell HB1.out 0
   have c1 : wr.cell? ⟨w.heap.size + 1, 1, none⟩ = some (.int .i64 (wordOf p k : Nat)) := blk_cell HB1.out 1
   have f0 : wr.frozen? ⟨w.heap.size, 0, none⟩ = false := blk_frozen HB0.out 0
   have f1 : wr.frozen? ⟨w.heap.size, 1, none⟩ = false := blk_frozen HB0.out 1
   have d0 : wr.cell? ⟨w.heap.size, 0, none⟩ = some (.int .i64 0) := blk_cell HB0.out 0
   have d1 : wr.cell? ⟨w.heap.size, 1, none⟩ = some (.int .i64 0) := blk_cell HB0.out 1
   obtain rfl : k = N := by omega
   go_wp2
   refine bodyPost_ret (results_cell_row rfl _ _ w.heap.size 23 #[.int .i64 n, .int .i64 (wordOf p k : Nat)] (0, 0) _ rfl ?_ Try.underlying23 rfl (by kernel_rfl)) rfl ⟨rfl, ?_⟩
   ·exact blk_put (blk_put (cs' := #[.int .i64 n, .int .i64 0]) HB0.out 0 _ rfl) 1 _ rfl
   ·exact below_set (below_set HBB.out (Nat.le_refl _)) (Nat.le_refl _)

set_option maxHeartbeats 400000 in
theorem shift1_calls (n v : Int) (x s : Nat) (hx : x < 32) (hs : s < 32) (h0 : 0 ≤ v) (h1 : v ≤ 4294967296) (b c : Nat) (W : World) (hn : W.cell? ⟨b, 0, none⟩ = some (.int .i64 n)) (hv : W.cell? ⟨b, 1, none⟩ = some (.int .i64 v)) (hc : W.cell? ⟨c, 0, none⟩ = some (.int .i64 (s : Int))) :
  Calls Try.prog 129 #[.int .i64 (x : Int), .pointer (some ⟨b, 0, none⟩), .pointer (some ⟨c, 0, none⟩)] W fun e w' => e = .returned (.bool (v.toNat.testBit (x ^^^ s))) ∧ Below W.heap.size W w' := by
 have hxs : x ^^^ s < 32 := Nat.xor_lt_two_pow (n := 5) hx hs
 have hx2 := xor_nat x s (by rw [p63]; omega) (by rw [p63]; omega)
 have hat : impl_Table_at.f n v ((x ^^^ s : Nat) : Int) = some (((v.toNat.testBit (x ^^^ s)).toNat : Nat) : Int) := by
  unfold impl_Table_at.f
  rw [if_pos (by omega)]
  have e : shr .i64 v ((x ^^^ s : Nat) : Int) = v / 2 ^ ((x ^^^ s : Nat) : Int).toNat := by
   unfold shr
   rw [Nat.min_eq_left (by simp [IntKind.bits]; omega)]
  rw [e, bit_is h0 (by omega) (by omega) (by omega), Int.toNat_natCast]
 have HA := Go.Lib.hid hat
 have HX := Go.Lib.hid hx2
 clear hat hx2
 go_enter Try.func129, Try.ntmps129
 go_wp2_with (fail)
 rw [HX.out]
 refine (impl_Table_at.calls n v ((x ^^^ s : Nat) : Int) _ _ HA.out).mono ?_
 rintro e w2 ⟨rfl, hb⟩
 have e2 : ((((v.toNat.testBit (x ^^^ s)).toNat : Nat) : Int) == 1) = v.toNat.testBit (x ^^^ s) := by cases v.toNat.testBit (x ^^^ s) <;> rfl
 have E2 := Go.Lib.hid e2
 clear e2
 go_wp2
 go_ret
 exact ⟨ret_bool E2.out, hb⟩

def impl_Table_shift.f (a0_0 : Int) (a0_1 : Int) (a1 : Int) : Option (Int × Int) := if 0 ≤ a0_0 ∧ a0_0 ≤ 5 ∧ 0 ≤ a0_1 ∧ a0_1 ≤ 4294967296 ∧ 0 ≤ a1 ∧ a1 < 32 then some (a0_0, (wordOf (fun x => a0_1.toNat.testBit (x ^^^ a1.toNat)) (2 ^ a0_0.toNat) : Nat)) else none
set_option maxHeartbeats 1000000 in
set_option maxRecDepth 100000 in
theorem impl_Table_shift.calls (a0_0 : Int) (a0_1 : Int) (a1 : Int) (r1 : Int) (r2 : Int) (w : World) (h : impl_Table_shift.f a0_0 a0_1 a1 = some (r1, r2)) :
  Calls Try.prog 96 #[.agg #[.int .i64 a0_0, .int .i64 a0_1], .int .i64 a1] w fun e w' => e = .returned (.agg #[.int .i64 r1, .int .i64 r2]) ∧ Below w.heap.size w w' := by
 unfold impl_Table_shift.f at h
 split at h
 ·rename_i hh
  obtain ⟨g0, g1, g2, g3, g4, g5⟩ := hh
  obtain ⟨n, rfl⟩ := Int.eq_ofNat_of_zero_le g0
  obtain ⟨s, rfl⟩ := Int.eq_ofNat_of_zero_le g4
  simp only [Option.some.injEq, Prod.mk.injEq, Int.toNat_natCast] at h
  obtain ⟨rfl, rfl⟩ := h
  have hN := shift_one n (by omega)
  have h32 : 2 ^ n ≤ 2 ^ 5 := Nat.pow_le_pow_right (by decide) (by omega)
  have HC := Go.Lib.hid (fun W => makeTable_shift (n : Int) (2 ^ n) h32 hN (.pointer (some ⟨w.heap.size, 0, none⟩)) (.pointer (some ⟨w.heap.size + 1, 0, none⟩)) (fun x => a0_1.toNat.testBit (x ^^^ s)) W)
  have hmf : ∀ (fn : Fn) (first cap : Array Value) (w : World), (Instr.makeFunc fn first cap).run Try.prog w = .ok (.func fn first cap) w := fun _ _ _ _ => rfl
  clear hN
  go_enter Try.func96, Try.ntmps96
  go_wp2_with (fail)
  refine (HC.out _ (fun k W hk hb => shift1_calls (n : Int) a0_1 k s (by omega) (by omega) g2 g3 w.heap.size (w.heap.size + 1) W ?_ ?_ ?_)).mono ?_
  ·exact pw_cell_below hb (by go_simp)
  ·exact pw_cell_below hb (by go_simp)
  ·exact pw_cell_below hb (by go_simp)
  rintro e w2 ⟨rfl, hb⟩
  have B0 : w2.heap[w.heap.size + 2]? = some (.cells #[.int .i64 0, .int .i64 0] 23 (0, 0)) := blk_below (by simpa using blk_new ((w.alloc (.cells #[.int .i64 (n : Int), .int .i64 a0_1] 23)).alloc (.cells #[.int .i64 (s : Int)] 3)) (.cells #[.int .i64 0, .int .i64 0] 23)) hb
  have f0 : w2.frozen? ⟨w.heap.size + 2, 0, none⟩ = false := blk_frozen B0 0
  have f1 : w2.frozen? ⟨w.heap.size + 2, 1, none⟩ = false := blk_frozen B0 1
  have d0 : w2.cell? ⟨w.heap.size + 2, 0, none⟩ = some (.int .i64 0) := blk_cell B0 0
  have d1 : w2.cell? ⟨w.heap.size + 2, 1, none⟩ = some (.int .i64 0) := blk_cell B0 1
  go_wp2
  refine bodyPost_ret (results_cell_row rfl _ _ (w.heap.size + 2) 23 #[.int .i64 (n : Int), .int .i64 (wordOf (fun x => a0_1.toNat.testBit (x ^^^ s)) (2 ^ n) : Nat)] (0, 0) _ rfl ?_ Try.underlying23 rfl (by kernel_rfl)) rfl ⟨rfl, ?_⟩
  ·exact blk_put (blk_put (cs' := #[.int .i64 (n : Int), .int .i64 0]) B0 0 _ rfl) 1 _ rfl
  ·exact below_set (below_set (below_then ((((Below.refl _ _).alloc (Nat.le_refl _) _).alloc (by simp) _).alloc (by simp; omega) _) (by simp; omega) hb) (by omega)) (by omega)
 ·cases h

end Go.Proofs.Ytijpcemcijaeeaa.P

namespace Go.Proofs.Ytijpcemcijaeeaa.P
set_option linter.unusedVariables false
set_option linter.unusedSimpArgs false
open Go.RowKit Go.Proofs.Ytijpcemcijaeeaa.Bits Go.Proofs.YtijpcemcijaeeaaW.PrintWords Go.Proofs.YtijpcemcijaeeaaW.PrintLast Go.Proofs.YtijpcemcijaeeaaW.PrintMore

/-- was the value b seen at an input below k of the cube -/
def seenB (w m v : Nat) (b : Bool) : Nat → Bool
 | 0 => false
 | k + 1 => seenB w m v b k || (decide (k &&& m = v) && (w.testBit k == b))

def cubeV (w m v M : Nat) : Int := if seenB w m v false M && seenB w m v true M then 2 else if seenB w m v true M then 1 else 0

def impl_Table_cube.f (a0_0 : Int) (a0_1 : Int) (a1 : Int) (a2 : Int) : Option (Int) := if 0 ≤ a0_0 ∧ a0_0 ≤ 5 ∧ 0 ≤ a0_1 ∧ a0_1 ≤ 4294967296 ∧ 0 ≤ a1 ∧ a1 < 32 ∧ 0 ≤ a2 ∧ a2 < 32 then some (cubeV a0_1.toNat a1.toNat a2.toNat (2 ^ a0_0.toNat)) else none

set_option maxHeartbeats 1000000 in
set_option maxRecDepth 100000 in
theorem impl_Table_cube.calls (a0_0 : Int) (a0_1 : Int) (a1 : Int) (a2 : Int) (r : Int) (w : World) (h : impl_Table_cube.f a0_0 a0_1 a1 a2 = some r) :
  Calls Try.prog 99 #[.agg #[.int .i64 a0_0, .int .i64 a0_1], .int .i64 a1, .int .i64 a2] w fun e w' => e = .returned (.int .i64 r) ∧ Below w.heap.size w w' := by
 unfold impl_Table_cube.f at h
 split at h
 ·rename_i hh
  obtain ⟨g0, g1, g2, g3, g4, g5, g6, g7⟩ := hh
  obtain ⟨n, rfl⟩ := Int.eq_ofNat_of_zero_le g0
  obtain ⟨v, rfl⟩ := Int.eq_ofNat_of_zero_le g2
  obtain ⟨m, rfl⟩ := Int.eq_ofNat_of_zero_le g4
  obtain ⟨u, rfl⟩ := Int.eq_ofNat_of_zero_le g6
  simp only [Option.some.injEq, Int.toNat_natCast] at h
  have HR := Go.Lib.hid h
  clear h
  have hM : 2 ^ n ≤ 2 ^ 5 := Nat.pow_le_pow_right (by decide) (by omega)
  have hsz : impl_Table_size.f (n : Int) (v : Int) = some ((2 ^ n : Nat) : Int) := by
   unfold impl_Table_size.f
   rw [if_pos (by omega)]
   have e : shl .i64 1 (n : Int) = ((2 ^ n : Nat) : Int) := by
    unfold shl
    rw [Nat.min_eq_left (by simp [IntKind.bits]; omega), Int.toNat_natCast, Int.one_mul]
    have : ((2 : Int) ^ n) = ((2 ^ n : Nat) : Int) := by push_cast; rfl
    rw [this]
    exact wrap_nat _ (Nat.pow_lt_pow_right (by decide) (by omega))
   rw [e]
  obtain ⟨M, hMM⟩ : ∃ M, 2 ^ n = M := ⟨_, rfl⟩
  rw [hMM] at hM hsz HR
  clear hMM
  have hM2 : M ≤ 32 := hM
  clear hM
  have HS := Go.Lib.hid hsz
  clear hsz
  go_enter Try.func99, Try.ntmps99
  go_wp2_with (fail)
  refine (impl_Table_size.calls (n : Int) (v : Int) _ _ HS.out).mono ?_
  rintro e w1 ⟨rfl, hb⟩
  have HB1 := Go.Lib.hid hb
  clear hb
  have HF := Go.Lib.hid (blk_below (by simpa using blk_alloc (blk_new w (.cells #[.int .i64 (n : Int), .int .i64 (v : Int)] 23)) (.cells #[.bool false, .bool false] 104)) HB1.out : w1.heap[w.heap.size]? = some (.cells #[.int .i64 (n : Int), .int .i64 (v : Int)] 23 (0, 0)))
  have HN := Go.Lib.hid (blk_below (by simpa using blk_new (w.alloc (.cells #[.int .i64 (n : Int), .int .i64 (v : Int)] 23)) (.cells #[.bool false, .bool false] 104)) HB1.out : w1.heap[w.heap.size + 1]? = some (.cells #[.bool false, .bool false] 104 (0, 0)))
  go_wp2
  go_loopw [8, 12] (fun v8 i wr => ∃ k : Nat, k ≤ M ∧ i = .int .i64 (k : Int) ∧ wr.heap[w.heap.size + 1]? = some (.cells #[.bool (seenB v m u false k), .bool (seenB v m u true k)] 104 (0, 0)) ∧ wr.heap[w.heap.size]? = some (.cells #[.int .i64 (n : Int), .int .i64 (v : Int)] 23 (0, 0)) ∧ Below w.heap.size w wr) (fun _ i _ => M - (intOf i).toNat)
  case atStart =>
   exact ⟨0, by omega, rfl, HN.out, HF.out, below_then (((Below.refl _ _).alloc (Nat.le_refl _) _).alloc (by simp) _) (by simp; omega) HB1.out⟩
  case round =>
   obtain ⟨k, hk, rfl, hb1, hb0, hB⟩ := hrel
   have HBS := Go.Lib.hid hb1
   have HBF := Go.Lib.hid hb0
   have HBB := Go.Lib.hid hB
   clear hb1 hb0 hB
   have s0 : wr.cell? ⟨w.heap.size + 1, 0, none⟩ = some (.bool (seenB v m u false k)) := blk_cell HBS.out 0
   have s1 : wr.cell? ⟨w.heap.size + 1, 1, none⟩ = some (.bool (seenB v m u true k)) := blk_cell HBS.out 1
   have q0 : wr.cell? ⟨w.heap.size, 0, none⟩ = some (.int .i64 (n : Int)) := blk_cell HBF.out 0
   have q1 : wr.cell? ⟨w.heap.size, 1, none⟩ = some (.int .i64 (v : Int)) := blk_cell HBF.out 1
   have z0 : wr.frozen? ⟨w.heap.size + 1, 0, none⟩ = false := blk_frozen HBS.out 0
   have z1 : wr.frozen? ⟨w.heap.size + 1, 1, none⟩ = false := blk_frozen HBS.out 1
   by_cases hlt : k < M
   ·have HA := Go.Lib.hid (and_nat k m (by rw [p63]; omega) (by rw [p63]; omega))
    by_cases hin : k &&& m = u
    ·have HIN := Go.Lib.hid hin
     have ht : (bits BinOp.and IntKind.i64 (k : Int) (m : Int) == (u : Int)) = true := by rw [HA.out, hin]; exact beq_self_eq_true _
     clear hin
     have hat : impl_Table_at.f (n : Int) (v : Int) (k : Int) = some (((v.testBit k).toNat : Nat) : Int) := by
      unfold impl_Table_at.f
      rw [if_pos (by omega)]
      have e : shr .i64 (v : Int) (k : Int) = (v : Int) / 2 ^ (k : Int).toNat := by
       unfold shr
       rw [Nat.min_eq_left (by simp [IntKind.bits]; omega)]
      rw [e, bit_is (by omega) (by omega) (by omega) (by omega), Int.toNat_natCast, Int.toNat_natCast]
     have HT := Go.Lib.hid hat
     clear hat
     cases hbit : v.testBit k
     ·have HBIT := Go.Lib.hid hbit
      rw [hbit] at HT
      clear hbit
      have HT0 : Hid (impl_Table_at.f (n : Int) (v : Int) (k : Int) = some 0) := HT
      clear HT
      go_wp2_with (fail)
      refine (impl_Table_at.calls (n : Int) (v : Int) (k : Int) _ _ HT0.out).mono ?_
      rintro e w2 ⟨rfl, hb⟩
      have HB2 := Go.Lib.hid hb
      have S2 : w2.heap[w.heap.size + 1]? = some (.cells #[.bool (seenB v m u false k), .bool (seenB v m u true k)] 104 (0, 0)) := blk_below HBS.out hb
      have F2 : w2.heap[w.heap.size]? = some (.cells #[.int .i64 (n : Int), .int .i64 (v : Int)] 23 (0, 0)) := blk_below HBF.out hb
      have s0' : w2.cell? ⟨w.heap.size + 1, 0, none⟩ = some (.bool (seenB v m u false k)) := blk_cell S2 0
      have z0' : w2.frozen? ⟨w.heap.size + 1, 0, none⟩ = false := blk_frozen S2 0
      clear hb s0 s1 q0 q1 z0 z1
      go_wp2
      go_roundw
      case rel =>
       refine ⟨k + 1, by omega, by go_num, ?_, blk_far F2 (by simp) _, below_set (below_then HBB.out HBB.out.size HB2.out) (by simp)⟩
       refine blk_put S2 0 _ ?_
       simp [seenB, HIN.out, HBIT.out]
      case measure => simp [intOf]; omega
     ·have HBIT := Go.Lib.hid hbit
      rw [hbit] at HT
      clear hbit
      have HT0 : Hid (impl_Table_at.f (n : Int) (v : Int) (k : Int) = some 1) := HT
      clear HT
      go_wp2_with (fail)
      refine (impl_Table_at.calls (n : Int) (v : Int) (k : Int) _ _ HT0.out).mono ?_
      rintro e w2 ⟨rfl, hb⟩
      have HB2 := Go.Lib.hid hb
      have S2 : w2.heap[w.heap.size + 1]? = some (.cells #[.bool (seenB v m u false k), .bool (seenB v m u true k)] 104 (0, 0)) := blk_below HBS.out hb
      have F2 : w2.heap[w.heap.size]? = some (.cells #[.int .i64 (n : Int), .int .i64 (v : Int)] 23 (0, 0)) := blk_below HBF.out hb
      have s1' : w2.cell? ⟨w.heap.size + 1, 1, none⟩ = some (.bool (seenB v m u true k)) := blk_cell S2 1
      have z1' : w2.frozen? ⟨w.heap.size + 1, 1, none⟩ = false := blk_frozen S2 1
      clear hb s0 s1 q0 q1 z0 z1
      go_wp2
      go_roundw
      case rel =>
       refine ⟨k + 1, by omega, by go_num, ?_, blk_far F2 (by simp) _, below_set (below_then HBB.out HBB.out.size HB2.out) (by simp)⟩
       refine blk_put S2 1 _ ?_
       simp [seenB, HIN.out, HBIT.out]
      case measure => simp [intOf]; omega
    ·have HIN := Go.Lib.hid hin
     have ht : (bits BinOp.and IntKind.i64 (k : Int) (m : Int) == (u : Int)) = false := by rw [HA.out, beq_eq_false_iff_ne]; omega
     clear hin
     go_wp2
     go_roundw
     case rel =>
      refine ⟨k + 1, by omega, by go_num, ?_, HBF.out, HBB.out⟩
      rw [HBS.out]
      simp [seenB, HIN.out]
     case measure => simp [intOf]; omega
   ·obtain rfl : k = M := by omega
    cases hs0 : seenB v m u false k
    ·rw [hs0] at s0
     cases hs1 : seenB v m u true k
     ·rw [hs1] at s1
      have E : Hid ((0 : Int) = r) := Go.Lib.hid (by rw [← HR.out]; simp [cubeV, hs0, hs1])
      clear hs0 hs1
      go_wp2
      go_ret
      exact ⟨by rw [← E.out]; rfl, HBB.out⟩
     ·rw [hs1] at s1
      have E : Hid ((1 : Int) = r) := Go.Lib.hid (by rw [← HR.out]; simp [cubeV, hs0, hs1])
      clear hs0 hs1
      go_wp2
      go_ret
      exact ⟨by rw [← E.out]; rfl, HBB.out⟩
    ·rw [hs0] at s0
     cases hs1 : seenB v m u true k
     ·rw [hs1] at s1
      have E : Hid ((0 : Int) = r) := Go.Lib.hid (by rw [← HR.out]; simp [cubeV, hs0, hs1])
      clear hs0 hs1
      go_wp2
      go_ret
      exact ⟨by rw [← E.out]; rfl, HBB.out⟩
     ·rw [hs1] at s1
      have E : Hid ((2 : Int) = r) := Go.Lib.hid (by rw [← HR.out]; simp [cubeV, hs0, hs1])
      clear hs0 hs1
      go_wp2
      go_ret
      exact ⟨by rw [← E.out]; rfl, HBB.out⟩
 ·cases h
end Go.Proofs.Ytijpcemcijaeeaa.P
