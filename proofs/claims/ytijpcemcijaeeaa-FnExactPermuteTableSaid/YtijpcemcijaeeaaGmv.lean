/- The program's makeTable over a variable's closure, and variable: what each call comes to. No conditions but those that stand in the theorems. -/
import Derived.Test.YtijpcemcijaeeaaP0
import Derived.Test.YtijpcemcijaeeaaBits
import Derived.Test.YtijpcemcijaeeaaGmb
import Derived.RegionTactic
import Derived.ChangeAlike
import Derived.OneCell
import Derived.Outline
import Derived.Lib.Hide
import Derived.Test.YtijpcemcijaeeaaBits
namespace Go.Proofs.Ytijpcemcijaeeaa.P
set_option linter.unusedVariables false
set_option linter.unusedSimpArgs false
open Go.RowKit Go.Proofs.Ytijpcemcijaeeaa.Bits Go.Proofs.YtijpcemcijaeeaaW.PrintWords Go.Proofs.YtijpcemcijaeeaaW.PrintLast Go.Proofs.YtijpcemcijaeeaaW.PrintMore

set_option maxHeartbeats 1000000 in
set_option maxRecDepth 100000 in
theorem makeTable_variable (n : Int) (N : Nat) (h1 : N ≤ 32) (hN : ∀ W : World, Sem.run Try.prog (Op.shift BinOp.shl IntKind.i64 1 IntKind.i64 n) W = .ok (.int .i64 (N : Int)) W) (c0 : Value) (p : Nat → Bool) (w : World)
    (hcl : ∀ (k : Nat) (W : World), k < N → Below w.heap.size w W → Calls Try.prog 126 #[.int .i64 (k : Int), c0] W fun e w' => e = .returned (.bool (p k)) ∧ Below W.heap.size W w') :
    Calls Try.prog 82 #[.int .i64 n, .func (.func 126) #[] #[c0]] w fun e w' => e = .returned (.agg #[.int .i64 n, .int .i64 (wordOf p N : Nat)]) ∧ Below w.heap.size w w' := by
  have HC := Go.Lib.hid hcl
  clear hcl
  go_enter Try.func82, Try.ntmps82
  go_wp2
  go_loopw [6, 11] (fun v6 i wr => ∃ k : Nat, k ≤ N ∧ i = .int .i64 (k : Int) ∧ wr.heap[w.heap.size + 1]? = some (.cells #[.int .i64 n, .int .i64 (wordOf p k : Nat)] 23 (0, 0)) ∧ wr.heap[w.heap.size]? = some (.cells #[.int .i64 0, .int .i64 0] 23 (0, 0)) ∧ Below w.heap.size w wr) (fun _ i _ => N - (intOf i).toNat)
  case atStart =>
    refine ⟨0, by omega, rfl, ?_, ?_, ((Below.refl _ _).alloc (Nat.le_refl _) _).alloc (by simp) _⟩
    · simpa [wordOf] using heap_alloc_new (w.alloc (.cells #[.int .i64 0, .int .i64 0] 23)) (.cells #[.int .i64 n, .int .i64 0] 23)
    · exact (Below.heap_alloc _ _ _ (by simp)).trans (heap_alloc_new _ _)
  case round =>
    obtain ⟨k, hk, rfl, hb1, hb0, hB⟩ := hrel
    have HB1 := Go.Lib.hid hb1
    have HB0 := Go.Lib.hid hb0
    have HBB := Go.Lib.hid hB
    clear hb1 hb0 hB
    by_cases hlt : k < N
    · go_wp2_with (fail)
      refine (HC.out k wr hlt HBB.out).mono ?_
      rintro e w2 ⟨rfl, hb⟩
      have hs := shift_one k (by omega)
      have B1 : w2.heap[w.heap.size + 1]? = some (.cells #[.int .i64 n, .int .i64 (wordOf p k : Nat)] 23 (0, 0)) := (hb.block _ (blk_lt HB1.out)).trans HB1.out
      have c0 : w2.cell? ⟨w.heap.size + 1, 0, none⟩ = some (.int .i64 n) := blk_cell B1 0
      have c1 : w2.cell? ⟨w.heap.size + 1, 1, none⟩ = some (.int .i64 (wordOf p k : Nat)) := blk_cell B1 1
      have f1 : w2.frozen? ⟨w.heap.size + 1, 1, none⟩ = false := blk_frozen B1 1
      cases hp : p k
      · have HP := Go.Lib.hid hp
        clear hp
        go_wp2
        go_roundw
        case rel => exact ⟨k + 1, by omega, by go_num, by rw [B1]; simp only [wordOf, HP.out]; simp, (hb.block _ (blk_lt HB0.out)).trans HB0.out, below_then HBB.out HBB.out.size hb⟩
        case measure => simp [intOf]; omega
      · have HP := Go.Lib.hid hp
        clear hp
        go_wp2
        go_region
        go_wp2
        go_roundw
        case rel => exact ⟨k + 1, by omega, by go_num, blk_drew (blk_put B1 1 _ (by simp only [wordOf, HP.out, if_true]; rw [or_pow p k (by omega)]; rfl)), blk_drew (blk_far ((hb.block _ (blk_lt HB0.out)).trans HB0.out) (by simp) _), (below_set (below_then HBB.out HBB.out.size hb) (by simp)).drew⟩
        case measure => simp [intOf]; omega
    · have c0 : wr.cell? ⟨w.heap.size + 1, 0, none⟩ = some (.int .i64 n) := blk_cell HB1.out 0
      have c1 : wr.cell? ⟨w.heap.size + 1, 1, none⟩ = some (.int .i64 (wordOf p k : Nat)) := blk_cell HB1.out 1
      have f0 : wr.frozen? ⟨w.heap.size, 0, none⟩ = false := blk_frozen HB0.out 0
      have f1 : wr.frozen? ⟨w.heap.size, 1, none⟩ = false := blk_frozen HB0.out 1
      have d0 : wr.cell? ⟨w.heap.size, 0, none⟩ = some (.int .i64 0) := blk_cell HB0.out 0
      have d1 : wr.cell? ⟨w.heap.size, 1, none⟩ = some (.int .i64 0) := blk_cell HB0.out 1
      obtain rfl : k = N := by omega
      go_wp2
      refine bodyPost_ret (results_cell_row rfl _ _ w.heap.size 23 #[.int .i64 n, .int .i64 (wordOf p k : Nat)] (0, 0) _ rfl ?_ Try.underlying23 rfl (by kernel_rfl)) rfl ⟨rfl, ?_⟩
      · exact blk_put (blk_put (cs' := #[.int .i64 n, .int .i64 0]) HB0.out 0 _ rfl) 1 _ rfl
      · exact below_set (below_set HBB.out (Nat.le_refl _)) (Nat.le_refl _)

set_option maxHeartbeats 400000 in
theorem variable1_calls (x i : Nat) (hx : x < 32) (hi : i ≤ 5) (b : Nat) (W : World) (hc : W.cell? ⟨b, 0, none⟩ = some (.int .i64 (i : Int))) :
    Calls Try.prog 126 #[.int .i64 (x : Int), .pointer (some ⟨b, 0, none⟩)] W fun e w' => e = .returned (.bool (x.testBit i)) ∧ Below W.heap.size W w' := by
  have hs : ∀ w : World, Sem.run Try.prog (Op.shift BinOp.shr IntKind.i64 (x : Int) IntKind.i64 (i : Int)) w = .ok (.int .i64 (((x : Int) / 2 ^ (i : Int).toNat))) w := fun w => by
    rw [shift_shr _ _ _ _ (by omega) (by simp [IntKind.bits]; omega)]
    rfl
  have hb := bit_is (w := (x : Int)) (x := (i : Int)) (by omega) (by omega) (by omega) (by omega)
  rw [Int.toNat_natCast, Int.toNat_natCast] at hb
  have e : ((bits BinOp.and IntKind.i64 ((x : Int) / 2 ^ i) 1) == 1) = x.testBit i := by
    rw [hb]
    cases x.testBit i <;> rfl
  rw [← e]
  clear e hb
  go_enter Try.func126, Try.ntmps126
  go_wp2
  go_ret
  exact ⟨rfl, Below.refl _ _⟩

def impl_variable.f (a0 : Int) (a1 : Int) : Option (Int × Int) := if 0 ≤ a0 ∧ a0 ≤ 5 ∧ 0 ≤ a1 ∧ a1 ≤ 5 then some (a0, (wordOf (fun x => x.testBit a1.toNat) (2 ^ a0.toNat) : Nat)) else none
set_option maxHeartbeats 1000000 in
set_option maxRecDepth 100000 in
theorem impl_variable.calls (a0 : Int) (a1 : Int) (r1 : Int) (r2 : Int) (w : World) (h : impl_variable.f a0 a1 = some (r1, r2)) :
    Calls Try.prog 77 #[.int .i64 a0, .int .i64 a1] w fun e w' => e = .returned (.agg #[.int .i64 r1, .int .i64 r2]) ∧ Below w.heap.size w w' := by
  unfold impl_variable.f at h
  split at h
  · rename_i hh
    obtain ⟨g0, g1, g2, g3⟩ := hh
    obtain ⟨n, rfl⟩ := Int.eq_ofNat_of_zero_le g0
    obtain ⟨i, rfl⟩ := Int.eq_ofNat_of_zero_le g2
    simp only [Option.some.injEq, Prod.mk.injEq, Int.toNat_natCast] at h
    obtain ⟨rfl, rfl⟩ := h
    have hN := shift_one n (by omega)
    have h32 : 2 ^ n ≤ 2 ^ 5 := Nat.pow_le_pow_right (by decide) (by omega)
    have HC := Go.Lib.hid (fun W => makeTable_variable (n : Int) (2 ^ n) h32 hN (.pointer (some ⟨w.heap.size, 0, none⟩)) (fun x => x.testBit i) W)
    have hmf : ∀ (fn : Fn) (first cap : Array Value) (w : World), (Instr.makeFunc fn first cap).run Try.prog w = .ok (.func fn first cap) w := fun _ _ _ _ => rfl
    clear hN
    go_enter Try.func77, Try.ntmps77
    go_wp2_with (fail)
    refine (HC.out _ (fun k W hk hb => variable1_calls k i (by omega) (by omega) w.heap.size W ?_)).mono ?_
    · exact pw_cell_below hb (by go_simp)
    rintro e w2 ⟨rfl, hb⟩
    have B0 : w2.heap[w.heap.size + 1]? = some (.cells #[.int .i64 0, .int .i64 0] 23 (0, 0)) := blk_below (by simpa using blk_new (w.alloc (.cells #[.int .i64 (i : Int)] 3)) (.cells #[.int .i64 0, .int .i64 0] 23)) hb
    have f0 : w2.frozen? ⟨w.heap.size + 1, 0, none⟩ = false := blk_frozen B0 0
    have f1 : w2.frozen? ⟨w.heap.size + 1, 1, none⟩ = false := blk_frozen B0 1
    have d0 : w2.cell? ⟨w.heap.size + 1, 0, none⟩ = some (.int .i64 0) := blk_cell B0 0
    have d1 : w2.cell? ⟨w.heap.size + 1, 1, none⟩ = some (.int .i64 0) := blk_cell B0 1
    go_wp2
    refine bodyPost_ret (results_cell_row rfl _ _ (w.heap.size + 1) 23 #[.int .i64 (n : Int), .int .i64 (wordOf (fun x => x.testBit i) (2 ^ n) : Nat)] (0, 0) _ rfl ?_ Try.underlying23 rfl (by kernel_rfl)) rfl ⟨rfl, ?_⟩
    · exact blk_put (blk_put (cs' := #[.int .i64 (n : Int), .int .i64 0]) B0 0 _ rfl) 1 _ rfl
    · exact below_set (below_set (below_then (((Below.refl _ _).alloc (Nat.le_refl _) _).alloc (by simp) _) (by simp; omega) hb) (by omega)) (by omega)
  · cases h

end Go.Proofs.Ytijpcemcijaeeaa.P
