/- The program's makeTable over shift's closure, and shift: what each call comes to. No conditions but those that stand in the theorems. -/
import Derived.Test.YtijpcemcijaeeaaP0
import Derived.Test.YtijpcemcijaeeaaBits
import Derived.Test.YtijpcemcijaeeaaGmb
import Derived.RegionTactic
import Derived.ChangeAlike
import Derived.OneCell
import Derived.Outline
import Derived.Lib.Hide
import Derived.Test.YtijpcemcijaeeaaPm0
namespace Go.Proofs.Ytijpcemcijaeeaa.P
set_option linter.unusedVariables false
set_option linter.unusedSimpArgs false
open Go.RowKit Go.Proofs.Ytijpcemcijaeeaa.Bits Go.Proofs.YtijpcemcijaeeaaW.PrintWords Go.Proofs.YtijpcemcijaeeaaW.PrintLast Go.Proofs.YtijpcemcijaeeaaW.PrintMore

set_option maxHeartbeats 1000000 in
set_option maxRecDepth 100000 in
theorem makeTable_shift (n : Int) (N : Nat) (h1 : N ≤ 32) (hN : ∀ W : World, Sem.run Try.prog (Op.shift BinOp.shl IntKind.i64 1 IntKind.i64 n) W = .ok (.int .i64 (N : Int)) W) (c0 c1 : Value) (p : Nat → Bool) (w : World)
    (hcl : ∀ (k : Nat) (W : World), k < N → Below w.heap.size w W → Calls Try.prog 129 #[.int .i64 (k : Int), c0, c1] W fun e w' => e = .returned (.bool (p k)) ∧ Below W.heap.size W w') :
    Calls Try.prog 82 #[.int .i64 n, .func (.func 129) #[] #[c0, c1]] w fun e w' => e = .returned (.agg #[.int .i64 n, .int .i64 (wordOf p N : Nat)]) ∧ Below w.heap.size w w' := by
  have HC := Go.Lib.hid hcl
  clear hcl
  go_enter Try.func82, Try.ntmps82
  go_wp2
  go_loopw [6, 11] (fun v6 i wr => ∃ k : Nat, k ≤ N ∧ i = .int .i64 (k : Int) ∧ wr.heap[w.heap.size + 1]? = some (.cells #[.int .i64 n, .int .i64 (wordOf p k : Nat)] 23 (0, 0)) ∧ wr.heap[w.heap.size]? = some (.cells #[.int .i64 0, .int .i64 0] 23 (0, 0)) ∧ Below w.heap.size w wr) (fun _ i _ => N - (intOf i).toNat)
  case atStart =>
    refine ⟨0, by omega, rfl, ?_, ?_, ((Below.refl _ _).alloc (Nat.le_refl _) _).alloc (by simp) _⟩
    · simpa [wordOf] using heap_alloc_new (w.alloc (.cells #[.int .i64 0, .int .i64 0] 23)) (.cells #[.int .i64 n, .int .i64 0] 23)
    · exact (Below.heap_alloc _ _ _ (by simp)).trans (heap_alloc_new _ _)
  case round =>
    obtain ⟨k, hk, rfl, hb1, hb0, hB⟩ := hrel
    have HB1 := Go.Lib.hid hb1
    have HB0 := Go.Lib.hid hb0
    have HBB := Go.Lib.hid hB
    clear hb1 hb0 hB
    by_cases hlt : k < N
    · go_wp2_with (fail)
      refine (HC.out k wr hlt HBB.out).mono ?_
      rintro e w2 ⟨rfl, hb⟩
      have hs := shift_one k (by omega)
      have B1 : w2.heap[w.heap.size + 1]? = some (.cells #[.int .i64 n, .int .i64 (wordOf p k : Nat)] 23 (0, 0)) := (hb.block _ (blk_lt HB1.out)).trans HB1.out
      have c0 : w2.cell? ⟨w.heap.size + 1, 0, none⟩ = some (.int .i64 n) := blk_cell B1 0
      have c1 : w2.cell? ⟨w.heap.size + 1, 1, none⟩ = some (.int .i64 (wordOf p k : Nat)) := blk_cell B1 1
      have f1 : w2.frozen? ⟨w.heap.size + 1, 1, none⟩ = false := blk_frozen B1 1
      cases hp : p k
      · have HP := Go.Lib.hid hp
        clear hp
        go_wp2
        go_roundw
        case rel => exact ⟨k + 1, by omega, by go_num, by rw [B1]; simp only [wordOf, HP.out]; simp, (hb.block _ (blk_lt HB0.out)).trans HB0.out, below_then HBB.out HBB.out.size hb⟩
        case measure => simp [intOf]; omega
      · have HP := Go.Lib.hid hp
        clear hp
        go_wp2
        go_region
        go_wp2
        go_roundw
        case rel => exact ⟨k + 1, by omega, by go_num, blk_drew (blk_put B1 1 _ (by simp only [wordOf, HP.out, if_true]; rw [or_pow p k (by omega)]; rfl)), blk_drew (blk_far ((hb.block _ (blk_lt HB0.out)).trans HB0.out) (by simp) _), (below_set (below_then HBB.out HBB.out.size hb) (by simp)).drew⟩
        case measure => simp [intOf]; omega
    · have c0 : wr.cell? ⟨w.heap.size + 1, 0, none⟩ = some (.int .i64 n) := blk_cell HB1.out 0
      have c1 : wr.cell? ⟨w.heap.size + 1, 1, none⟩ = some (.int .i64 (wordOf p k : Nat)) := blk_cell HB1.out 1
      have f0 : wr.frozen? ⟨w.heap.size, 0, none⟩ = false := blk_frozen HB0.out 0
      have f1 : wr.frozen? ⟨w.heap.size, 1, none⟩ = false := blk_frozen HB0.out 1
      have d0 : wr.cell? ⟨w.heap.size, 0, none⟩ = some (.int .i64 0) := blk_cell HB0.out 0
      have d1 : wr.cell? ⟨w.heap.size, 1, none⟩ = some (.int .i64 0) := blk_cell HB0.out 1
      obtain rfl : k = N := by omega
      go_wp2
      refine bodyPost_ret (results_cell_row rfl _ _ w.heap.size 23 #[.int .i64 n, .int .i64 (wordOf p k : Nat)] (0, 0) _ rfl ?_ Try.underlying23 rfl (by kernel_rfl)) rfl ⟨rfl, ?_⟩
      · exact blk_put (blk_put (cs' := #[.int .i64 n, .int .i64 0]) HB0.out 0 _ rfl) 1 _ rfl
      · exact below_set (below_set HBB.out (Nat.le_refl _)) (Nat.le_refl _)

set_option maxHeartbeats 400000 in
theorem shift1_calls (n v : Int) (x s : Nat) (hx : x < 32) (hs : s < 32) (h0 : 0 ≤ v) (h1 : v ≤ 4294967296) (b c : Nat) (W : World) (hn : W.cell? ⟨b, 0, none⟩ = some (.int .i64 n)) (hv : W.cell? ⟨b, 1, none⟩ = some (.int .i64 v)) (hc : W.cell? ⟨c, 0, none⟩ = some (.int .i64 (s : Int))) :
    Calls Try.prog 129 #[.int .i64 (x : Int), .pointer (some ⟨b, 0, none⟩), .pointer (some ⟨c, 0, none⟩)] W fun e w' => e = .returned (.bool (v.toNat.testBit (x ^^^ s))) ∧ Below W.heap.size W w' := by
  have hxs : x ^^^ s < 32 := Nat.xor_lt_two_pow (n := 5) hx hs
  have hx2 := xor_nat x s (by rw [p63]; omega) (by rw [p63]; omega)
  have hat : impl_Table_at.f n v ((x ^^^ s : Nat) : Int) = some (((v.toNat.testBit (x ^^^ s)).toNat : Nat) : Int) := by
    unfold impl_Table_at.f
    rw [if_pos (by omega)]
    have e : shr .i64 v ((x ^^^ s : Nat) : Int) = v / 2 ^ ((x ^^^ s : Nat) : Int).toNat := by
      unfold shr
      rw [Nat.min_eq_left (by simp [IntKind.bits]; omega)]
    rw [e, bit_is h0 (by omega) (by omega) (by omega), Int.toNat_natCast]
  have HA := Go.Lib.hid hat
  have HX := Go.Lib.hid hx2
  clear hat hx2
  go_enter Try.func129, Try.ntmps129
  go_wp2_with (fail)
  rw [HX.out]
  refine (impl_Table_at.calls n v ((x ^^^ s : Nat) : Int) _ _ HA.out).mono ?_
  rintro e w2 ⟨rfl, hb⟩
  have e2 : ((((v.toNat.testBit (x ^^^ s)).toNat : Nat) : Int) == 1) = v.toNat.testBit (x ^^^ s) := by cases v.toNat.testBit (x ^^^ s) <;> rfl
  have E2 := Go.Lib.hid e2
  clear e2
  go_wp2
  go_ret
  exact ⟨ret_bool E2.out, hb⟩

def impl_Table_shift.f (a0_0 : Int) (a0_1 : Int) (a1 : Int) : Option (Int × Int) := if 0 ≤ a0_0 ∧ a0_0 ≤ 5 ∧ 0 ≤ a0_1 ∧ a0_1 ≤ 4294967296 ∧ 0 ≤ a1 ∧ a1 < 32 then some (a0_0, (wordOf (fun x => a0_1.toNat.testBit (x ^^^ a1.toNat)) (2 ^ a0_0.toNat) : Nat)) else none
set_option maxHeartbeats 1000000 in
set_option maxRecDepth 100000 in
theorem impl_Table_shift.calls (a0_0 : Int) (a0_1 : Int) (a1 : Int) (r1 : Int) (r2 : Int) (w : World) (h : impl_Table_shift.f a0_0 a0_1 a1 = some (r1, r2)) :
    Calls Try.prog 96 #[.agg #[.int .i64 a0_0, .int .i64 a0_1], .int .i64 a1] w fun e w' => e = .returned (.agg #[.int .i64 r1, .int .i64 r2]) ∧ Below w.heap.size w w' := by
  unfold impl_Table_shift.f at h
  split at h
  · rename_i hh
    obtain ⟨g0, g1, g2, g3, g4, g5⟩ := hh
    obtain ⟨n, rfl⟩ := Int.eq_ofNat_of_zero_le g0
    obtain ⟨s, rfl⟩ := Int.eq_ofNat_of_zero_le g4
    simp only [Option.some.injEq, Prod.mk.injEq, Int.toNat_natCast] at h
    obtain ⟨rfl, rfl⟩ := h
    have hN := shift_one n (by omega)
    have h32 : 2 ^ n ≤ 2 ^ 5 := Nat.pow_le_pow_right (by decide) (by omega)
    have HC := Go.Lib.hid (fun W => makeTable_shift (n : Int) (2 ^ n) h32 hN (.pointer (some ⟨w.heap.size, 0, none⟩)) (.pointer (some ⟨w.heap.size + 1, 0, none⟩)) (fun x => a0_1.toNat.testBit (x ^^^ s)) W)
    have hmf : ∀ (fn : Fn) (first cap : Array Value) (w : World), (Instr.makeFunc fn first cap).run Try.prog w = .ok (.func fn first cap) w := fun _ _ _ _ => rfl
    clear hN
    go_enter Try.func96, Try.ntmps96
    go_wp2_with (fail)
    refine (HC.out _ (fun k W hk hb => shift1_calls (n : Int) a0_1 k s (by omega) (by omega) g2 g3 w.heap.size (w.heap.size + 1) W ?_ ?_ ?_)).mono ?_
    · exact pw_cell_below hb (by go_simp)
    · exact pw_cell_below hb (by go_simp)
    · exact pw_cell_below hb (by go_simp)
    rintro e w2 ⟨rfl, hb⟩
    have B0 : w2.heap[w.heap.size + 2]? = some (.cells #[.int .i64 0, .int .i64 0] 23 (0, 0)) := blk_below (by simpa using blk_new ((w.alloc (.cells #[.int .i64 (n : Int), .int .i64 a0_1] 23)).alloc (.cells #[.int .i64 (s : Int)] 3)) (.cells #[.int .i64 0, .int .i64 0] 23)) hb
    have f0 : w2.frozen? ⟨w.heap.size + 2, 0, none⟩ = false := blk_frozen B0 0
    have f1 : w2.frozen? ⟨w.heap.size + 2, 1, none⟩ = false := blk_frozen B0 1
    have d0 : w2.cell? ⟨w.heap.size + 2, 0, none⟩ = some (.int .i64 0) := blk_cell B0 0
    have d1 : w2.cell? ⟨w.heap.size + 2, 1, none⟩ = some (.int .i64 0) := blk_cell B0 1
    go_wp2
    refine bodyPost_ret (results_cell_row rfl _ _ (w.heap.size + 2) 23 #[.int .i64 (n : Int), .int .i64 (wordOf (fun x => a0_1.toNat.testBit (x ^^^ s)) (2 ^ n) : Nat)] (0, 0) _ rfl ?_ Try.underlying23 rfl (by kernel_rfl)) rfl ⟨rfl, ?_⟩
    · exact blk_put (blk_put (cs' := #[.int .i64 (n : Int), .int .i64 0]) B0 0 _ rfl) 1 _ rfl
    · exact below_set (below_set (below_then ((((Below.refl _ _).alloc (Nat.le_refl _) _).alloc (by simp) _).alloc (by simp; omega) _) (by simp; omega) hb) (by omega)) (by omega)
  · cases h

end Go.Proofs.Ytijpcemcijaeeaa.P
