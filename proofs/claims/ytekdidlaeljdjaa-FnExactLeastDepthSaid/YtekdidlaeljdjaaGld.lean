/- LeastDepth: the asker that is made, and the first question. No conditions but those that stand in the theorems. -/
import Derived.Test.YtekdidlaeljdjaaP0
import Derived.Test.YtekdidlaeljdjaaGlf
import Derived.Test.YtekdidlaeljdjaaPa0
namespace Go.Proofs.Ytekdidlaeljdjaa.P
set_option linter.unusedVariables false
set_option linter.unusedSimpArgs false
open Go.RowKit Go.Maps Go.Proofs.Ytekdidlaeljdjaa.Bits Go.Proofs.Ytekdidlaeljdjaa.Tab Go.Proofs.YtekdidlaeljdjaaW.PrintWords Go.Proofs.YtekdidlaeljdjaaW.PrintLast Go.Proofs.YtekdidlaeljdjaaW.PrintMore
attribute [local go_sem] fld25_0 fld25_1

set_option maxHeartbeats 4000000 in
set_option maxRecDepth 100000 in
theorem asking_calls (n v : Nat) (w : World) : Calls Try.prog 10 #[.agg #[.int .i64 (n : Int), .int .i64 (v : Int)]] w fun e w' => ∃ a M u, e = .returned (.pointer (some ⟨a, 0, none⟩)) ∧ AskInv n v a M u w' ∧ a ≠ M ∧ w.heap.size ≤ M ∧ Below w.heap.size w w' := by
  have hmm := @run_makeMap Try.prog
  have HB := Aside0.mk (show Below w.heap.size w ((((w.alloc (.cells #[.int .i64 (n : Int), .int .i64 (v : Int)] 25)).alloc (.map #[] 0)).alloc (.map #[] 0)).alloc (.cells #[.int .i64 (n : Int), .int .i64 (v : Int), .map (some (w.heap.size + 1)), .map (some (w.heap.size + 1 + 1))] 40)) from below_alloc (below_alloc (below_alloc (below_alloc (Below.refl _ _) _) _) _) _)
  have HA := Aside0.mk (show ((((w.alloc (.cells #[.int .i64 (n : Int), .int .i64 (v : Int)] 25)).alloc (.map #[] 0)).alloc (.map #[] 0)).alloc (.cells #[.int .i64 (n : Int), .int .i64 (v : Int), .map (some (w.heap.size + 1)), .map (some (w.heap.size + 1 + 1))] 40)).heap[w.heap.size + 1 + 1 + 1]? = some (.cells #[.int .i64 (n : Int), .int .i64 (v : Int), .map (some (w.heap.size + 1)), .map (some (w.heap.size + 1 + 1))] 40 (0, 0)) from by
    have := blk_new (((w.alloc (.cells #[.int .i64 (n : Int), .int .i64 (v : Int)] 25)).alloc (.map #[] 0)).alloc (.map #[] 0)) (.cells #[.int .i64 (n : Int), .int .i64 (v : Int), .map (some (w.heap.size + 1)), .map (some (w.heap.size + 1 + 1))] 40)
    simpa using this)
  have HO := Aside0.mk (show Own ((((w.alloc (.cells #[.int .i64 (n : Int), .int .i64 (v : Int)] 25)).alloc (.map #[] 0)).alloc (.map #[] 0)).alloc (.cells #[.int .i64 (n : Int), .int .i64 (v : Int), .map (some (w.heap.size + 1)), .map (some (w.heap.size + 1 + 1))] 40)) (w.heap.size + 1) 0 (.map []) from by
    have := (((World.ownsMap_made (w.alloc (.cells #[.int .i64 (n : Int), .int .i64 (v : Int)] 25)) Try.prog 35 (plainElem (H := Unit) Try.prog 3)).alloc (.map #[] 0)).alloc (.cells #[.int .i64 (n : Int), .int .i64 (v : Int), .map (some (w.heap.size + 1)), .map (some (w.heap.size + 1 + 1))] 40))
    simpa using this)
  go_enter Try.func10, Try.ntmps10
  go_wp2_with (fail)
  go_ret
  exact ⟨w.heap.size + 1 + 1 + 1, w.heap.size + 1, .map (some (w.heap.size + 1 + 1)), rfl, ⟨HA.out, .map [], HO.out.mono (by omega), Memo.empty n v⟩, by omega, by omega, HB.out⟩

theorem small_is3 (n w : Int) : impl_isSmall.f n w 4 = some (isT n w && decide (n ≤ 4)) := by
  unfold impl_isSmall.f
  rw [impl_IsTable_is]
  cases isT n w <;> rfl

def impl_LeastDepth.f (a0_0 : Int) (a0_1 : Int) : Option Int := if isT a0_0 a0_1 = true ∧ a0_0 ≤ 4 then some ((leastF a0_0.toNat a0_1.toNat 0 0 : Nat) : Int) else some (-1)

set_option maxHeartbeats 4000000 in
set_option maxRecDepth 100000 in
theorem depth_nat (n v : Nat) (hn : n ≤ 4) (hT : isT (n : Int) (v : Int) = true) (hv : v ≤ 4294967296) (w : World) :
    Calls Try.prog 6 #[.agg #[.int .i64 (n : Int), .int .i64 (v : Int)]] w fun e w' => e = .returned (.int .i64 ((leastF n v 0 0 : Nat) : Int)) ∧ Below w.heap.size w w' := by
  have hsm : impl_isSmall.f (n : Int) (v : Int) 4 = some true := by
    rw [small_is3, hT]
    simp
    omega
  have HSM := Aside0.mk hsm
  have HL := Aside0.mk (fun (a M : Nat) (u : Value) (haM : a ≠ M) (W : World) (hI : AskInv n v a M u W) => left_calls n v a M u hn hv haM (freeTo 0 n) 0 0 W (Nat.two_pow_pos n) (Nat.two_pow_pos n) rfl hI)
  generalize leastF n v 0 0 = r at HL
  clear hsm hT hv hn
  go_enter Try.func6, Try.ntmps6
  go_wp2_with (fail)
  refine (impl_isSmall.calls (n : Int) (v : Int) 4 true _ HSM.out).mono ?_
  rintro e w1 ⟨rfl, hB⟩
  have HF1 := Aside0.mk (blk_below (blk_new w (.cells #[.int .i64 (n : Int), .int .i64 (v : Int)] 25)) hB)
  have HB1 := Aside0.mk (below_step (below_alloc (Below.refl w.heap.size w) (.cells #[.int .i64 (n : Int), .int .i64 (v : Int)] 25)) hB)
  have c0 : w1.cell? ⟨w.heap.size, 0, none⟩ = some (.int .i64 (n : Int)) := blk_cell HF1.out 0
  have c1 : w1.cell? ⟨w.heap.size, 1, none⟩ = some (.int .i64 (v : Int)) := blk_cell HF1.out 1
  clear hB
  go_wp2_with (fail)
  refine (asking_calls n v w1).mono ?_
  rintro e w2 ⟨a, M, u, rfl, hI, haM, hM, hB2⟩
  have hz := HB1.out.size
  have HB2 := Aside0.mk (below_step HB1.out hB2)
  have hz2 := HB2.out.size
  have HC := Aside0.mk (HL.out a M u haM w2 hI)
  have hwM : w.heap.size ≤ M := by omega
  clear hI hB2 HL
  go_wp2_with (fail)
  refine HC.out.mono ?_
  rintro e w3 ⟨rfl, -, hg⟩
  have HB3 := Aside0.mk (HB2.out.grown hg hz2 (fun k hk => by cases hk; exact hwM))
  clear hg HC
  go_wp2_with (fail)
  go_ret
  exact ⟨rfl, HB3.out⟩

set_option maxHeartbeats 4000000 in
set_option maxRecDepth 100000 in
theorem depth_not (a b : Int) (hno : ¬ (isT a b = true ∧ a ≤ 4)) (w : World) :
    Calls Try.prog 6 #[.agg #[.int .i64 a, .int .i64 b]] w fun e w' => e = .returned (.int .i64 (-1)) ∧ Below w.heap.size w w' := by
  have hsm : impl_isSmall.f a b 4 = some false := by
    rw [small_is3]
    congr 1
    rw [Bool.eq_false_iff]
    intro h
    exact hno (by simpa using h)
  have HSM := Aside0.mk hsm
  clear hsm hno
  go_enter Try.func6, Try.ntmps6
  go_wp2_with (fail)
  refine (impl_isSmall.calls a b 4 false _ HSM.out).mono ?_
  rintro e w1 ⟨rfl, hB⟩
  have HB1 := Aside0.mk (below_step (below_alloc (Below.refl w.heap.size w) (.cells #[.int .i64 a, .int .i64 b] 25)) hB)
  clear hB
  go_wp2_with (fail)
  go_ret
  exact ⟨rfl, HB1.out⟩

theorem impl_LeastDepth.calls (a0_0 a0_1 r : Int) (w : World) (h : impl_LeastDepth.f a0_0 a0_1 = some r) :
    Calls Try.prog 6 #[.agg #[.int .i64 a0_0, .int .i64 a0_1]] w fun e w' => e = .returned (.int .i64 r) ∧ Below w.heap.size w w' := by
  unfold impl_LeastDepth.f at h
  by_cases c : isT a0_0 a0_1 = true ∧ a0_0 ≤ 4
  · rw [if_pos c] at h
    obtain rfl := Option.some.inj h
    obtain ⟨h0, h5, hw, hl⟩ := isT_yes c.1
    have hl2 := lim_le a0_0
    obtain ⟨n, rfl⟩ := Int.eq_ofNat_of_zero_le h0
    obtain ⟨v, rfl⟩ := Int.eq_ofNat_of_zero_le hw
    simp only [Int.toNat_natCast]
    exact depth_nat n v (by omega) c.1 (by omega) w
  · rw [if_neg c] at h
    obtain rfl := Option.some.inj h
    exact depth_not a0_0 a0_1 c w
end Go.Proofs.Ytekdidlaeljdjaa.P
