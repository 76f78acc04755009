/- SymmetriesOf: the count that images leaves. No conditions but those that stand in the theorems. -/
import Derived.Test.YtijpcemcijaeeaaP0
import Derived.Test.YtijpcemcijaeeaaGca
import Derived.Lib.Hide
import Derived.Test.YtijpcemcijaeeaaGca
import Derived.Test.YtijpcemcijaeeaaPy1
namespace Go.Proofs.Ytijpcemcijaeeaa.P
set_option linter.unusedVariables false
set_option linter.unusedSimpArgs false
open Go.RowKit Go.Proofs.Ytijpcemcijaeeaa.Bits Go.Proofs.Ytijpcemcijaeeaa.Tab Go.Proofs.YtijpcemcijaeeaaW.PrintWords Go.Proofs.YtijpcemcijaeeaaW.PrintLast Go.Proofs.YtijpcemcijaeeaaW.PrintMore
attribute [local go_sem] max2_int min2_int max_two min_two max_three min_three max_four min_four
attribute [local go_sem] fld23_0 fld23_1

theorem small_is (n w : Int) : impl_isSmall.f n w 4 = some (isT n w && decide (n ≤ 4)) := by
  unfold impl_isSmall.f
  rw [impl_IsTable_is]
  cases isT n w <;> rfl

def impl_SymmetriesOf.f (a0_0 : Int) (a0_1 : Int) : Option Int := if isT a0_0 a0_1 = true ∧ a0_0 ≤ 4 then some (((words a0_0.toNat a0_1.toNat).count a0_1.toNat : Nat) : Int) else some (-1)

/-- What the caller's variables hold while images runs. -/
def CountInv (w : World) (b bc n v : Nat) (m : Nat) (ws : List Nat) (W : World) : Prop := W.heap[b]? = some (.cells #[.int .i64 (n : Int), .int .i64 (v : Int)] 23 (0, 0)) ∧ W.heap[bc]? = some (.cells #[.int .i64 ((ws.count v : Nat) : Int)] 3 (0, 0)) ∧ Below w.heap.size w W

set_option maxHeartbeats 4000000 in
set_option maxRecDepth 100000 in
theorem symm_nat (n v : Nat) (hn : n ≤ 4) (hv : v < 2 ^ 2 ^ n) (w : World) :
    Calls Try.prog 55 #[.agg #[.int .i64 (n : Int), .int .i64 (v : Int)]] w fun e w' => e = .returned (.int .i64 (((words n v).count v : Nat) : Int)) ∧ Below w.heap.size w w' := by
  have hl := lim4 hn
  have hsm : impl_isSmall.f (n : Int) (v : Int) 4 = some true := by
    rw [small_is, isT_of ⟨by omega, by omega, by omega, by rw [lim_nat hn]; omega⟩]
    simp
    omega
  have HSM := Aside0.mk hsm
  have eg : ∀ args w, (callFunc 112 args).run Try.prog w = .ok (.enter 112 args) w := fun args w => enters_of Try.func112 (by kernel_rfl) rfl args w
  have HI := Aside0.mk (fun (W : World) (b bc : Nat) (h0 : CountInv w b bc n v 0 [] W) (hb : w.heap.size ≤ bc) (hbW : b < W.heap.size) (hbcW : bc < W.heap.size) (hbb : b ≠ bc) => images_calls2 112 (.pointer (some ⟨b, 0, none⟩)) (.pointer (some ⟨bc, 0, none⟩)) eg n v (2 ^ n) 400 hn (sz4 hn) (ext n n []) (by have := (ext_rows n hn).1; omega) (permF n v) (shF n) (ntF n) (2 ^ 32) (perms_is hn) (size_nat hn v)
    (fun x hx => ⟨(perm_both n v hn (by omega) x hx 400 (by omega)).2.2, (perm_both n v hn (by omega) x hx 400 (by omega)).1⟩) (fun a x ha hx => shift_fact n a x hn ha hx) (fun a x _ _ => not_fact n _ hn (shF_lt n a x)) W (CountInv w b bc n v 0)
    (fun ws W1 W2 h hB => ⟨(hB.block b hbW).trans h.1, (hB.block bc hbcW).trans h.2.1, h.2.2.trans (hB.mono (by omega))⟩)
    (fun ws x W1 h hs hlen => (count_closure b bc n v (ws.count v) x (Nat.le_trans List.count_le_length hlen) W1 h.1 h.2.1).mono (by
      rintro e w' ⟨rfl, rfl⟩
      by_cases hx : x = v
      · rw [if_pos hx]
        refine ⟨rfl, ⟨blk_far (blk_alloc h.1 _) hbb _, ?_, below_set (below_alloc h.2.2 _) hb⟩, kept_set (kept_alloc _ _) hbcW 0 _⟩
        have := blk_put (blk_alloc h.2.1 (.cells #[.int .i64 (n : Int), .int .i64 (x : Int)] 23)) 0 (.int .i64 ((ws.count v + 1 : Nat) : Int)) rfl
        rw [this, hx]
        simp [List.count_append]
      · rw [if_neg hx]
        refine ⟨rfl, ⟨blk_alloc h.1 _, ?_, below_alloc h.2.2 _⟩, kept_alloc _ _⟩
        rw [blk_alloc h.2.1 _]
        simp [List.count_append, hx])) h0)
  clear hsm eg hl
  go_enter Try.func55, Try.ntmps55
  go_wp2_with (fail)
  refine (impl_isSmall.calls (n : Int) (v : Int) 4 true _ HSM.out).mono ?_
  rintro e w1 ⟨rfl, hB⟩
  have HF1 := Aside0.mk (blk_below (blk_new w (.cells #[.int .i64 (n : Int), .int .i64 (v : Int)] 23)) hB)
  have HB1 := Aside0.mk (below_step (below_alloc (Below.refl w.heap.size w) (.cells #[.int .i64 (n : Int), .int .i64 (v : Int)] 23)) hB)
  have hz : w.heap.size + 1 ≤ w1.heap.size := by have := hB.size; simpa using this
  have HF2 := Aside0.mk (blk_alloc HF1.out (.cells #[.int .i64 0] 3))
  have c0 : (w1.alloc (.cells #[.int .i64 0] 3)).cell? ⟨w.heap.size, 0, none⟩ = some (.int .i64 (n : Int)) := blk_cell HF2.out 0
  have c1 : (w1.alloc (.cells #[.int .i64 0] 3)).cell? ⟨w.heap.size, 1, none⟩ = some (.int .i64 (v : Int)) := blk_cell HF2.out 1
  clear hB
  go_wp2_with (fail)
  refine (HI.out _ w.heap.size w1.heap.size ⟨HF2.out, by simpa using blk_new w1 (.cells #[.int .i64 0] 3), below_alloc HB1.out _⟩ (by omega) (by simp; omega) (by simp) (by omega)).mono ?_
  rintro e w2 ⟨rfl, h1, h2, h3⟩
  have c2 : w2.cell? ⟨w1.heap.size, 0, none⟩ = some (.int .i64 (((words n v).count v : Nat) : Int)) := blk_cell h2 0
  have HB2 := Aside0.mk h3
  clear h1 h2 h3 HI c0 c1
  go_wp2_with (fail)
  go_ret
  exact ⟨rfl, HB2.out⟩

set_option maxHeartbeats 4000000 in
set_option maxRecDepth 100000 in
theorem symm_not (a b : Int) (hno : ¬ (isT a b = true ∧ a ≤ 4)) (w : World) :
    Calls Try.prog 55 #[.agg #[.int .i64 a, .int .i64 b]] w fun e w' => e = .returned (.int .i64 (-1)) ∧ Below w.heap.size w w' := by
  have hsm : impl_isSmall.f a b 4 = some false := by
    rw [small_is]
    congr 1
    rw [Bool.eq_false_iff]
    intro h
    exact hno (by simpa using h)
  have HSM := Aside0.mk hsm
  clear hsm hno
  go_enter Try.func55, Try.ntmps55
  go_wp2_with (fail)
  refine (impl_isSmall.calls a b 4 false _ HSM.out).mono ?_
  rintro e w1 ⟨rfl, hB⟩
  have HB1 := Aside0.mk (below_step (below_alloc (Below.refl w.heap.size w) (.cells #[.int .i64 a, .int .i64 b] 23)) hB)
  clear hB
  go_wp2_with (fail)
  go_ret
  exact ⟨rfl, HB1.out⟩

theorem impl_SymmetriesOf.calls (a0_0 a0_1 r : Int) (w : World) (h : impl_SymmetriesOf.f a0_0 a0_1 = some r) :
    Calls Try.prog 55 #[.agg #[.int .i64 a0_0, .int .i64 a0_1]] w fun e w' => e = .returned (.int .i64 r) ∧ Below w.heap.size w w' := by
  unfold impl_SymmetriesOf.f at h
  by_cases c : isT a0_0 a0_1 = true ∧ a0_0 ≤ 4
  · rw [if_pos c] at h
    obtain rfl := Option.some.inj h
    obtain ⟨h0, h5, hw, hl⟩ := isT_yes c.1
    obtain ⟨n, rfl⟩ := Int.eq_ofNat_of_zero_le h0
    obtain ⟨v, rfl⟩ := Int.eq_ofNat_of_zero_le hw
    rw [lim_nat (by omega)] at hl
    simp only [Int.toNat_natCast]
    exact symm_nat n v (by omega) (by omega) w
  · rw [if_neg c] at h
    obtain rfl := Option.some.inj h
    exact symm_not a0_0 a0_1 c w
end Go.Proofs.Ytijpcemcijaeeaa.P
