/- Tables: what the reference's and the program's IsTable, size, and the words' bits come to, for all whole numbers of 64 bits. Conditions: the bounds that stand in each. -/
import Derived.Test.YtijpcemcijaeeaaBits
import Derived.Test.YtijpcemcijaeeaaK6
import Derived.Test.YtijpcemcijaeeaaPm
import Derived.Test.YtijpcemcijaeeaaPy0

namespace Go.Proofs.Ytijpcemcijaeeaa.Tab
set_option linter.unusedVariables false
set_option linter.unusedSimpArgs false
open Go Go.RowKit Go.Proofs.Ytijpcemcijaeeaa.P Go.Proofs.Ytijpcemcijaeeaa.Bits Go.Proofs.YtijpcemcijaeeaaW.PrintWords Go.Proofs.YtijpcemcijaeeaaW.PrintLast Go.Proofs.YtijpcemcijaeeaaW.PrintMore

def lim (n : Int) : Int := if n = 0 then 2 else if n = 1 then 4 else if n = 2 then 16 else if n = 3 then 256 else if n = 4 then 65536 else 4294967296
def two (n : Int) : Int := if n = 0 then 1 else if n = 1 then 2 else if n = 2 then 4 else if n = 3 then 8 else if n = 4 then 16 else 32
def isT (n w : Int) : Bool := decide (0 ≤ n ∧ n ≤ 5 ∧ 0 ≤ w ∧ w < lim n)

theorem six {n : Int} (h0 : 0 ≤ n) (h5 : n ≤ 5) : n = 0 ∨ n = 1 ∨ n = 2 ∨ n = 3 ∨ n = 4 ∨ n = 5 := by omega
theorem lim_le (n : Int) : 2 ≤ lim n ∧ lim n ≤ 4294967296 := by unfold lim; refine ⟨?_, ?_⟩ <;> (repeat' split) <;> omega
theorem two_le (n : Int) : 1 ≤ two n ∧ two n ≤ 32 := by unfold two; refine ⟨?_, ?_⟩ <;> (repeat' split) <;> omega
theorem full_at {n : Int} (h0 : 0 ≤ n) (h5 : n ≤ 5) : wrap64 (shl .i64 1 (shl .u64 1 n) - 1) = lim n - 1 := by
 rcases six h0 h5 with rfl | rfl | rfl | rfl | rfl | rfl <;> decide +kernel
theorem full2_at {n : Int} (h0 : 0 ≤ n) (h5 : n ≤ 5) : wrap64 (shl .i64 1 (two n) - 1) = lim n - 1 := by
 rcases six h0 h5 with rfl | rfl | rfl | rfl | rfl | rfl <;> decide +kernel
theorem shl_two {n : Int} (h0 : 0 ≤ n) (h5 : n ≤ 5) : shl .i64 1 n = two n := by
 rcases six h0 h5 with rfl | rfl | rfl | rfl | rfl | rfl <;> decide +kernel
theorem two_at {n : Int} (h0 : 0 ≤ n) (h5 : n ≤ 5) : wrap64 (shl .i64 1 n - 1) = two n - 1 := by
 rcases six h0 h5 with rfl | rfl | rfl | rfl | rfl | rfl <;> decide +kernel
theorem lim_two {n : Int} (h0 : 0 ≤ n) (h5 : n ≤ 5) : lim n = 2 ^ (two n).toNat := by
 rcases six h0 h5 with rfl | rfl | rfl | rfl | rfl | rfl <;> decide +kernel
theorem two_pow {n : Int} (h0 : 0 ≤ n) (h5 : n ≤ 5) : two n = 2 ^ n.toNat := by
 rcases six h0 h5 with rfl | rfl | rfl | rfl | rfl | rfl <;> decide +kernel

theorem shr_is {w c : Int} (hc : c ≤ 64) : shr .i64 w c = w / 2 ^ c.toNat := by
 unfold shr
 rw [Nat.min_eq_left (by simp [IntKind.bits]; omega)]

theorem shr_zero {n w : Int} (h0 : 0 ≤ n) (h5 : n ≤ 5) (hw : 0 ≤ w) : (shr .i64 w (two n) == 0) = decide (w < lim n) := by
 rw [shr_is (by have := two_le n; omega), ← lim_two h0 h5]
 have hl := lim_le n
 rw [Bool.eq_iff_iff]
 simp only [beq_iff_eq, decide_eq_true_eq]
 constructor
 ·intro h
  have := Int.lt_ediv_add_one_mul_self w (show 0 < lim n by omega)
  rw [h] at this
  omega
 ·intro h
  exact Int.ediv_eq_zero_of_lt hw h

theorem spec_IsTable_is (n w : Int) : spec_IsTable.f n w = some (isT n w) := by
 unfold spec_IsTable.f
 rw [l1In_is]
 by_cases h : 0 ≤ n ∧ n ≤ 5
 ·have e : decide (0 ≤ n ∧ n ≤ 5) = true := decide_eq_true h
  rw [e]
  simp only [Option.bind_some, if_true]
  rw [if_pos h.1, full_at h.1 h.2, l1In_is]
  simp only [Option.bind_some, isT]
  congr 1
  rw [decide_eq_decide]
  omega
 ·have e : decide (0 ≤ n ∧ n ≤ 5) = false := decide_eq_false h
  rw [e]
  simp only [Option.bind_some, Bool.false_eq_true, if_false]
  congr 1
  exact (decide_eq_false (fun q => h ⟨q.1, q.2.1⟩)).symm

theorem impl_isBits_is (n : Int) : impl_isBits.f n = some (decide (0 ≤ n ∧ n ≤ 5)) := by
 unfold impl_isBits.f
 by_cases h : n ≥ 0
 ·rw [if_pos h]; simp [h]
 ·rw [if_neg h]; simp [h]

theorem size_is {n w : Int} (h0 : 0 ≤ n) (h5 : n ≤ 5) : impl_Table_size.f n w = some (two n) := by
 unfold impl_Table_size.f
 rw [if_pos h0, shl_two h0 h5]

theorem impl_IsTable_is (n w : Int) : impl_IsTable.f n w = some (isT n w) := by
 unfold impl_IsTable.f
 rw [impl_isBits_is]
 by_cases h : 0 ≤ n ∧ n ≤ 5
 ·have e : decide (0 ≤ n ∧ n ≤ 5) = true := decide_eq_true h
  rw [e]
  simp only [Option.bind_some, if_true]
  by_cases hw : w ≥ 0
  ·rw [if_pos hw, size_is h.1 h.2]
   simp only [Option.bind_some]
   rw [if_pos (by have := two_le n; omega), shr_zero h.1 h.2 hw]
   congr 1
   unfold isT
   rw [decide_eq_decide]
   omega
  ·rw [if_neg hw]
   congr 1
   exact (decide_eq_false (fun q => hw q.2.2.1)).symm
 ·have e : decide (0 ≤ n ∧ n ≤ 5) = false := decide_eq_false h
  rw [e]
  simp only [Option.bind_some, Bool.false_eq_true, if_false]
  congr 1
  exact (decide_eq_false (fun q => h ⟨q.1, q.2.1⟩)).symm

/-- What a table is, in numbers. -/
theorem isT_yes {n w : Int} (h : isT n w = true) : 0 ≤ n ∧ n ≤ 5 ∧ 0 ≤ w ∧ w < lim n := of_decide_eq_true h
theorem isT_of {n w : Int} (h : 0 ≤ n ∧ n ≤ 5 ∧ 0 ≤ w ∧ w < lim n) : isT n w = true := decide_eq_true h

theorem impl_isInput_is {n x : Int} (h0 : 0 ≤ n) (h5 : n ≤ 5) : impl_isInput.f n x = some (decide (0 ≤ x ∧ x < two n)) := by
 unfold impl_isInput.f
 by_cases hx : x ≥ 0
 ·rw [if_pos hx, if_pos h0, shl_two h0 h5]
  simp [hx]
 ·rw [if_neg hx]
  simp [hx]

theorem at_is {n w x : Int} (w0 : 0 ≤ w) (w1 : w ≤ 9223372036854775807) (x0 : 0 ≤ x) (x1 : x ≤ 63) : impl_Table_at.f n w x = some ((w.toNat.testBit x.toNat).toNat : Int) := by
 unfold impl_Table_at.f
 rw [if_pos x0, shr_is (by omega), bit_is w0 w1 x0 x1]

end Go.Proofs.Ytijpcemcijaeeaa.Tab

namespace Go.Proofs.Ytijpcemcijaeeaa.Tab
set_option linter.unusedVariables false
set_option linter.unusedSimpArgs false
open Go Go.RowKit Go.Proofs.Ytijpcemcijaeeaa.P Go.Proofs.Ytijpcemcijaeeaa.Bits Go.Proofs.YtijpcemcijaeeaaW.PrintWords Go.Proofs.YtijpcemcijaeeaaW.PrintLast Go.Proofs.YtijpcemcijaeeaaW.PrintMore

theorem shl_one_nat {i : Nat} (hi : i ≤ 62) : shl .i64 1 (i : Int) = ((2 ^ i : Nat) : Int) := by
 unfold shl
 rw [Nat.min_eq_left (by simp [IntKind.bits]; omega), Int.toNat_natCast, Int.one_mul]
 have : ((2 : Int) ^ i) = ((2 ^ i : Nat) : Int) := by push_cast; rfl
 rw [this]
 exact wrap_nat _ (Nat.pow_lt_pow_right (by decide) (by omega))

theorem shl_zero_nat (i : Nat) : shl .i64 0 (i : Int) = 0 := by
 unfold shl
 rw [Int.zero_mul]
 rfl

theorem shl_bit (b : Bool) {i : Nat} (hi : i ≤ 62) : shl .i64 ((b.toNat : Nat) : Int) (i : Int) = ((if b then 2 ^ i else 0 : Nat) : Int) := by
 cases b
 ·exact shl_zero_nat i
 ·exact shl_one_nat hi

theorem or_bit (x i : Nat) (b : Bool) (hx : x < 2 ^ 63) (hi : i ≤ 62) : bits .or .i64 (x : Int) (shl .i64 ((b.toNat : Nat) : Int) (i : Int)) = ((x ||| (if b then 2 ^ i else 0) : Nat) : Int) := by
 rw [shl_bit b hi]
 refine or_nat _ _ hx ?_
 cases b
 ·show (0 : Nat) < 2 ^ 63; decide
 ·exact Nat.pow_lt_pow_right (by decide) (by omega)

theorem word63 (p : Nat → Bool) {m : Nat} (hm : m ≤ 63) : wordOf p m < 2 ^ 63 := Nat.lt_of_lt_of_le (wordOf_lt p m) (Nat.pow_le_pow_right (by decide) hm)

theorem or_word (p : Nat → Bool) {i : Nat} (hi : i ≤ 62) : bits .or .i64 ((wordOf p i : Nat) : Int) (shl .i64 (((p i).toNat : Nat) : Int) (i : Int)) = ((wordOf p (i + 1) : Nat) : Int) := by
 rw [or_bit _ _ _ (word63 p (by omega)) hi]
 rfl

theorem shl_two_nat {n : Nat} (hn : n ≤ 5) : shl .i64 1 (n : Int) = ((2 ^ n : Nat) : Int) := shl_one_nat (by omega)
theorem two_nat {n : Nat} (hn : n ≤ 5) : two (n : Int) = ((2 ^ n : Nat) : Int) := by rw [← shl_two (by omega) (by omega), shl_two_nat hn]
theorem pow_le_32 {n : Nat} (hn : n ≤ 5) : 2 ^ n ≤ 32 := by
 have := Nat.pow_le_pow_right (show 0 < 2 by decide) hn
 omega

end Go.Proofs.Ytijpcemcijaeeaa.Tab
