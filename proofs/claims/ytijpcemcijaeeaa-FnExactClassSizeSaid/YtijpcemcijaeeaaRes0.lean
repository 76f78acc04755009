/- Shifts and words over tables of few variables. Conditions: the bounds that stand in each. -/
import Derived.Test.YtijpcemcijaeeaaTab

namespace Go.Proofs.Ytijpcemcijaeeaa.Tab
set_option linter.unusedVariables false
set_option linter.unusedSimpArgs false
open Go Go.RowKit Go.Proofs.Ytijpcemcijaeeaa.P Go.Proofs.Ytijpcemcijaeeaa.Bits Go.Proofs.YtijpcemcijaeeaaW.PrintWords Go.Proofs.YtijpcemcijaeeaaW.PrintLast Go.Proofs.YtijpcemcijaeeaaW.PrintMore

theorem shl_one_nat {i : Nat} (hi : i ≤ 62) : shl .i64 1 (i : Int) = ((2 ^ i : Nat) : Int) := by
  unfold shl
  rw [Nat.min_eq_left (by simp [IntKind.bits]; omega), Int.toNat_natCast, Int.one_mul]
  have : ((2 : Int) ^ i) = ((2 ^ i : Nat) : Int) := by push_cast; rfl
  rw [this]
  exact wrap_nat _ (Nat.pow_lt_pow_right (by decide) (by omega))

theorem shl_zero_nat (i : Nat) : shl .i64 0 (i : Int) = 0 := by
  unfold shl
  rw [Int.zero_mul]
  rfl

theorem shl_bit (b : Bool) {i : Nat} (hi : i ≤ 62) : shl .i64 ((b.toNat : Nat) : Int) (i : Int) = ((if b then 2 ^ i else 0 : Nat) : Int) := by
  cases b
  · exact shl_zero_nat i
  · exact shl_one_nat hi

theorem or_bit (x i : Nat) (b : Bool) (hx : x < 2 ^ 63) (hi : i ≤ 62) : bits .or .i64 (x : Int) (shl .i64 ((b.toNat : Nat) : Int) (i : Int)) = ((x ||| (if b then 2 ^ i else 0) : Nat) : Int) := by
  rw [shl_bit b hi]
  refine or_nat _ _ hx ?_
  cases b
  · show (0 : Nat) < 2 ^ 63; decide
  · exact Nat.pow_lt_pow_right (by decide) (by omega)

theorem word63 (p : Nat → Bool) {m : Nat} (hm : m ≤ 63) : wordOf p m < 2 ^ 63 := Nat.lt_of_lt_of_le (wordOf_lt p m) (Nat.pow_le_pow_right (by decide) hm)

theorem or_word (p : Nat → Bool) {i : Nat} (hi : i ≤ 62) : bits .or .i64 ((wordOf p i : Nat) : Int) (shl .i64 (((p i).toNat : Nat) : Int) (i : Int)) = ((wordOf p (i + 1) : Nat) : Int) := by
  rw [or_bit _ _ _ (word63 p (by omega)) hi]
  rfl

theorem shl_two_nat {n : Nat} (hn : n ≤ 5) : shl .i64 1 (n : Int) = ((2 ^ n : Nat) : Int) := shl_one_nat (by omega)
theorem two_nat {n : Nat} (hn : n ≤ 5) : two (n : Int) = ((2 ^ n : Nat) : Int) := by rw [← shl_two (by omega) (by omega), shl_two_nat hn]
theorem pow_le_32 {n : Nat} (hn : n ≤ 5) : 2 ^ n ≤ 32 := by
  have := Nat.pow_le_pow_right (show 0 < 2 by decide) hn
  omega

end Go.Proofs.Ytijpcemcijaeeaa.Tab
