/- Shifts and words over tables of few variables. Conditions: the bounds that stand in each. -/
import Derived.Test.YtfiejicdlaknnaaK4
namespace Go.Proofs.Ytfiejicdlaknnaa.Tab
set_option linter.unusedVariables false
set_option linter.unusedSimpArgs false
open Go Go.RowKit Go.Proofs.Ytfiejicdlaknnaa.P Go.Proofs.Ytfiejicdlaknnaa.Bits Go.Proofs.YtfiejicdlaknnaaW.PrintWords Go.Proofs.YtfiejicdlaknnaaW.PrintLast Go.Proofs.YtfiejicdlaknnaaW.PrintMore
theorem shl_one_nat {i : Nat} (hi : i ≤ 62) : shl .i64 1 (i : Int) = ((2 ^ i : Nat) : Int) := by
 unfold shl
 rw [Nat.min_eq_left (by simp [IntKind.bits]; omega), Int.toNat_natCast, Int.one_mul]
 have : ((2 : Int) ^ i) = ((2 ^ i : Nat) : Int) := by push_cast; rfl
 rw [this]
 exact wrap_nat _ (Nat.pow_lt_pow_right (by decide) (by omega))
theorem shl_zero_nat (i : Nat) : shl .i64 0 (i : Int) = 0 := by
 unfold shl
 rw [Int.zero_mul]
 rfl
theorem word63 (p : Nat → Bool) {m : Nat} (hm : m ≤ 63) : wordOf p m < 2 ^ 63 := Nat.lt_of_lt_of_le (wordOf_lt p m) (Nat.pow_le_pow_right (by decide) hm)
theorem shl_two_nat {n : Nat} (hn : n ≤ 5) : shl .i64 1 (n : Int) = ((2 ^ n : Nat) : Int) := shl_one_nat (by omega)
theorem two_nat {n : Nat} (hn : n ≤ 5) : two (n : Int) = ((2 ^ n : Nat) : Int) := by rw [← shl_two (by omega) (by omega), shl_two_nat hn]
theorem pow_le_32 {n : Nat} (hn : n ≤ 5) : 2 ^ n ≤ 32 := by
 have := Nat.pow_le_pow_right (show 0 < 2 by decide) hn
 omega
end Go.Proofs.Ytfiejicdlaknnaa.Tab
