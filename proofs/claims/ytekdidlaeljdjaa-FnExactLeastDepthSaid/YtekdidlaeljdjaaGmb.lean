/- A shift of 1, and a bit that is set: what the walks of makeTable need. No conditions but those that stand in the theorems. -/
import Derived.Test.YtekdidlaeljdjaaP0
import Derived.Test.YtekdidlaeljdjaaBits
import Derived.RegionTactic
import Derived.ChangeAlike
import Derived.OneCell
import Derived.Outline
import Derived.Lib.Hide

namespace Go.Proofs.Ytekdidlaeljdjaa.P
set_option linter.unusedVariables false
set_option linter.unusedSimpArgs false
open Go.RowKit Go.Proofs.Ytekdidlaeljdjaa.Bits Go.Proofs.YtekdidlaeljdjaaW.PrintWords Go.Proofs.YtekdidlaeljdjaaW.PrintLast Go.Proofs.YtekdidlaeljdjaaW.PrintMore

theorem ret_bool {a b : Bool} (h : a = b) : Ending.returned (.bool a) = .returned (.bool b) := by rw [h]

theorem shift_one (k : Nat) (hk : k ≤ 62) (W : World) : Sem.run Try.prog (Op.shift BinOp.shl IntKind.i64 1 IntKind.i64 (k : Int)) W = .ok (.int .i64 ((2 ^ k : Nat) : Int)) W := by
  rw [shift_shl _ _ _ _ (by omega) (by simp [IntKind.bits]; omega)]
  have : IntKind.i64.wrap (1 * 2 ^ (k : Int).toNat) = ((2 ^ k : Nat) : Int) := by
    rw [← wrap_nat (2 ^ k) (Nat.pow_lt_pow_right (by decide) (by omega)), Int.toNat_natCast, Int.one_mul]
    push_cast
    rfl
  rw [this]
  rfl

theorem or_pow (p : Nat → Bool) (k : Nat) (hk : k ≤ 62) : bits .or .i64 ((wordOf p k : Nat) : Int) (wrap64 (2 ^ k)) = ((wordOf p k ||| 2 ^ k : Nat) : Int) := by
  have h1 : (2 : Nat) ^ k < 2 ^ 63 := Nat.pow_lt_pow_right (by decide) (by omega)
  have h2 := wordOf_lt p k
  have e : wrap64 ((2 : Int) ^ k) = ((2 ^ k : Nat) : Int) := by
    have : ((2 : Int) ^ k) = ((2 ^ k : Nat) : Int) := by push_cast; rfl
    rw [this]
    exact w64 (by omega) (by rw [p63] at h1; omega)
  rw [e, or_nat _ _ (by omega) h1]

end Go.Proofs.Ytekdidlaeljdjaa.P
