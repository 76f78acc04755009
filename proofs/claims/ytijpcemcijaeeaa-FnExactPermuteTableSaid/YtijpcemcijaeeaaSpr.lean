/- An input with one variable more: the program's spread and the reference's insertion, in plain numbers. Conditions: the bounds that stand in each. -/
import Derived.Test.YtijpcemcijaeeaaBits
import Derived.Laws.BitsAllLaws
import Derived.Test.YtijpcemcijaeeaaPm0
namespace Go.Proofs.Ytijpcemcijaeeaa.P
set_option linter.unusedVariables false
set_option linter.unusedSimpArgs false
open Go Go.RowKit Go.Proofs.Ytijpcemcijaeeaa.Bits Go.Proofs.YtijpcemcijaeeaaW.PrintWords Go.Proofs.YtijpcemcijaeeaaW.PrintLast Go.Proofs.YtijpcemcijaeeaaW.PrintMore

/-- x with the bit b put in at place i. -/
def spreadN (x i b : Nat) : Nat := (x / 2 ^ i) * 2 ^ (i + 1) + b * 2 ^ i + x % 2 ^ i

def chkSpread (x i b : Nat) : Bool := impl_spread.f (x : Int) (i : Int) (b : Int) == some ((spreadN x i b : Nat) : Int)
theorem chkSpread_all : ∀ (x : Fin 32) (i : Fin 6) (b : Fin 2), chkSpread x.val i.val b.val = true := by decide +kernel
theorem spread_is (x i b : Nat) (hx : x < 32) (hi : i ≤ 5) (hb : b ≤ 1) : impl_spread.f (x : Int) (i : Int) (b : Int) = some ((spreadN x i b : Nat) : Int) := by
  have h := chkSpread_all ⟨x, hx⟩ ⟨i, by omega⟩ ⟨b, by omega⟩
  exact eq_of_beq h
theorem spreadN_all : ∀ (x : Fin 32) (i : Fin 6) (b : Fin 2), spreadN x.val i.val b.val < 64 := by decide +kernel
theorem spreadN_lt (x i b : Nat) (hx : x < 32) (hi : i ≤ 5) (hb : b ≤ 1) : spreadN x i b < 64 := spreadN_all ⟨x, hx⟩ ⟨i, by omega⟩ ⟨b, by omega⟩
end Go.Proofs.Ytijpcemcijaeeaa.P
