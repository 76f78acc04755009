/- The law FnExactShiftTable: its plain function answers true for all its arguments. No conditions but those of the statement. -/
import Derived.Test.YtijpcemcijaeeaaShf
import Derived.Test.YtijpcemcijaeeaaPLFnExactShiftTable
import Derived.Test.YtijpcemcijaeeaaG1t
import Derived.Test.YtijpcemcijaeeaaPLFnExactShiftTable
import Derived.Test.YtijpcemcijaeeaaPa0
import Derived.Test.YtijpcemcijaeeaaPa2
import Derived.Test.YtijpcemcijaeeaaPb1
namespace Go.Proofs.Ytijpcemcijaeeaa.Pure
set_option linter.unusedVariables false
set_option linter.unusedSimpArgs false
open Go Go.RowKit Go.Proofs.Ytijpcemcijaeeaa.P Go.Proofs.Ytijpcemcijaeeaa.Bits Go.Proofs.Ytijpcemcijaeeaa.Tab Go.Proofs.YtijpcemcijaeeaaW.PrintWords Go.Proofs.YtijpcemcijaeeaaW.PrintLast Go.Proofs.YtijpcemcijaeeaaW.PrintMore

theorem FnExactShiftTable : laws_FnExactShiftTable.Pure := by
  intro n w s _ _ _
  refine ⟨33, ?_⟩
  unfold laws_FnExactShiftTable.f laws_eqTable.f laws_toTable.f spec_ShiftTable.f impl_ShiftTable.f impl_hasInput.f
  simp only [Option.bind_some, spec_IsTable_is, impl_IsTable_is]
  cases h : isT n w
  · simp
  · obtain ⟨h0, h5, hw, hl⟩ := isT_yes h
    have hl2 := lim_le n
    simp only [if_true]
    rw [if_pos h0, two_at h0 h5, l1In_is, impl_isInput_is h0 h5]
    have e : decide (0 ≤ s ∧ s < two n) = decide (0 ≤ s ∧ s ≤ two n - 1) := by
      rw [decide_eq_decide]
      omega
    rw [e]
    by_cases hx : 0 ≤ s ∧ s ≤ two n - 1
    · rw [decide_eq_true hx]
      simp only [Option.bind_some, if_true]
      rw [shift_spec h0 h5 hw (by omega) hx.1 (by omega) (by decide), shift_impl h0 h5 hw (by omega) hx.1 (by omega)]
      simp
    · rw [decide_eq_false hx]
      simp

end Go.Proofs.Ytijpcemcijaeeaa.Pure
