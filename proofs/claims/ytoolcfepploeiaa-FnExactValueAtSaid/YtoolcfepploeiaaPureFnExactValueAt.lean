/- The law FnExactValueAt: its plain function answers true for all its arguments. No conditions but those of the statement. -/
import Derived.Test.YtoolcfepploeiaaTab
import Derived.Test.YtoolcfepploeiaaPLFnExactValueAt
import Derived.Test.YtoolcfepploeiaaG1
import Derived.Test.YtoolcfepploeiaaPLFnExactValueAt
import Derived.Test.YtoolcfepploeiaaPLFnExactValueAt
import Derived.Test.YtoolcfepploeiaaPLFnExactValueAt
import Derived.Test.YtoolcfepploeiaaPLFnExactValueAt
namespace Go.Proofs.Ytoolcfepploeiaa.Pure
set_option linter.unusedVariables false
set_option linter.unusedSimpArgs false
open Go Go.RowKit Go.Proofs.Ytoolcfepploeiaa.P Go.Proofs.Ytoolcfepploeiaa.Bits Go.Proofs.Ytoolcfepploeiaa.Tab Go.Proofs.YtoolcfepploeiaaW.PrintWords Go.Proofs.YtoolcfepploeiaaW.PrintLast Go.Proofs.YtoolcfepploeiaaW.PrintMore

theorem FnExactValueAt : laws_FnExactValueAt.Pure := by
  intro n w x _ _ _
  unfold laws_FnExactValueAt.f laws_toTable.f spec_ValueAt.f impl_ValueAt.f impl_hasInput.f impl_Table_at.f
  simp only [Option.bind_some, spec_IsTable_is, impl_IsTable_is]
  cases h : isT n w
  · simp
  · obtain ⟨h0, h5, hw, hl⟩ := isT_yes h
    simp only [if_true]
    rw [if_pos h0, two_at h0 h5, l1In_is, impl_isInput_is h0 h5]
    have e : decide (0 ≤ x ∧ x < two n) = decide (0 ≤ x ∧ x ≤ two n - 1) := by
      rw [decide_eq_decide]
      omega
    rw [e]
    by_cases hx : 0 ≤ x ∧ x ≤ two n - 1
    · simp [hx]
    · simp [hx]

end Go.Proofs.Ytoolcfepploeiaa.Pure
