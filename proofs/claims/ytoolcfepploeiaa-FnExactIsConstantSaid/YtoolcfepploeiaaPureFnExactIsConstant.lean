/- The law FnExactIsConstant: its plain function answers true for all its arguments. No conditions but those of the statement. -/
import Derived.Test.YtoolcfepploeiaaTab
import Derived.Test.YtoolcfepploeiaaPLFnExactIsConstant
import Derived.Test.YtoolcfepploeiaaG2
import Derived.Test.YtoolcfepploeiaaPLFnExactIsConstant
import Derived.Test.YtoolcfepploeiaaPLFnExactIsConstant
import Derived.Test.YtoolcfepploeiaaPLFnExactIsConstant
import Derived.Test.YtoolcfepploeiaaPLFnExactIsConstant
namespace Go.Proofs.Ytoolcfepploeiaa.Pure
set_option linter.unusedVariables false
set_option linter.unusedSimpArgs false
open Go Go.RowKit Go.Proofs.Ytoolcfepploeiaa.P Go.Proofs.Ytoolcfepploeiaa.Bits Go.Proofs.Ytoolcfepploeiaa.Tab Go.Proofs.YtoolcfepploeiaaW.PrintWords Go.Proofs.YtoolcfepploeiaaW.PrintLast Go.Proofs.YtoolcfepploeiaaW.PrintMore

theorem FnExactIsConstant : laws_FnExactIsConstant.Pure := by
  intro n w _ _
  unfold laws_FnExactIsConstant.f laws_toTable.f spec_IsConstant.f impl_IsConstant.f impl_Table_isSame.f spec_l2Full.f
  simp only [Option.bind_some, spec_IsTable_is, impl_IsTable_is]
  cases h : isT n w
  · simp
  · obtain ⟨h0, h5, hw, hl⟩ := isT_yes h
    simp only [if_true]
    by_cases hz : w = 0
    · simp [hz]
    · rw [if_neg hz, if_neg hz, if_pos h0, if_pos h5, full_at h0 h5, not_is h]
      simp only [Option.bind_some]
      have e : (w == lim n - 1) = (lim n - 1 - w == 0) := by
        rw [Bool.eq_iff_iff]
        simp only [beq_iff_eq]
        omega
      rw [e]
      simp

end Go.Proofs.Ytoolcfepploeiaa.Pure
