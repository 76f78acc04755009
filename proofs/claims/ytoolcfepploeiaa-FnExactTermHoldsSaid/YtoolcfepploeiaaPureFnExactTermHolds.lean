/- The law FnExactTermHolds: its plain function answers true for all its arguments. No conditions but those of the statement. -/
import Derived.Test.YtoolcfepploeiaaTab
import Derived.Test.YtoolcfepploeiaaPLFnExactTermHolds
import Derived.Test.YtoolcfepploeiaaG1
import Derived.Test.YtoolcfepploeiaaPLFnExactTermHolds
import Derived.Test.YtoolcfepploeiaaPLFnExactTermHolds
import Derived.Test.YtoolcfepploeiaaPLFnExactTermHolds
namespace Go.Proofs.Ytoolcfepploeiaa.Pure
set_option linter.unusedVariables false
set_option linter.unusedSimpArgs false
open Go Go.RowKit Go.Proofs.Ytoolcfepploeiaa.P Go.Proofs.Ytoolcfepploeiaa.Bits Go.Proofs.Ytoolcfepploeiaa.Tab Go.Proofs.YtoolcfepploeiaaW.PrintWords Go.Proofs.YtoolcfepploeiaaW.PrintLast Go.Proofs.YtoolcfepploeiaaW.PrintMore

theorem FnExactTermHolds : laws_FnExactTermHolds.Pure := by
  intro m v x _ hv _
  unfold laws_FnExactTermHolds.f laws_toTerm.f spec_TermHolds.f impl_TermHolds.f impl_Term_holds.f
  simp only [Option.bind_some, spec_IsTerm_is, impl_IsTerm_is 5 m v (bounds_i64 hv).2, l1In_is, impl_isInput_is (show (0 : Int) ≤ 5 by decide) (show (5 : Int) ≤ 5 by decide)]
  have e : decide (0 ≤ x ∧ x < two 5) = decide (0 ≤ x ∧ x ≤ 31) := by
    have : two 5 = 32 := by decide +kernel
    rw [this, decide_eq_decide]
    omega
  rw [e]
  cases isM 5 m v
  · simp
  · by_cases h : 0 ≤ x ∧ x ≤ 31
    · simp [h]
    · simp [h]

end Go.Proofs.Ytoolcfepploeiaa.Pure
