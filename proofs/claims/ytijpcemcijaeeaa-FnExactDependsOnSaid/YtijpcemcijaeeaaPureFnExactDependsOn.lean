/- The law FnExactDependsOn: its plain function answers true for all its arguments. No conditions but those of the statement. -/
import Derived.Test.YtijpcemcijaeeaaRes
import Derived.Test.YtijpcemcijaeeaaPLFnExactDependsOn
import Derived.Test.YtijpcemcijaeeaaG1t
import Derived.Test.YtijpcemcijaeeaaPLFnExactDependsOn
import Derived.Test.YtijpcemcijaeeaaPa0
import Derived.Test.YtijpcemcijaeeaaPb0
namespace Go.Proofs.Ytijpcemcijaeeaa.Pure
set_option linter.unusedVariables false
set_option linter.unusedSimpArgs false
open Go Go.RowKit Go.Proofs.Ytijpcemcijaeeaa.P Go.Proofs.Ytijpcemcijaeeaa.Bits Go.Proofs.Ytijpcemcijaeeaa.Tab Go.Proofs.YtijpcemcijaeeaaW.PrintWords Go.Proofs.YtijpcemcijaeeaaW.PrintLast Go.Proofs.YtijpcemcijaeeaaW.PrintMore

theorem FnExactDependsOn : laws_FnExactDependsOn.Pure := by
  intro n w i _ _ _
  refine ⟨33, ?_⟩
  unfold laws_FnExactDependsOn.f laws_toTable.f spec_DependsOn.f impl_DependsOn.f
  simp only [Option.bind_some, spec_IsTable_is, hasVariable_is]
  cases h : isT n w
  · simp
  · obtain ⟨h0, h5, hw, hl⟩ := isT_yes h
    have hl2 := lim_le n
    simp only [if_true, Bool.true_and]
    rw [w64 (by omega) (by omega), l1In_is]
    have e : decide (0 ≤ i ∧ i < n) = decide (0 ≤ i ∧ i ≤ n - 1) := by
      rw [decide_eq_decide]
      omega
    rw [e]
    by_cases hx : 0 ≤ i ∧ i ≤ n - 1
    · rw [decide_eq_true hx]
      simp only [Option.bind_some, if_true]
      rw [depends_spec (by omega) h5 hw (by omega) hx.1 (by omega) (by decide), depends_impl (by omega) h5 hw (by omega) hx.1 (by omega)]
      simp
    · rw [decide_eq_false hx]
      simp

end Go.Proofs.Ytijpcemcijaeeaa.Pure
