/- The law FnExactNotTable: its plain function answers true for all its arguments. No conditions but those of the statement. -/
import Derived.Test.YtoolcfepploeiaaTab
import Derived.Test.YtoolcfepploeiaaPLFnExactNotTable
import Derived.Test.YtoolcfepploeiaaG2
import Derived.Test.YtoolcfepploeiaaPLFnExactNotTable
import Derived.Test.YtoolcfepploeiaaPLFnExactNotTable
import Derived.Test.YtoolcfepploeiaaPLFnExactNotTable
import Derived.Test.YtoolcfepploeiaaPLFnExactNotTable
namespace Go.Proofs.Ytoolcfepploeiaa.Pure
set_option linter.unusedVariables false
set_option linter.unusedSimpArgs false
open Go Go.RowKit Go.Proofs.Ytoolcfepploeiaa.P Go.Proofs.Ytoolcfepploeiaa.Bits Go.Proofs.Ytoolcfepploeiaa.Tab Go.Proofs.YtoolcfepploeiaaW.PrintWords Go.Proofs.YtoolcfepploeiaaW.PrintLast Go.Proofs.YtoolcfepploeiaaW.PrintMore

theorem FnExactNotTable : laws_FnExactNotTable.Pure := by
  intro n w _ _
  unfold laws_FnExactNotTable.f laws_toTable.f spec_NotTable.f impl_NotTable.f laws_eqTable.f spec_l2Full.f
  simp only [Option.bind_some, spec_IsTable_is, impl_IsTable_is]
  cases h : isT n w
  · simp
  · obtain ⟨h0, h5, hw, hl⟩ := isT_yes h
    have h3 := lim_le n
    simp only [if_true]
    rw [if_pos h0, if_pos h5, full_at h0 h5, not_is h]
    simp only [Option.bind_some]
    rw [w64 (by omega) (by omega)]
    simp

end Go.Proofs.Ytoolcfepploeiaa.Pure
