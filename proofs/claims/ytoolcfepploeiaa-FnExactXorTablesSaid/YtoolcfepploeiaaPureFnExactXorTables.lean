/- The law FnExactXorTables: its plain function answers true for all its arguments. No conditions but those of the statement. -/
import Derived.Test.YtoolcfepploeiaaTab
import Derived.Test.YtoolcfepploeiaaPLFnExactXorTables
import Derived.Test.YtoolcfepploeiaaPLFnExactXorTables
import Derived.Test.YtoolcfepploeiaaPLFnExactXorTables
import Derived.Test.YtoolcfepploeiaaPLFnExactXorTables
import Derived.Test.YtoolcfepploeiaaPLFnExactXorTables
import Derived.Test.YtoolcfepploeiaaPLFnExactXorTables
namespace Go.Proofs.Ytoolcfepploeiaa.Pure
set_option linter.unusedVariables false
set_option linter.unusedSimpArgs false
open Go Go.RowKit Go.Proofs.Ytoolcfepploeiaa.P Go.Proofs.Ytoolcfepploeiaa.Bits Go.Proofs.Ytoolcfepploeiaa.Tab Go.Proofs.YtoolcfepploeiaaW.PrintWords Go.Proofs.YtoolcfepploeiaaW.PrintLast Go.Proofs.YtoolcfepploeiaaW.PrintMore

theorem FnExactXorTables : laws_FnExactXorTables.Pure := by
  intro n w m v _ _ _ _
  unfold laws_FnExactXorTables.f laws_toTable.f spec_XorTables.f impl_XorTables.f spec_l2Fit.f impl_areTables.f laws_eqTable.f
  simp only [Option.bind_some, spec_IsTable_is, impl_IsTable_is]
  cases isT n w
  · simp
  · cases isT m v
    · simp
    · by_cases h : n = m
      · simp [h]
      · simp [h]

end Go.Proofs.Ytoolcfepploeiaa.Pure
