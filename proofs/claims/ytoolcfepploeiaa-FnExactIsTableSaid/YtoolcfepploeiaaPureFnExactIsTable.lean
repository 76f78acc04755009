/- The law FnExactIsTable: its plain function answers true for all its arguments. No conditions but those of the statement. -/
import Derived.Test.YtoolcfepploeiaaTab
import Derived.Test.YtoolcfepploeiaaPLFnExactIsTable
import Derived.Test.YtoolcfepploeiaaPLFnExactIsTable
import Derived.Test.YtoolcfepploeiaaPLFnExactIsTable
namespace Go.Proofs.Ytoolcfepploeiaa.Pure
set_option linter.unusedVariables false
set_option linter.unusedSimpArgs false
open Go Go.RowKit Go.Proofs.Ytoolcfepploeiaa.P Go.Proofs.Ytoolcfepploeiaa.Bits Go.Proofs.Ytoolcfepploeiaa.Tab Go.Proofs.YtoolcfepploeiaaW.PrintWords Go.Proofs.YtoolcfepploeiaaW.PrintLast Go.Proofs.YtoolcfepploeiaaW.PrintMore

theorem FnExactIsTable : laws_FnExactIsTable.Pure := by
  intro n w _ _
  unfold laws_FnExactIsTable.f laws_toTable.f
  simp [spec_IsTable_is, impl_IsTable_is]

end Go.Proofs.Ytoolcfepploeiaa.Pure
