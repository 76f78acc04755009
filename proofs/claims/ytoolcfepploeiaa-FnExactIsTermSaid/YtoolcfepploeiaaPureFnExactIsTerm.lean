/- The law FnExactIsTerm: its plain function answers true for all its arguments. No conditions but those of the statement. -/
import Derived.Test.YtoolcfepploeiaaTab
import Derived.Test.YtoolcfepploeiaaPLFnExactIsTerm
import Derived.Test.YtoolcfepploeiaaPLFnExactIsTerm
import Derived.Test.YtoolcfepploeiaaPLFnExactIsTerm
namespace Go.Proofs.Ytoolcfepploeiaa.Pure
set_option linter.unusedVariables false
set_option linter.unusedSimpArgs false
open Go Go.RowKit Go.Proofs.Ytoolcfepploeiaa.P Go.Proofs.Ytoolcfepploeiaa.Bits Go.Proofs.Ytoolcfepploeiaa.Tab Go.Proofs.YtoolcfepploeiaaW.PrintWords Go.Proofs.YtoolcfepploeiaaW.PrintLast Go.Proofs.YtoolcfepploeiaaW.PrintMore

theorem FnExactIsTerm : laws_FnExactIsTerm.Pure := by
  intro n m v _ _ hv
  unfold laws_FnExactIsTerm.f laws_toTerm.f
  simp [spec_IsTerm_is, impl_IsTerm_is n m v (bounds_i64 hv).2]

end Go.Proofs.Ytoolcfepploeiaa.Pure
