/- The law on the program's constants: its plain function answers true. No conditions. -/
import Derived.Test.YtoolcfepploeiaaPLFnExactConstants
namespace Go.Proofs.Ytoolcfepploeiaa.Pure
open Go.RowKit Go.Proofs.Ytoolcfepploeiaa.P Go.Proofs.YtoolcfepploeiaaW.PrintWords Go.Proofs.YtoolcfepploeiaaW.PrintLast

theorem FnExactConstants : laws_FnExactConstants.Pure := by
  unfold laws_FnExactConstants.Pure laws_FnExactConstants.f
  rfl

end Go.Proofs.Ytoolcfepploeiaa.Pure
