/- The plain law of CanonicalTable. No conditions. -/
import Derived.Test.YtijpcemcijaeeaaPLFnExactCanonicalTable
import Derived.Test.YtijpcemcijaeeaaLea
import Derived.Test.YtijpcemcijaeeaaPLFnExactCanonicalTable
import Derived.Test.YtijpcemcijaeeaaPy0
namespace Go.Proofs.Ytijpcemcijaeeaa.Pure
set_option linter.unusedVariables false
set_option linter.unusedSimpArgs false
open Go.RowKit Go.Proofs.Ytijpcemcijaeeaa.P Go.Proofs.Ytijpcemcijaeeaa.Bits Go.Proofs.Ytijpcemcijaeeaa.Tab Go.Proofs.YtijpcemcijaeeaaW.PrintWords Go.Proofs.YtijpcemcijaeeaaW.PrintLast

theorem FnExactCanonicalTable : laws_FnExactCanonicalTable.Pure := by
  intro n w _ _
  refine ⟨1000, ?_⟩
  unfold laws_FnExactCanonicalTable.f laws_toTable.f laws_eqTable.f
  simp only [Option.bind_some, canon_spec n w 1000 (by omega), canon_impl n w, if_true, bne_self_eq_false, Bool.false_eq_true, if_false]
end Go.Proofs.Ytijpcemcijaeeaa.Pure
