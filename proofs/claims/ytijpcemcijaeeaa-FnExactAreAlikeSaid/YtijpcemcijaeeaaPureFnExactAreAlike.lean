/- The plain law of AreAlike. No conditions. -/
import Derived.Test.YtijpcemcijaeeaaPLFnExactAreAlike
import Derived.Test.YtijpcemcijaeeaaLea
import Derived.Test.YtijpcemcijaeeaaPLFnExactAreAlike
import Derived.Test.YtijpcemcijaeeaaPy0
import Derived.Test.YtijpcemcijaeeaaPz0
import Derived.Test.YtijpcemcijaeeaaPz3
namespace Go.Proofs.Ytijpcemcijaeeaa.Pure
set_option linter.unusedVariables false
set_option linter.unusedSimpArgs false
open Go.RowKit Go.Proofs.Ytijpcemcijaeeaa.P Go.Proofs.Ytijpcemcijaeeaa.Bits Go.Proofs.Ytijpcemcijaeeaa.Tab Go.Proofs.YtijpcemcijaeeaaW.PrintWords Go.Proofs.YtijpcemcijaeeaaW.PrintLast

theorem FnExactAreAlike : laws_FnExactAreAlike.Pure := by
  intro n w m x _ _ _ _
  refine ⟨1000, ?_⟩
  unfold laws_FnExactAreAlike.f laws_toTable.f spec_AreAlike.f impl_AreAlike.f
  simp only [Option.bind_some, canon_spec _ _ 1000 (by omega), canon_impl]
  cases (canT n w).2.2 <;> cases (canT m x).2.2 <;> simp
end Go.Proofs.Ytijpcemcijaeeaa.Pure
