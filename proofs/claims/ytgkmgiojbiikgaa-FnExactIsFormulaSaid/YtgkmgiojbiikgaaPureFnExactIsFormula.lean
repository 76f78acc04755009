/- The law FnExactIsFormula: its plain function answers true for all its arguments. No conditions but those of the statement. -/
import Derived.Test.YtgkmgiojbiikgaaIsf
import Derived.Test.YtgkmgiojbiikgaaPLFnExactIsFormula
import Derived.Test.YtgkmgiojbiikgaaPLFnExactIsFormula
namespace Go.Proofs.Ytgkmgiojbiikgaa.Pure
set_option linter.unusedVariables false
set_option linter.unusedSimpArgs false
open Go Go.RowKit Go.Proofs.Ytgkmgiojbiikgaa.P Go.Proofs.Ytgkmgiojbiikgaa.Bits Go.Proofs.Ytgkmgiojbiikgaa.Isf Go.Proofs.YtgkmgiojbiikgaaW.PrintWords Go.Proofs.YtgkmgiojbiikgaaW.PrintLast Go.Proofs.YtgkmgiojbiikgaaW.PrintMore

theorem FnExactIsFormula : laws_FnExactIsFormula.Pure := by
  intro s _
  refine ⟨200, ?_⟩
  unfold laws_FnExactIsFormula.f
  rw [spec_is s (by omega), impl_is s]
  simp only [Option.bind_some, bne_self_eq_false, Bool.false_eq_true, if_false]
  split <;> rfl

end Go.Proofs.Ytgkmgiojbiikgaa.Pure
