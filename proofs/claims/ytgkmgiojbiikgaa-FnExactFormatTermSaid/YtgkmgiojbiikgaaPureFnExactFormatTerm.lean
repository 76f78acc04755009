/- The law FnExactFormatTerm: its plain function answers true for all its arguments. No conditions but those of the statement. -/
import Derived.Test.YtgkmgiojbiikgaaFmt
import Derived.Test.YtgkmgiojbiikgaaPLFnExactFormatTerm
import Derived.Test.YtgkmgiojbiikgaaPLFnExactFormatTerm
import Derived.Test.YtgkmgiojbiikgaaPz4
namespace Go.Proofs.Ytgkmgiojbiikgaa.Pure
set_option linter.unusedVariables false
set_option linter.unusedSimpArgs false
open Go Go.RowKit Go.Proofs.Ytgkmgiojbiikgaa.P Go.Proofs.Ytgkmgiojbiikgaa.Bits Go.Proofs.Ytgkmgiojbiikgaa.Tab Go.Proofs.Ytgkmgiojbiikgaa.Shl Go.Proofs.Ytgkmgiojbiikgaa.Fmt Go.Proofs.YtgkmgiojbiikgaaW.PrintWords Go.Proofs.YtgkmgiojbiikgaaW.PrintLast Go.Proofs.YtgkmgiojbiikgaaW.PrintMore

theorem FnExactFormatTerm : laws_FnExactFormatTerm.Pure := by
  intro n m v _ _ hv
  refine ⟨40, ?_⟩
  obtain ⟨r, r1, r2⟩ := format_same n m v (bounds_i64 hv).2
  unfold laws_FnExactFormatTerm.f laws_toTerm.f
  simp only [Option.bind_some, r1, r2, if_true]

end Go.Proofs.Ytgkmgiojbiikgaa.Pure
