/- The law FnExactIsImplicant: its plain function answers true for all its arguments. No conditions but those of the statement. -/
import Derived.Test.YtgkmgiojbiikgaaImp
import Derived.Test.YtgkmgiojbiikgaaPLFnExactIsImplicant
import Derived.Test.YtgkmgiojbiikgaaPLFnExactIsImplicant
import Derived.Test.YtgkmgiojbiikgaaPb0
import Derived.Test.YtgkmgiojbiikgaaPz4
namespace Go.Proofs.Ytgkmgiojbiikgaa.Pure
set_option linter.unusedVariables false
set_option linter.unusedSimpArgs false
open Go Go.RowKit Go.Proofs.Ytgkmgiojbiikgaa.P Go.Proofs.Ytgkmgiojbiikgaa.Bits Go.Proofs.Ytgkmgiojbiikgaa.Tab Go.Proofs.Ytgkmgiojbiikgaa.Shl Go.Proofs.Ytgkmgiojbiikgaa.Imp Go.Proofs.YtgkmgiojbiikgaaW.PrintWords Go.Proofs.YtgkmgiojbiikgaaW.PrintLast Go.Proofs.YtgkmgiojbiikgaaW.PrintMore

theorem FnExactIsImplicant : laws_FnExactIsImplicant.Pure := by
  intro n w m v _ _ _ hv
  have hv1 : v ≤ 9223372036854775807 := (bounds_i64 hv).2
  refine ⟨40, ?_⟩
  unfold laws_FnExactIsImplicant.f laws_toTable.f laws_toTerm.f spec_IsImplicant.f impl_IsImplicant.f
  simp only [Option.bind_some, spec_IsTable_is, impl_IsTable_is, spec_IsTerm_is, impl_IsTerm_is n m v hv1]
  cases h : isT n w
  · simp
  · cases g : isM n m v
    · simp
    · obtain ⟨h0, h5, hw, hl⟩ := isT_yes h
      obtain ⟨-, -, g0, g1, g2, g3, g4⟩ := of_decide_eq_true g
      have hl2 := lim_le n
      have ht2 := two_le n
      simp only [if_true]
      rw [implies_spec h0 h5 hw (by omega) g0 (by omega) g2 (by omega) (by decide), implies_impl h0 h5 hw (by omega) g0 g1 g2 g4]
      simp

end Go.Proofs.Ytgkmgiojbiikgaa.Pure
