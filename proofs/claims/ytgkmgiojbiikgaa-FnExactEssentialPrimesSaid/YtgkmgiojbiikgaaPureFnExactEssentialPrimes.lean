/- The law FnExactEssentialPrimes: its plain function answers true for all its arguments. No conditions but those of the statement. -/
import Derived.Test.YtgkmgiojbiikgaaEss
import Derived.Test.YtgkmgiojbiikgaaTms
import Derived.Test.YtgkmgiojbiikgaaPLFnExactEssentialPrimes
import Derived.Test.YtgkmgiojbiikgaaPLFnExactEssentialPrimes
import Derived.Test.YtgkmgiojbiikgaaPz4
namespace Go.Proofs.Ytgkmgiojbiikgaa.Pure
set_option linter.unusedVariables false
set_option linter.unusedSimpArgs false
open Go Go.RowKit Go.Proofs.Ytgkmgiojbiikgaa.P Go.Proofs.Ytgkmgiojbiikgaa.Bits Go.Proofs.Ytgkmgiojbiikgaa.Tab Go.Proofs.Ytgkmgiojbiikgaa.Ess Go.Proofs.Ytgkmgiojbiikgaa.Tms Go.Proofs.YtgkmgiojbiikgaaW.PrintWords Go.Proofs.YtgkmgiojbiikgaaW.PrintLast Go.Proofs.YtgkmgiojbiikgaaW.PrintMore

theorem FnExactEssentialPrimes : laws_FnExactEssentialPrimes.Pure := by
  intro n w _ _
  obtain ⟨K, hK⟩ : ∃ K, K = 1400000 := ⟨_, rfl⟩
  refine ⟨K + 1 + 1, ?_⟩
  obtain ⟨r, r0, r1⟩ := essential_same n w
  obtain ⟨y, m1, m2⟩ := mark_held r.1 (by omega) (k := K + 1) (by omega)
  unfold laws_FnExactEssentialPrimes.f laws_toTable.f
  simp only [Option.bind_some, (r1 (K + 1 + 1) (by omega)).1, (r1 (K + 1 + 1) (by omega)).2, eq_self r.1 (by omega) (k := K + 1 + 1) (by omega), if_true, bne_self_eq_false]
  simp only [laws_FnExactEssentialPrimes.j0, Bool.false_eq_true, if_false, m1, m2 (K + 1) (by omega), Option.bind_some, laws_toTable.f, (r1 (K + 1) (by omega)).2, eq_self r.1 (by omega) (k := K + 1) (by omega), if_true, bne_self_eq_false, laws_FnExactEssentialPrimes.j1, m2 K (by omega)]
  rw [if_neg (show ¬ (2 * (r.1.length : Int) + 1 < 0) by omega), if_neg (show ¬ (2 * (r.1.length : Int) + 1 < 0) by omega)]

end Go.Proofs.Ytgkmgiojbiikgaa.Pure
