/- The law FnExactPrimesOf: its plain function answers true for all its arguments. No conditions but those of the statement. -/
import Derived.Test.YtgkmgiojbiikgaaPri
import Derived.Test.YtgkmgiojbiikgaaTms
import Derived.Test.YtgkmgiojbiikgaaPLFnExactPrimesOf
import Derived.Test.YtgkmgiojbiikgaaPLFnExactPrimesOf
import Derived.Test.YtgkmgiojbiikgaaPa1
import Derived.Test.YtgkmgiojbiikgaaPb1
import Derived.Test.YtgkmgiojbiikgaaPz4
namespace Go.Proofs.Ytgkmgiojbiikgaa.Pure
set_option linter.unusedVariables false
set_option linter.unusedSimpArgs false
open Go Go.RowKit Go.Proofs.Ytgkmgiojbiikgaa.P Go.Proofs.Ytgkmgiojbiikgaa.Bits Go.Proofs.Ytgkmgiojbiikgaa.Tab Go.Proofs.Ytgkmgiojbiikgaa.Pri Go.Proofs.Ytgkmgiojbiikgaa.Tms Go.Proofs.YtgkmgiojbiikgaaW.PrintWords Go.Proofs.YtgkmgiojbiikgaaW.PrintLast Go.Proofs.YtgkmgiojbiikgaaW.PrintMore

theorem primesOf_same (n w : Int) : ∃ r, r.1.length ≤ 1100 ∧ ∀ k, 1200 ≤ k → spec_PrimesOf.f k n w = some r ∧ impl_PrimesOf.f k n w = some r := by
  cases h : isT n w
  · refine ⟨([], false), by simp, ?_⟩
    intro k _
    unfold spec_PrimesOf.f impl_PrimesOf.f
    simp [spec_IsTable_is, impl_IsTable_is, h]
  · obtain ⟨r, r0, r1, r2⟩ := primes_same h (k := 1200) (by omega)
    refine ⟨(r, true), r0, ?_⟩
    intro k hk
    obtain ⟨d, rfl⟩ : ∃ d, k = 1200 + d := ⟨k - 1200, by omega⟩
    have hh : spec_l6Primes.f (1200 + d) n w = some r ∧ impl_Table_primes.f (1200 + d) n w = some r := by
      clear hk
      induction d with
      | zero => exact ⟨r1, r2⟩
      | succ d ih => exact ⟨spec_l6Primes.mono _ _ _ _ ih.1, impl_Table_primes.mono _ _ _ _ ih.2⟩
    unfold spec_PrimesOf.f impl_PrimesOf.f
    simp only [spec_IsTable_is, impl_IsTable_is, h, Option.bind_some, if_true, hh.1, hh.2, and_self]

theorem FnExactPrimesOf : laws_FnExactPrimesOf.Pure := by
  intro n w _ _
  obtain ⟨K, hK⟩ : ∃ K, K = 1300 := ⟨_, rfl⟩
  refine ⟨K + 1 + 1, ?_⟩
  obtain ⟨r, r0, r1⟩ := primesOf_same n w
  obtain ⟨y, m1, m2⟩ := mark_held r.1 (by omega) (k := K + 1) (by omega)
  unfold laws_FnExactPrimesOf.f laws_toTable.f
  simp only [Option.bind_some, (r1 (K + 1 + 1) (by omega)).1, (r1 (K + 1 + 1) (by omega)).2, eq_self r.1 (by omega) (k := K + 1 + 1) (by omega), if_true, bne_self_eq_false]
  simp only [laws_FnExactPrimesOf.j0, Bool.false_eq_true, if_false, m1, m2 (K + 1) (by omega), Option.bind_some, laws_toTable.f, (r1 (K + 1) (by omega)).2, eq_self r.1 (by omega) (k := K + 1) (by omega), if_true, bne_self_eq_false, laws_FnExactPrimesOf.j1, m2 K (by omega)]
  rw [if_neg (show ¬ (2 * (r.1.length : Int) + 1 < 0) by omega), if_neg (show ¬ (2 * (r.1.length : Int) + 1 < 0) by omega)]

end Go.Proofs.Ytgkmgiojbiikgaa.Pure
