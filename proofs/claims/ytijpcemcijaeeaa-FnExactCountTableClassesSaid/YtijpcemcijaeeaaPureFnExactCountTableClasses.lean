/- The plain law of CountTableClasses. No conditions. -/
import Derived.Test.YtijpcemcijaeeaaPLFnExactCountTableClasses
import Derived.Test.YtijpcemcijaeeaaLea
import Derived.Test.YtijpcemcijaeeaaGct
import Derived.Test.YtijpcemcijaeeaaG1t
import Derived.Test.YtijpcemcijaeeaaGct
import Derived.Test.YtijpcemcijaeeaaPLFnExactCountTableClasses
import Derived.Test.YtijpcemcijaeeaaPz2
namespace Go.Proofs.Ytijpcemcijaeeaa.Pure
set_option linter.unusedVariables false
set_option linter.unusedSimpArgs false
open Go.RowKit Go.Proofs.Ytijpcemcijaeeaa.P Go.Proofs.Ytijpcemcijaeeaa.Bits Go.Proofs.Ytijpcemcijaeeaa.Tab Go.Proofs.YtijpcemcijaeeaaW.PrintWords Go.Proofs.YtijpcemcijaeeaaW.PrintLast

theorem count_loop (n M : Nat) (hn : n ≤ 3) (hM : 2 ^ 2 ^ n = M) : ∀ (d k K : Nat), k + d = M → 1100 + d ≤ K →
    spec_CountTableClasses.l0 K (n : Int) ((canC n k : Nat) : Int) (k : Int) = some ((canC n M : Nat) : Int) := by
  have hl := lim4 (show n ≤ 4 by omega)
  have hf := full_nat (show n ≤ 4 by omega)
  rw [hM] at hl hf
  intro d
  induction d with
  | zero =>
    intro k K hk hK
    obtain ⟨K, rfl⟩ : ∃ q, K = q + 1 := ⟨K - 1, by omega⟩
    obtain rfl : k = M := by omega
    simp only [spec_CountTableClasses.l0]
    rw [hf]
    simp only [Option.bind_some]
    rw [if_neg (by omega)]
  | succ d ih =>
    intro k K hk hK
    obtain ⟨K, rfl⟩ : ∃ q, K = q + 1 := ⟨K - 1, by omega⟩
    have hc := canC_le n k
    have e := ih (k + 1) K (by omega) (by omega)
    simp only [spec_CountTableClasses.l0]
    rw [hf]
    simp only [Option.bind_some]
    rw [if_pos (by omega), least_is n k (by omega) (by omega) K (by omega)]
    simp only [Option.bind_some]
    rw [w64 (x := (k : Int) + 1) (by omega) (by omega)]
    simp only [canC] at e
    by_cases h : (words n k).foldl min k = k
    · rw [if_pos h] at e
      rw [if_pos (by
        show (((words n k).foldl min k : Nat) : Int) = (k : Int)
        rw [h]), w64 (by omega) (by omega)]
      push_cast at e
      exact e
    · rw [if_neg h] at e
      rw [if_neg (by
        show ¬ (((words n k).foldl min k : Nat) : Int) = (k : Int)
        intro q
        exact h (by exact_mod_cast q))]
      push_cast at e
      exact e

theorem count_spec (a : Int) : spec_CountTableClasses.f 2000 a = impl_CountTableClasses.f a := by
  unfold spec_CountTableClasses.f impl_CountTableClasses.f
  rw [l1In_is]
  simp only [Option.bind_some]
  by_cases h : 0 ≤ a ∧ a ≤ 3
  · rw [if_pos (decide_eq_true h), if_pos h]
    obtain ⟨n, rfl⟩ := Int.eq_ofNat_of_zero_le h.1
    rw [Int.toNat_natCast]
    have hl : 2 ^ 2 ^ n ≤ 256 := by
      have : n = 0 ∨ n = 1 ∨ n = 2 ∨ n = 3 := by omega
      rcases this with rfl | rfl | rfl | rfl <;> decide
    exact count_loop n (2 ^ 2 ^ n) (by omega) rfl (2 ^ 2 ^ n) 0 2000 (by omega) (by omega)
  · rw [if_neg (by rw [decide_eq_true_eq]; exact h), if_neg h]

theorem FnExactCountTableClasses : laws_FnExactCountTableClasses.Pure := by
  intro a _
  refine ⟨2000, ?_⟩
  unfold laws_FnExactCountTableClasses.f
  rw [count_spec a]
  have : ∃ r, impl_CountTableClasses.f a = some r := by
    unfold impl_CountTableClasses.f
    split <;> exact ⟨_, rfl⟩
  obtain ⟨r, hr⟩ := this
  rw [hr]
  simp
end Go.Proofs.Ytijpcemcijaeeaa.Pure
