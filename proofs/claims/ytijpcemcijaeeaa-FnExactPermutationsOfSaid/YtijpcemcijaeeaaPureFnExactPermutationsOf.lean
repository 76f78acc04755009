/- The plain law of PermutationsOf: five orders' counts, each computed. No conditions. -/
import Derived.Test.YtijpcemcijaeeaaPLFnExactPermutationsOf
import Derived.Test.YtijpcemcijaeeaaInt
import Derived.Test.YtijpcemcijaeeaaPLFnExactPermutationsOf
import Derived.Test.YtijpcemcijaeeaaPa4
import Derived.Test.YtijpcemcijaeeaaPn0
import Derived.Test.YtijpcemcijaeeaaPx6
namespace Go.Proofs.Ytijpcemcijaeeaa.Pure
set_option linter.unusedVariables false
set_option linter.unusedSimpArgs false
open Go.RowKit Go.Proofs.Ytijpcemcijaeeaa.P Go.Proofs.Ytijpcemcijaeeaa.Bits Go.Proofs.Ytijpcemcijaeeaa.Tab Go.Proofs.YtijpcemcijaeeaaW.PrintWords Go.Proofs.YtijpcemcijaeeaaW.PrintLast

theorem eqSS_loop (ls : List (List Int)) (hL : ls.length ≤ 1000) (n : Nat) (hn : n ≤ 4) (hrow : ∀ x ∈ ls, x.length = n) : ∀ (d i k : Nat), i + d = ls.length → d + 5 < k → laws_eqIntSS.l0 k ls ls (i : Int) = some true := by
  intro d
  induction d with
  | zero =>
    intro i k hi hk
    obtain ⟨k, rfl⟩ : ∃ q, k = q + 1 := ⟨k - 1, by omega⟩
    simp only [laws_eqIntSS.l0]
    rw [if_neg (by omega)]
  | succ d ih =>
    intro i k hi hk
    obtain ⟨k, rfl⟩ : ∃ q, k = q + 1 := ⟨k - 1, by omega⟩
    simp only [laws_eqIntSS.l0]
    have hx : (rd_L2 ls (i : Int)).length = n := by
      unfold rd_L2
      rw [Int.toNat_natCast, List.getD_eq_getElem?_getD, List.getElem?_eq_getElem (by omega)]
      exact hrow _ (List.getElem_mem _)
    rw [if_pos (by omega), if_pos (by omega), if_pos (by omega), eqInt_self _ (by rw [hx]; omega) (by rw [hx]; omega)]
    show (if true = true then laws_eqIntSS.l0 k ls ls (wrap64 ((i : Int) + 1)) else some false) = _
    rw [if_pos rfl, w64 (by omega) (by omega)]
    exact ih (i + 1) k (by omega) (by omega)

theorem eqSS_self (ls : List (List Int)) (hL : ls.length ≤ 1000) (n : Nat) (hn : n ≤ 4) (hrow : ∀ x ∈ ls, x.length = n) (k : Nat) (hk : ls.length + 5 < k) : laws_eqIntSS.f k ls ls = some true := by
  unfold laws_eqIntSS.f
  rw [if_pos rfl]
  exact eqSS_loop ls hL n hn hrow ls.length 0 k (by omega) hk

theorem FnExactPermutationsOf : laws_FnExactPermutationsOf.Pure := by
  intro a0 _
  by_cases h0 : a0 < 0
  · refine ⟨60, [], false, 0, ?_, ?_, by decide, by decide, by simp, eqSS_self [] (by decide) 0 (by decide) (by simp) 60 (by decide), by decide⟩
    · unfold spec_PermutationsOf.f
      have : spec_l1In.f a0 0 4 = some false := by
        unfold spec_l1In.f
        rw [if_neg (by omega)]
      rw [this]
      rfl
    · unfold impl_PermutationsOf.f
      rw [if_pos h0]
  · by_cases h4 : 4 < a0
    · refine ⟨60, [], false, 0, ?_, ?_, by decide, by decide, by simp, eqSS_self [] (by decide) 0 (by decide) (by simp) 60 (by decide), by decide⟩
      · unfold spec_PermutationsOf.f
        have : spec_l1In.f a0 0 4 = some false := by
          unfold spec_l1In.f
          rw [if_pos (by omega)]
          simp
          omega
        rw [this]
        rfl
      · unfold impl_PermutationsOf.f
        rw [if_neg h0, if_pos h4]
    · have : a0 = 0 ∨ a0 = 1 ∨ a0 = 2 ∨ a0 = 3 ∨ a0 = 4 := by omega
      have key : ∀ n : Nat, n ≤ 4 → (ext n n []).length ≤ 24 ∧ ∀ x ∈ ext n n [], x.length = n := by decide +kernel
      have fin : ∀ n : Nat, n ≤ 4 → spec_PermutationsOf.f 60 (n : Int) = some (ext n n [], true) → impl_PermutationsOf.f (n : Int) = some (ext n n [], true) → ∃ (k : Nat) (ps : List (List Int)) (b : Bool) (m : Nat), spec_PermutationsOf.f k (n : Int) = some (ps, b) ∧ impl_PermutationsOf.f (n : Int) = some (ps, b) ∧ m ≤ 4 ∧ ps.length ≤ 1000 ∧ (∀ x ∈ ps, x.length = m) ∧ laws_eqIntSS.f k ps ps = some true ∧ ps.length + 5 < k := by
        intro n hn hs hi
        obtain ⟨k1, k2⟩ := key n hn
        exact ⟨60, ext n n [], true, n, hs, hi, hn, by omega, k2, eqSS_self _ (by omega) n hn k2 60 (by omega), by omega⟩
      rcases this with rfl | rfl | rfl | rfl | rfl
      · exact fin 0 (by decide) (by decide +kernel) (by decide +kernel)
      · exact fin 1 (by decide) (by decide +kernel) (by decide +kernel)
      · exact fin 2 (by decide) (by decide +kernel) (by decide +kernel)
      · exact fin 3 (by decide) (by decide +kernel) (by decide +kernel)
      · exact fin 4 (by decide) (by decide +kernel) (by decide +kernel)
end Go.Proofs.Ytijpcemcijaeeaa.Pure
