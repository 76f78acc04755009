/- The law FnExactVariablesOf: its plain function answers true for all its arguments. No conditions but those of the statement. -/
import Derived.Test.YtijpcemcijaeeaaRes
import Derived.Test.YtijpcemcijaeeaaPLFnExactVariablesOf
import Derived.Test.YtijpcemcijaeeaaInt
import Derived.Test.YtijpcemcijaeeaaPLFnExactVariablesOf
import Derived.Test.YtijpcemcijaeeaaPa0
import Derived.Test.YtijpcemcijaeeaaPb3
namespace Go.Proofs.Ytijpcemcijaeeaa.Pure
set_option linter.unusedVariables false
set_option linter.unusedSimpArgs false
open Go Go.RowKit Go.Proofs.Ytijpcemcijaeeaa.P Go.Proofs.Ytijpcemcijaeeaa.Bits Go.Proofs.Ytijpcemcijaeeaa.Tab Go.Proofs.YtijpcemcijaeeaaW.PrintWords Go.Proofs.YtijpcemcijaeeaaW.PrintLast Go.Proofs.YtijpcemcijaeeaaW.PrintMore

theorem vars_loop (n : Nat) (w : Int) (h : isT n w = true) : ∀ (d i k : Nat) (l : List Int), i + d = n → l.length ≤ i → 2 * d + 20 ≤ k →
    ∃ r, r.length ≤ n ∧ spec_VariablesOf.l0 k l (i : Int) (n : Int) w = some r ∧ impl_VariablesOf.l0 k l (n : Int) (i : Int) (n : Int) w = some r := by
  obtain ⟨h0, h5, hw, hl⟩ := isT_yes h
  have hl2 := lim_le n
  intro d
  induction d with
  | zero =>
    intro i k l hi hlen hk
    obtain ⟨k, rfl⟩ : ∃ q, k = q + 1 + 1 := ⟨k - 2, by omega⟩
    obtain rfl : i = n := by omega
    simp only [spec_VariablesOf.l0, impl_VariablesOf.l0, spec_IsTable_is, h, Option.bind_some, if_true, spec_VariablesOf.j1]
    rw [if_neg (by simp), if_neg (by omega)]
    exact ⟨l, hlen, rfl, rfl⟩
  | succ d ih =>
    intro i k l hi hlen hk
    obtain ⟨k, rfl⟩ : ∃ q, k = q + 1 + 1 := ⟨k - 2, by omega⟩
    simp only [spec_VariablesOf.l0, spec_IsTable_is, h, Option.bind_some, if_true, spec_VariablesOf.j1]
    rw [impl_VariablesOf.l0, if_pos (show decide ((i : Int) < (n : Int)) = true from decide_eq_true (by omega)), if_pos (show (i : Int) < (n : Int) by omega), depends_spec (by omega) h5 hw (by omega) (by omega) (by omega) (by omega), depends_impl (by omega) h5 hw (by omega) (by omega) (by omega), w64 (by omega) (by omega)]
    simp only [Option.bind_some]
    cases depB n w i
    · simp only [Bool.false_eq_true, if_false]
      obtain ⟨r, r1, r2, r3⟩ := ih (i + 1) k l (by omega) (by omega) (by omega)
      exact ⟨r, r1, r2, impl_VariablesOf.mono_l k _ _ _ _ _ _ r3⟩
    · simp only [if_true]
      simp only [if_pos (show l.length < 17592186044416 by omega)]
      obtain ⟨r, r1, r2, r3⟩ := ih (i + 1) k (l ++ [(i : Int)]) (by omega) (by simp; omega) (by omega)
      exact ⟨r, r1, r2, impl_VariablesOf.mono_l k _ _ _ _ _ _ r3⟩

theorem FnExactVariablesOf : laws_FnExactVariablesOf.Pure := by
  intro n w _ _
  refine ⟨40, ?_⟩
  obtain ⟨r, hr, e1, e2⟩ : ∃ r, r.length ≤ 5 ∧ spec_VariablesOf.f 40 n w = some r ∧ impl_VariablesOf.f 40 n w = some r := by
    unfold spec_VariablesOf.f impl_VariablesOf.f
    simp only [Option.bind_some, impl_IsTable_is]
    cases h : isT n w
    · refine ⟨[], by simp, ?_, by simp⟩
      obtain ⟨k, hk⟩ : ∃ k, 40 = k + 1 + 1 := ⟨38, rfl⟩
      rw [hk]
      simp [spec_VariablesOf.l0, spec_IsTable_is, h, spec_VariablesOf.j1]
    · obtain ⟨h0, h5, hw, hl⟩ := isT_yes h
      obtain ⟨N, rfl⟩ := Int.eq_ofNat_of_zero_le h0
      obtain ⟨r, r1, r2, r3⟩ := vars_loop N w h N 0 40 [] (by omega) (by simp) (by omega)
      refine ⟨r, by omega, r2, ?_⟩
      simp only [if_true]
      exact r3
  obtain ⟨y, m1, m2⟩ := mark_held r (by omega) (k := 40) (by omega)
  unfold laws_FnExactVariablesOf.f laws_toTable.f
  simp only [Option.bind_some, e1, e2, eqInt_self r (by omega) (k := 40) (by omega), m1, m2, if_true]
  rw [if_neg (by omega), if_neg (by omega)]

end Go.Proofs.Ytijpcemcijaeeaa.Pure
