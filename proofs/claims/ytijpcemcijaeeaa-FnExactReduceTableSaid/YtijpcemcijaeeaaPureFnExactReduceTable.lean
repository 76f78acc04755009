/- The law FnExactReduceTable: its plain function answers true for all its arguments. No conditions but those of the statement. -/
import Derived.Test.YtijpcemcijaeeaaRes
import Derived.Test.YtijpcemcijaeeaaPLFnExactReduceTable
import Derived.Test.YtijpcemcijaeeaaPLFnExactReduceTable
import Derived.Test.YtijpcemcijaeeaaPa0
import Derived.Test.YtijpcemcijaeeaaPb2
namespace Go.Proofs.Ytijpcemcijaeeaa.Pure
set_option linter.unusedVariables false
set_option linter.unusedSimpArgs false
open Go Go.RowKit Go.Proofs.Ytijpcemcijaeeaa.P Go.Proofs.Ytijpcemcijaeeaa.Bits Go.Proofs.Ytijpcemcijaeeaa.Tab Go.Proofs.YtijpcemcijaeeaaW.PrintWords Go.Proofs.YtijpcemcijaeeaaW.PrintLast Go.Proofs.YtijpcemcijaeeaaW.PrintMore

theorem reduce_loop : ∀ (d : Nat) (n w : Int) (k : Nat), (d : Int) ≤ n → n ≤ 5 → 0 ≤ w → w ≤ 4294967296 → d + 18 ≤ k →
    ∃ r, spec_ReduceTable.l0 k ((d : Int) - 1) n w = some r ∧ impl_ReduceTable.l0 k ((d : Int) - 1) n w = some r := by
  intro d
  induction d with
  | zero =>
    intro n w k _ _ _ _ hk
    obtain ⟨k, rfl⟩ : ∃ q, k = q + 1 := ⟨k - 1, by omega⟩
    simp only [spec_ReduceTable.l0, impl_ReduceTable.l0]
    rw [if_neg (by omega)]
    exact ⟨_, rfl, rfl⟩
  | succ d ih =>
    intro n w k hd hn hw hw1 hk
    obtain ⟨k, rfl⟩ : ∃ q, k = q + 1 := ⟨k - 1, by omega⟩
    simp only [spec_ReduceTable.l0, impl_ReduceTable.l0]
    rw [show ((d + 1 : Nat) : Int) - 1 = (d : Int) from by omega, if_pos (by omega), if_pos (by omega), depends_spec (by omega) hn hw hw1 (by omega) (by omega) (by omega), depends_impl (by omega) hn hw hw1 (by omega) (by omega), restrict_spec (by omega) hn hw hw1 (by omega) (by omega) (by decide) (by decide) (by omega), restrict_impl (by omega) hn hw hw1 (by omega) (by omega) (by decide) (by decide), w64 (by omega) (by omega)]
    simp only [Option.bind_some]
    have hr := resW_lt w (d : Int) 0 (n := (n - 1).toNat) (by omega)
    have hl := lim_le ((n - 1).toNat : Int)
    cases depB n w d
    · simp only [Bool.false_eq_true, if_false]
      exact ih (n - 1) _ k (by omega) (by omega) (by omega) (by omega) (by omega)
    · simp only [if_true]
      exact ih n w k (by omega) hn hw hw1 (by omega)

theorem FnExactReduceTable : laws_FnExactReduceTable.Pure := by
  intro n w _ _
  refine ⟨33, ?_⟩
  unfold laws_FnExactReduceTable.f laws_eqTable.f laws_toTable.f spec_ReduceTable.f impl_ReduceTable.f
  simp only [Option.bind_some, spec_IsTable_is, impl_IsTable_is]
  cases h : isT n w
  · simp
  · obtain ⟨h0, h5, hw, hl⟩ := isT_yes h
    have hl2 := lim_le n
    obtain ⟨N, rfl⟩ := Int.eq_ofNat_of_zero_le h0
    simp only [if_true]
    rw [w64 (by omega) (by omega)]
    obtain ⟨r, e1, e2⟩ := reduce_loop N N w 33 (by omega) h5 hw (by omega) (by omega)
    rw [e1, e2]
    simp

end Go.Proofs.Ytijpcemcijaeeaa.Pure
