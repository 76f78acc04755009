/- The plain law of SymmetriesOf. No conditions. -/
import Derived.Test.YtijpcemcijaeeaaPLFnExactSymmetriesOf
import Derived.Test.YtijpcemcijaeeaaLea
import Derived.Test.YtijpcemcijaeeaaGsy
import Derived.Test.YtijpcemcijaeeaaPLFnExactSymmetriesOf
import Derived.Test.YtijpcemcijaeeaaPy0
import Derived.Test.YtijpcemcijaeeaaPz1
namespace Go.Proofs.Ytijpcemcijaeeaa.Pure
set_option linter.unusedVariables false
set_option linter.unusedSimpArgs false
open Go.RowKit Go.Proofs.Ytijpcemcijaeeaa.P Go.Proofs.Ytijpcemcijaeeaa.Bits Go.Proofs.Ytijpcemcijaeeaa.Tab Go.Proofs.YtijpcemcijaeeaaW.PrintWords Go.Proofs.YtijpcemcijaeeaaW.PrintLast

theorem symm_spec (n w : Int) : spec_SymmetriesOf.f 1000 n w = impl_SymmetriesOf.f n w := by
  unfold spec_SymmetriesOf.f impl_SymmetriesOf.f
  rw [spec_IsTable_is]
  simp only [Option.bind_some]
  cases h : isT n w
  · rw [if_neg (by decide), if_neg (by simp)]
  · rw [if_pos rfl]
    obtain ⟨h0, h5, hw, hl⟩ := isT_yes h
    by_cases h4 : n > 4
    · rw [if_pos h4, if_neg (by omega)]
    · rw [if_neg h4, if_pos ⟨rfl, by omega⟩]
      obtain ⟨n, rfl⟩ := Int.eq_ofNat_of_zero_le h0
      obtain ⟨w, rfl⟩ := Int.eq_ofNat_of_zero_le hw
      rw [lim_nat (by omega)] at hl
      rw [least_is n w (by omega) (by omega) 1000 (by omega)]
      rfl

theorem FnExactSymmetriesOf : laws_FnExactSymmetriesOf.Pure := by
  intro n w _ _
  refine ⟨1000, ?_⟩
  unfold laws_FnExactSymmetriesOf.f laws_toTable.f
  simp only [Option.bind_some, symm_spec n w]
  have : ∃ r, impl_SymmetriesOf.f n w = some r := by
    unfold impl_SymmetriesOf.f
    split <;> exact ⟨_, rfl⟩
  obtain ⟨r, hr⟩ := this
  rw [hr]
  simp
end Go.Proofs.Ytijpcemcijaeeaa.Pure
