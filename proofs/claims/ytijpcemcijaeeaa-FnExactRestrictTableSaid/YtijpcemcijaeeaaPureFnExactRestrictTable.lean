/- The law FnExactRestrictTable: its plain function answers true for all its arguments. No conditions but those of the statement. -/
import Derived.Test.YtijpcemcijaeeaaRes
import Derived.Test.YtijpcemcijaeeaaPLFnExactRestrictTable
import Derived.Test.YtijpcemcijaeeaaG1t
import Derived.Test.YtijpcemcijaeeaaPLFnExactRestrictTable
import Derived.Test.YtijpcemcijaeeaaPa0
import Derived.Test.YtijpcemcijaeeaaPa3
import Derived.Test.YtijpcemcijaeeaaPb2
import Derived.Test.YtijpcemcijaeeaaPx3
namespace Go.Proofs.Ytijpcemcijaeeaa.Pure
set_option linter.unusedVariables false
set_option linter.unusedSimpArgs false
open Go Go.RowKit Go.Proofs.Ytijpcemcijaeeaa.P Go.Proofs.Ytijpcemcijaeeaa.Bits Go.Proofs.Ytijpcemcijaeeaa.Tab Go.Proofs.YtijpcemcijaeeaaW.PrintWords Go.Proofs.YtijpcemcijaeeaaW.PrintLast Go.Proofs.YtijpcemcijaeeaaW.PrintMore

theorem FnExactRestrictTable : laws_FnExactRestrictTable.Pure := by
  intro n w i b _ _ _ _
  refine ⟨33, ?_⟩
  unfold laws_FnExactRestrictTable.f laws_eqTable.f laws_toTable.f spec_RestrictTable.f impl_RestrictTable.f impl_isBit.f
  simp only [Option.bind_some, spec_IsTable_is, hasVariable_is]
  cases h : isT n w
  · simp
  · obtain ⟨h0, h5, hw, hl⟩ := isT_yes h
    have hl2 := lim_le n
    simp only [if_true, Bool.true_and]
    rw [w64 (by omega) (by omega), l1In_is, l1In_is]
    have e : decide (0 ≤ i ∧ i < n) = decide (0 ≤ i ∧ i ≤ n - 1) := by
      rw [decide_eq_decide]
      omega
    rw [e]
    by_cases hx : 0 ≤ i ∧ i ≤ n - 1
    · rw [decide_eq_true hx]
      simp only [Option.bind_some, if_true]
      have eb : (if b = 0 then some true else some (b == 1)) = some (decide (0 ≤ b ∧ b ≤ 1)) := by
        by_cases hb : b = 0
        · subst hb; rfl
        · rw [if_neg hb]
          congr 1
          rw [Bool.eq_iff_iff]
          simp only [beq_iff_eq, decide_eq_true_eq]
          omega
      rw [eb]
      by_cases hb : 0 ≤ b ∧ b ≤ 1
      · rw [decide_eq_true hb]
        simp only [Option.bind_some, if_true]
        rw [restrict_spec (by omega) h5 hw (by omega) hx.1 (by omega) hb.1 hb.2 (by decide), restrict_impl (by omega) h5 hw (by omega) hx.1 (by omega) hb.1 hb.2]
        simp
      · rw [decide_eq_false hb]
        simp
    · rw [decide_eq_false hx]
      simp

end Go.Proofs.Ytijpcemcijaeeaa.Pure
