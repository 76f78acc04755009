/- The law FnExactVariableTable: its plain function answers true for all its arguments. No conditions but those of the statement. -/
import Derived.Test.YtijpcemcijaeeaaRes
import Derived.Test.YtijpcemcijaeeaaPLFnExactVariableTable
import Derived.Test.YtijpcemcijaeeaaG1t
import Derived.Test.YtijpcemcijaeeaaGmv
import Derived.Test.YtijpcemcijaeeaaPLFnExactVariableTable
import Derived.Test.YtijpcemcijaeeaaPa0
import Derived.Test.YtijpcemcijaeeaaPb0
namespace Go.Proofs.Ytijpcemcijaeeaa.Pure
set_option linter.unusedVariables false
set_option linter.unusedSimpArgs false
open Go Go.RowKit Go.Proofs.Ytijpcemcijaeeaa.P Go.Proofs.Ytijpcemcijaeeaa.Bits Go.Proofs.Ytijpcemcijaeeaa.Tab Go.Proofs.YtijpcemcijaeeaaW.PrintWords Go.Proofs.YtijpcemcijaeeaaW.PrintLast Go.Proofs.YtijpcemcijaeeaaW.PrintMore

theorem FnExactVariableTable : laws_FnExactVariableTable.Pure := by
  intro n i _ _
  refine ⟨33, ?_⟩
  unfold laws_FnExactVariableTable.f laws_eqTable.f spec_VariableTable.f impl_VariableTable.f
  rw [l1In_is, impl_isBits_is]
  by_cases h : 0 ≤ n ∧ n ≤ 5
  · obtain ⟨h0, h5⟩ := h
    rw [decide_eq_true (show 0 ≤ n ∧ n ≤ 5 from ⟨h0, h5⟩)]
    simp only [Option.bind_some, if_true]
    rw [w64 (by omega) (by omega), l1In_is]
    by_cases hi : 0 ≤ i ∧ i ≤ n - 1
    · rw [decide_eq_true hi, if_neg (by omega), if_neg (by omega)]
      obtain ⟨N, rfl⟩ := Int.eq_ofNat_of_zero_le h0
      obtain ⟨I, rfl⟩ := Int.eq_ofNat_of_zero_le hi.1
      have h32 := pow_le_32 (show N ≤ 5 by omega)
      have e : spec_l2Variable.f 33 (N : Int) (I : Int) = some ((wordOf (fun x => x.testBit I) (2 ^ N) : Nat) : Int) := variable_loop N I (by omega) (by omega) (2 ^ N) 0 33 (by omega) (by omega)
      unfold impl_variable.f
      rw [if_pos ⟨h0, h5, hi.1, by omega⟩, Int.toNat_natCast, Int.toNat_natCast]
      simp only [Option.bind_some, if_true, e]
      simp
    · rw [decide_eq_false hi]
      simp only [Option.bind_some, Bool.false_eq_true, if_false]
      by_cases hn : i < 0
      · rw [if_pos hn]; simp
      · rw [if_neg hn, if_pos (by omega)]; simp
  · rw [decide_eq_false h]
    simp

end Go.Proofs.Ytijpcemcijaeeaa.Pure
