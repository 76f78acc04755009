/- The plain law of ParseInt. No conditions. -/
import Derived.Test.YteejnblkbcekmaaDoorPLFnExactParseInt
import Derived.Test.YteejnblkbcekmaaDoorPin
import Derived.Test.YteejnblkbcekmaaDoorPLFnExactParseInt
import Derived.Test.YteejnblkbcekmaaDoorPin
namespace Go.Proofs.YteejnblkbcekmaaDoor.Pure
set_option linter.unusedVariables false
set_option linter.unusedSimpArgs false
open Go.RowKit Go.Proofs.YteejnblkbcekmaaDoor.P Go.Proofs.YteejnblkbcekmaaDoor.Num Go.Proofs.YteejnblkbcekmaaDoorW.PrintWords Go.Proofs.YteejnblkbcekmaaDoorW.PrintLast

theorem FnExactParseInt : laws_FnExactParseInt.Pure := by
  intro s _
  refine ⟨100, ?_⟩
  unfold laws_FnExactParseInt.f
  by_cases h : (s.size : Int) > 1048576
  · rw [if_pos h]
  · rw [if_neg h, spec_parse s (by omega) 100 (by omega), impl_parse s (by omega) 100 (by omega), both_same]
    simp
end Go.Proofs.YteejnblkbcekmaaDoor.Pure
