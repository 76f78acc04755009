/- The plain law of FormatInt. No conditions. -/
import Derived.Test.YteejnblkbcekmaaDoorPLFnExactFormatInt
import Derived.Test.YteejnblkbcekmaaDoorItp
import Derived.Test.YteejnblkbcekmaaDoorPLFnExactFormatInt
namespace Go.Proofs.YteejnblkbcekmaaDoor.Pure
set_option linter.unusedVariables false
set_option linter.unusedSimpArgs false
open Go.RowKit Go.Proofs.YteejnblkbcekmaaDoor.P Go.Proofs.YteejnblkbcekmaaDoor.Num Go.Proofs.YteejnblkbcekmaaDoorW.PrintWords Go.Proofs.YteejnblkbcekmaaDoorW.PrintLast

theorem FnExactFormatInt : laws_FnExactFormatInt.Pure := by
  intro n hw
  obtain ⟨h0, h1⟩ := wf_int hw
  refine ⟨30, ?_⟩
  unfold laws_FnExactFormatInt.f
  rw [fmt_spec n h0 h1 30 (by omega), fmt_impl n h0 h1]
  simp
end Go.Proofs.YteejnblkbcekmaaDoor.Pure
