/- What the rows' condition on the listed variables gives: the table of ten's powers reads as its initialiser lays it. No conditions but those that stand in the theorems. -/
import Derived.Test.YteejnblkbcekmaaDoorRows
import Derived.Test.YteejnblkbcekmaaDoorGdx
import Derived.Lib.LaidTab
import Derived.LaidMore
import Derived.MakeChecks
namespace Go.Proofs.YteejnblkbcekmaaDoor.P
set_option linter.unusedVariables false
set_option linter.unusedSimpArgs false
open Go.RowKit Go.Proofs.YteejnblkbcekmaaDoorW.PrintWords Go.Proofs.YteejnblkbcekmaaDoorW.PrintLast Go.Proofs.YteejnblkbcekmaaDoorW.PrintMore

theorem gT : Tryd.prog.globalNamed "internal/strconv.uint64pow10" = some 2 := by kernel_rfl
theorem gTy : (Tryd.prog.globals[2]?).map (·.type) = some 78 := by kernel_rfl
theorem tab_data : (Rows.laid_internal_strconv_uint64pow10 : DataW Unit) = Lib.tabData .u64 Lib.pow10Tab := by kernel_rfl
theorem tb_of_laid {n1 n2 : String} {d1 d2 : DataW Unit} {rest : List (String × DataW Unit)} {W : World} (h : laidMet Tryd.prog ((n1, d1) :: (n2, d2) :: ("internal/strconv.uint64pow10", Rows.laid_internal_strconv_uint64pow10) :: rest) W) : Aside0 (TB W) := by
  rw [tab_data] at h
  obtain ⟨ps, ⟨g0, t0, cs0, f0, p0, q0, hg0, ht0, hv0, hd0, ⟨g1, t1, cs1, f1, p1, q1, hg1, ht1, hv1, hd1, ⟨g2, t2, cs2, f2, p2, q2, hg2, ht2, hv2, hd2, _, _⟩, _⟩, _⟩, _⟩ := h
  obtain rfl := Option.some.inj (gT.symm.trans hg2)
  obtain rfl := Option.some.inj (gTy.symm.trans ht2)
  refine ⟨?_⟩
  unfold TB Lib.TabIs
  rw [hv2, ← Lib.cells_of_tab Tryd.underlying78 Tryd.underlying66 (by kernel_rfl) (by kernel_rfl) hd2]
end Go.Proofs.YteejnblkbcekmaaDoor.P
