/- Tables: what the program's not comes to. Conditions: the bounds that stand in it. -/
import Derived.Test.YtijpcemcijaeeaaTab
import Derived.Test.YtijpcemcijaeeaaPy1
namespace Go.Proofs.Ytijpcemcijaeeaa.Tab
set_option linter.unusedVariables false
set_option linter.unusedSimpArgs false
open Go Go.RowKit Go.Proofs.Ytijpcemcijaeeaa.P Go.Proofs.Ytijpcemcijaeeaa.Bits Go.Proofs.YtijpcemcijaeeaaW.PrintWords Go.Proofs.YtijpcemcijaeeaaW.PrintLast Go.Proofs.YtijpcemcijaeeaaW.PrintMore

theorem not_is {n w : Int} (h : isT n w = true) : impl_Table_not.f n w = some (n, lim n - 1 - w) := by
  obtain ⟨h0, h5, hw, hl⟩ := isT_yes h
  have h2 := two_le n
  have h3 := lim_le n
  unfold impl_Table_not.f
  rw [size_is h0 h5]
  simp only [Option.bind_some]
  rw [if_pos (by omega), full2_at h0 h5, xor_int hw (by omega) (by omega) (by omega)]
  congr 2
  have e := lim_two h0 h5
  have e2 : (lim n).toNat = 2 ^ (two n).toNat := by rw [e]; exact Int.toNat_natCast (2 ^ (two n).toNat) ▸ by push_cast; rfl
  have e3 : (lim n - 1).toNat = 2 ^ (two n).toNat - 1 := by omega
  rw [e3, xor_full (by omega)]
  omega
end Go.Proofs.Ytijpcemcijaeeaa.Tab
