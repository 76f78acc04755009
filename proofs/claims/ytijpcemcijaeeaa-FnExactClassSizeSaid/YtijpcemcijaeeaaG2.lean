/- The reference's l2Full (for 0 to 5 variables): what each call comes to, in the form of the printed walks. No conditions but those that stand in the theorems. -/
import Derived.Test.YtijpcemcijaeeaaPn0
namespace Go.Proofs.Ytijpcemcijaeeaa.P
set_option linter.unusedVariables false
set_option linter.unusedSimpArgs false
open Go.RowKit Go.Proofs.YtijpcemcijaeeaaW.PrintWords Go.Proofs.YtijpcemcijaeeaaW.PrintLast Go.Proofs.YtijpcemcijaeeaaW.PrintMore

def spec_l2Full.f (a0 : Int) : Option (Int) := if 0 ≤ a0 then (if a0 ≤ 5 then (some (wrap64 ((shl .i64 1 (shl .u64 1 a0)) - 1))) else none) else none
set_option maxHeartbeats 1600000 in
set_option maxRecDepth 100000 in
theorem spec_l2Full.calls (a0 : Int) (r : Int) (w : World) (h : spec_l2Full.f a0 = some r) :
    Calls Try.prog 113 #[.int .i64 a0] w fun e w' => e = .returned (.int .i64 r) ∧ Drawn0 w w' := by
  unfold spec_l2Full.f at h
  by_cases h0 : 0 ≤ a0
  · rw [if_pos h0] at h
    by_cases h5 : a0 ≤ 5
    · rw [if_pos h5] at h
      have hc : a0 = 0 ∨ a0 = 1 ∨ a0 = 2 ∨ a0 = 3 ∨ a0 = 4 ∨ a0 = 5 := by omega
      have h' := Option.some.inj h
      clear h h0 h5
      rcases hc with rfl | rfl | rfl | rfl | rfl | rfl
      · obtain rfl : 1 = r := (show (1 : Int) = wrap64 ((shl .i64 1 (shl .u64 1 0)) - 1) by decide +kernel).trans h'
        clear h'
        go_enter Try.func113, Try.ntmps113
        go_wp2
        go_ret
        exact ⟨rfl, Drawn0.refl _⟩
      · obtain rfl : 3 = r := (show (3 : Int) = wrap64 ((shl .i64 1 (shl .u64 1 1)) - 1) by decide +kernel).trans h'
        clear h'
        go_enter Try.func113, Try.ntmps113
        go_wp2
        go_ret
        exact ⟨rfl, Drawn0.refl _⟩
      · obtain rfl : 15 = r := (show (15 : Int) = wrap64 ((shl .i64 1 (shl .u64 1 2)) - 1) by decide +kernel).trans h'
        clear h'
        go_enter Try.func113, Try.ntmps113
        go_wp2
        go_ret
        exact ⟨rfl, Drawn0.refl _⟩
      · obtain rfl : 255 = r := (show (255 : Int) = wrap64 ((shl .i64 1 (shl .u64 1 3)) - 1) by decide +kernel).trans h'
        clear h'
        go_enter Try.func113, Try.ntmps113
        go_wp2
        go_ret
        exact ⟨rfl, Drawn0.refl _⟩
      · obtain rfl : 65535 = r := (show (65535 : Int) = wrap64 ((shl .i64 1 (shl .u64 1 4)) - 1) by decide +kernel).trans h'
        clear h'
        go_enter Try.func113, Try.ntmps113
        go_wp2
        go_ret
        exact ⟨rfl, Drawn0.refl _⟩
      · obtain rfl : 4294967295 = r := (show (4294967295 : Int) = wrap64 ((shl .i64 1 (shl .u64 1 5)) - 1) by decide +kernel).trans h'
        clear h'
        go_enter Try.func113, Try.ntmps113
        go_wp2
        go_ret
        exact ⟨rfl, Drawn0.refl _⟩
    · rw [if_neg h5] at h
      cases h
  · rw [if_neg h0] at h
    cases h

end Go.Proofs.Ytijpcemcijaeeaa.P
