/- The reference's IsTable: what each call comes to, in the form of the printed walks. The number of variables is taken case by case, so that each shift has a known count. No conditions but those that stand in the theorems. -/
import Derived.Test.YtijpcemcijaeeaaPm

namespace Go.Proofs.Ytijpcemcijaeeaa.P
set_option linter.unusedVariables false
set_option linter.unusedSimpArgs false
open Go.RowKit Go.Proofs.YtijpcemcijaeeaaW.PrintWords Go.Proofs.YtijpcemcijaeeaaW.PrintLast Go.Proofs.YtijpcemcijaeeaaW.PrintMore

theorem l1In_yes (a b c : Int) (w : World) (h1 : b ≤ a) (h2 : a ≤ c) : Calls Try.prog 74 #[.int .i64 a, .int .i64 b, .int .i64 c] w fun e w' => e = .returned (.bool true) ∧ Drawn0 w w' :=
 spec_l1In.calls a b c true w (by unfold spec_l1In.f; rw [if_pos (by omega)]; simp [h2])
theorem l1In_no (a b c : Int) (w : World) (h1 : ¬ (b ≤ a ∧ a ≤ c)) : Calls Try.prog 74 #[.int .i64 a, .int .i64 b, .int .i64 c] w fun e w' => e = .returned (.bool false) ∧ Drawn0 w w' :=
 spec_l1In.calls a b c false w (by unfold spec_l1In.f; split <;> simp; omega)
theorem l1In_is (a b c : Int) : spec_l1In.f a b c = some (decide (b ≤ a ∧ a ≤ c)) := by
 unfold spec_l1In.f
 by_cases h : a ≥ b
 ·rw [if_pos h]; simp [h]
 ·rw [if_neg h]; simp [h]

def spec_IsTable.f (a0_0 : Int) (a0_1 : Int) : Option (Bool) := (spec_l1In.f a0_0 0 5).bind fun t102 => (if t102 = true then (if 0 ≤ a0_0 then ((spec_l1In.f a0_1 0 (wrap64 ((shl .i64 1 (shl .u64 1 a0_0)) - 1))).bind fun t103 => (some t103)) else (none)) else (some false))

theorem isTable_at (n K w : Int) (r : Bool) (h0 : 0 ≤ n) (h5 : n ≤ 5) (hK : wrap64 ((shl .i64 1 (shl .u64 1 n)) - 1) = K) (h : spec_IsTable.f n w = some r) : spec_l1In.f w 0 K = some r := by
 unfold spec_IsTable.f at h
 rw [l1In_is, hK] at h
 simp only [Option.bind_some, h0, h5, and_self, decide_true, if_true] at h
 rw [l1In_is] at h ⊢
 simpa using h

set_option maxHeartbeats 1600000 in
set_option maxRecDepth 100000 in
theorem spec_IsTable.calls (a0_0 : Int) (a0_1 : Int) (r : Bool) (w : World) (h : spec_IsTable.f a0_0 a0_1 = some r) :
  Calls Try.prog 78 #[.agg #[.int .i64 a0_0, .int .i64 a0_1]] w fun e w' => e = .returned (.bool r) ∧ Below w.heap.size w w' := by
 by_cases hr : 0 ≤ a0_0 ∧ a0_0 ≤ 5
 ·obtain ⟨h0, h5⟩ := hr
  have hc : a0_0 = 0 ∨ a0_0 = 1 ∨ a0_0 = 2 ∨ a0_0 = 3 ∨ a0_0 = 4 ∨ a0_0 = 5 := by omega
  rcases hc with rfl | rfl | rfl | rfl | rfl | rfl
  ·have A7 := zA (isTable_at 0 1 a0_1 r (by decide) (by decide) (by decide +kernel) h)
   clear h h0 h5
   go_enter Try.func78, Try.ntmps78
   go_wp2_with (fail)
   go_quiet ((first | (go_at_call 74; (with_reducible refine (l1In_yes 0 0 5 _ (by decide) (by decide)).mono ?_); rintro e w' ⟨rfl, ⟨nd, rfl⟩⟩; (try first | exact ⟨rfl, _, World.drewN_drewN _ _ _⟩ | exact ⟨rfl, _, Eq.trans (World.drewN_drewN _ _ _) (congrArg (World.drewN _) (Nat.add_assoc _ _ _))⟩)) | (go_at_call 74; (with_reducible refine (spec_l1In.calls a0_1 0 1 r _ A7.out).mono ?_); rintro e w' ⟨rfl, ⟨nd, rfl⟩⟩; (try first | exact ⟨rfl, _, World.drewN_drewN _ _ _⟩ | exact ⟨rfl, _, Eq.trans (World.drewN_drewN _ _ _) (congrArg (World.drewN _) (Nat.add_assoc _ _ _))⟩))))
   go_wp2
   go_ret
   exact ⟨rfl, pw_below_drewN (below_alloc (Below.refl _ _) _) _⟩
  ·have A7 := zA (isTable_at 1 3 a0_1 r (by decide) (by decide) (by decide +kernel) h)
   clear h h0 h5
   go_enter Try.func78, Try.ntmps78
   go_wp2_with (fail)
   go_quiet ((first | (go_at_call 74; (with_reducible refine (l1In_yes 1 0 5 _ (by decide) (by decide)).mono ?_); rintro e w' ⟨rfl, ⟨nd, rfl⟩⟩; (try first | exact ⟨rfl, _, World.drewN_drewN _ _ _⟩ | exact ⟨rfl, _, Eq.trans (World.drewN_drewN _ _ _) (congrArg (World.drewN _) (Nat.add_assoc _ _ _))⟩)) | (go_at_call 74; (with_reducible refine (spec_l1In.calls a0_1 0 3 r _ A7.out).mono ?_); rintro e w' ⟨rfl, ⟨nd, rfl⟩⟩; (try first | exact ⟨rfl, _, World.drewN_drewN _ _ _⟩ | exact ⟨rfl, _, Eq.trans (World.drewN_drewN _ _ _) (congrArg (World.drewN _) (Nat.add_assoc _ _ _))⟩))))
   go_wp2
   go_ret
   exact ⟨rfl, pw_below_drewN (below_alloc (Below.refl _ _) _) _⟩
  ·have A7 := zA (isTable_at 2 15 a0_1 r (by decide) (by decide) (by decide +kernel) h)
   clear h h0 h5
   go_enter Try.func78, Try.ntmps78
   go_wp2_with (fail)
   go_quiet ((first | (go_at_call 74; (with_reducible refine (l1In_yes 2 0 5 _ (by decide) (by decide)).mono ?_); rintro e w' ⟨rfl, ⟨nd, rfl⟩⟩; (try first | exact ⟨rfl, _, World.drewN_drewN _ _ _⟩ | exact ⟨rfl, _, Eq.trans (World.drewN_drewN _ _ _) (congrArg (World.drewN _) (Nat.add_assoc _ _ _))⟩)) | (go_at_call 74; (with_reducible refine (spec_l1In.calls a0_1 0 15 r _ A7.out).mono ?_); rintro e w' ⟨rfl, ⟨nd, rfl⟩⟩; (try first | exact ⟨rfl, _, World.drewN_drewN _ _ _⟩ | exact ⟨rfl, _, Eq.trans (World.drewN_drewN _ _ _) (congrArg (World.drewN _) (Nat.add_assoc _ _ _))⟩))))
   go_wp2
   go_ret
   exact ⟨rfl, pw_below_drewN (below_alloc (Below.refl _ _) _) _⟩
  ·have A7 := zA (isTable_at 3 255 a0_1 r (by decide) (by decide) (by decide +kernel) h)
   clear h h0 h5
   go_enter Try.func78, Try.ntmps78
   go_wp2_with (fail)
   go_quiet ((first | (go_at_call 74; (with_reducible refine (l1In_yes 3 0 5 _ (by decide) (by decide)).mono ?_); rintro e w' ⟨rfl, ⟨nd, rfl⟩⟩; (try first | exact ⟨rfl, _, World.drewN_drewN _ _ _⟩ | exact ⟨rfl, _, Eq.trans (World.drewN_drewN _ _ _) (congrArg (World.drewN _) (Nat.add_assoc _ _ _))⟩)) | (go_at_call 74; (with_reducible refine (spec_l1In.calls a0_1 0 255 r _ A7.out).mono ?_); rintro e w' ⟨rfl, ⟨nd, rfl⟩⟩; (try first | exact ⟨rfl, _, World.drewN_drewN _ _ _⟩ | exact ⟨rfl, _, Eq.trans (World.drewN_drewN _ _ _) (congrArg (World.drewN _) (Nat.add_assoc _ _ _))⟩))))
   go_wp2
   go_ret
   exact ⟨rfl, pw_below_drewN (below_alloc (Below.refl _ _) _) _⟩
  ·have A7 := zA (isTable_at 4 65535 a0_1 r (by decide) (by decide) (by decide +kernel) h)
   clear h h0 h5
   go_enter Try.func78, Try.ntmps78
   go_wp2_with (fail)
   go_quiet ((first | (go_at_call 74; (with_reducible refine (l1In_yes 4 0 5 _ (by decide) (by decide)).mono ?_); rintro e w' ⟨rfl, ⟨nd, rfl⟩⟩; (try first | exact ⟨rfl, _, World.drewN_drewN _ _ _⟩ | exact ⟨rfl, _, Eq.trans (World.drewN_drewN _ _ _) (congrArg (World.drewN _) (Nat.add_assoc _ _ _))⟩)) | (go_at_call 74; (with_reducible refine (spec_l1In.calls a0_1 0 65535 r _ A7.out).mono ?_); rintro e w' ⟨rfl, ⟨nd, rfl⟩⟩; (try first | exact ⟨rfl, _, World.drewN_drewN _ _ _⟩ | exact ⟨rfl, _, Eq.trans (World.drewN_drewN _ _ _) (congrArg (World.drewN _) (Nat.add_assoc _ _ _))⟩))))
   go_wp2
   go_ret
   exact ⟨rfl, pw_below_drewN (below_alloc (Below.refl _ _) _) _⟩
  ·have A7 := zA (isTable_at 5 4294967295 a0_1 r (by decide) (by decide) (by decide +kernel) h)
   clear h h0 h5
   go_enter Try.func78, Try.ntmps78
   go_wp2_with (fail)
   go_quiet ((first | (go_at_call 74; (with_reducible refine (l1In_yes 5 0 5 _ (by decide) (by decide)).mono ?_); rintro e w' ⟨rfl, ⟨nd, rfl⟩⟩; (try first | exact ⟨rfl, _, World.drewN_drewN _ _ _⟩ | exact ⟨rfl, _, Eq.trans (World.drewN_drewN _ _ _) (congrArg (World.drewN _) (Nat.add_assoc _ _ _))⟩)) | (go_at_call 74; (with_reducible refine (spec_l1In.calls a0_1 0 4294967295 r _ A7.out).mono ?_); rintro e w' ⟨rfl, ⟨nd, rfl⟩⟩; (try first | exact ⟨rfl, _, World.drewN_drewN _ _ _⟩ | exact ⟨rfl, _, Eq.trans (World.drewN_drewN _ _ _) (congrArg (World.drewN _) (Nat.add_assoc _ _ _))⟩))))
   go_wp2
   go_ret
   exact ⟨rfl, pw_below_drewN (below_alloc (Below.refl _ _) _) _⟩
 ·have hf : r = false := by
   unfold spec_IsTable.f at h
   rw [l1In_is] at h
   simpa [hr] using h.symm
  subst hf
  clear h
  go_enter Try.func78, Try.ntmps78
  go_wp2_with (fail)
  go_quiet ((first | (go_at_call 74; (with_reducible refine (l1In_no a0_0 0 5 _ hr).mono ?_); rintro e w' ⟨rfl, ⟨nd, rfl⟩⟩; (try first | exact ⟨rfl, _, World.drewN_drewN _ _ _⟩ | exact ⟨rfl, _, Eq.trans (World.drewN_drewN _ _ _) (congrArg (World.drewN _) (Nat.add_assoc _ _ _))⟩))))
  go_wp2
  go_ret
  exact ⟨rfl, pw_below_drewN (below_alloc (Below.refl _ _) _) _⟩


end Go.Proofs.Ytijpcemcijaeeaa.P

namespace Go.Proofs.Ytijpcemcijaeeaa.P
set_option linter.unusedVariables false
set_option linter.unusedSimpArgs false
open Go.RowKit Go.Proofs.YtijpcemcijaeeaaW.PrintWords Go.Proofs.YtijpcemcijaeeaaW.PrintLast Go.Proofs.YtijpcemcijaeeaaW.PrintMore

def spec_l2Full.f (a0 : Int) : Option (Int) := if 0 ≤ a0 then (if a0 ≤ 5 then (some (wrap64 ((shl .i64 1 (shl .u64 1 a0)) - 1))) else none) else none
set_option maxHeartbeats 1600000 in
set_option maxRecDepth 100000 in
theorem spec_l2Full.calls (a0 : Int) (r : Int) (w : World) (h : spec_l2Full.f a0 = some r) :
  Calls Try.prog 113 #[.int .i64 a0] w fun e w' => e = .returned (.int .i64 r) ∧ Drawn0 w w' := by
 unfold spec_l2Full.f at h
 by_cases h0 : 0 ≤ a0
 ·rw [if_pos h0] at h
  by_cases h5 : a0 ≤ 5
  ·rw [if_pos h5] at h
   have hc : a0 = 0 ∨ a0 = 1 ∨ a0 = 2 ∨ a0 = 3 ∨ a0 = 4 ∨ a0 = 5 := by omega
   have h' := Option.some.inj h
   clear h h0 h5
   rcases hc with rfl | rfl | rfl | rfl | rfl | rfl
   ·obtain rfl : 1 = r := (show (1 : Int) = wrap64 ((shl .i64 1 (shl .u64 1 0)) - 1) by decide +kernel).trans h'
    clear h'
    go_enter Try.func113, Try.ntmps113
    go_wp2
    go_ret
    exact ⟨rfl, Drawn0.refl _⟩
   ·obtain rfl : 3 = r := (show (3 : Int) = wrap64 ((shl .i64 1 (shl .u64 1 1)) - 1) by decide +kernel).trans h'
    clear h'
    go_enter Try.func113, Try.ntmps113
    go_wp2
    go_ret
    exact ⟨rfl, Drawn0.refl _⟩
   ·obtain rfl : 15 = r := (show (15 : Int) = wrap64 ((shl .i64 1 (shl .u64 1 2)) - 1) by decide +kernel).trans h'
    clear h'
    go_enter Try.func113, Try.ntmps113
    go_wp2
    go_ret
    exact ⟨rfl, Drawn0.refl _⟩
   ·obtain rfl : 255 = r := (show (255 : Int) = wrap64 ((shl .i64 1 (shl .u64 1 3)) - 1) by decide +kernel).trans h'
    clear h'
    go_enter Try.func113, Try.ntmps113
    go_wp2
    go_ret
    exact ⟨rfl, Drawn0.refl _⟩
   ·obtain rfl : 65535 = r := (show (65535 : Int) = wrap64 ((shl .i64 1 (shl .u64 1 4)) - 1) by decide +kernel).trans h'
    clear h'
    go_enter Try.func113, Try.ntmps113
    go_wp2
    go_ret
    exact ⟨rfl, Drawn0.refl _⟩
   ·obtain rfl : 4294967295 = r := (show (4294967295 : Int) = wrap64 ((shl .i64 1 (shl .u64 1 5)) - 1) by decide +kernel).trans h'
    clear h'
    go_enter Try.func113, Try.ntmps113
    go_wp2
    go_ret
    exact ⟨rfl, Drawn0.refl _⟩
  ·rw [if_neg h5] at h
   cases h
 ·rw [if_neg h0] at h
  cases h

end Go.Proofs.Ytijpcemcijaeeaa.P
