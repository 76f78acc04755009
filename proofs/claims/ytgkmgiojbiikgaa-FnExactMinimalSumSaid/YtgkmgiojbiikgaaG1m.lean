/- The reference's IsTerm: what each call comes to, in the form of the printed walks. The number of variables is taken case by case, so that each shift has a known count. No conditions but those that stand in the theorems. -/
import Derived.Test.YtgkmgiojbiikgaaG1t
namespace Go.Proofs.Ytgkmgiojbiikgaa.P
set_option linter.unusedVariables false
set_option linter.unusedSimpArgs false
open Go.RowKit Go.Proofs.YtgkmgiojbiikgaaW.PrintWords Go.Proofs.YtgkmgiojbiikgaaW.PrintLast Go.Proofs.YtgkmgiojbiikgaaW.PrintMore

def spec_IsTerm.f (a0 : Int) (a1_0 : Int) (a1_1 : Int) : Option (Bool) := (spec_l1In.f a0 0 5).bind fun t102 => (if t102 = true then (if 0 ≤ a0 then ((spec_l1In.f a1_0 0 (wrap64 ((shl .i64 1 a0) - 1))).bind fun t103 => (if t103 = true then ((spec_l1In.f a1_1 0 a1_0).bind fun t104 => (if t104 = true then (some ((Go.bits .and .i64 a1_1 a1_0) == a1_1)) else (some false))) else (some false))) else (none)) else (some false))

theorem isTerm_at (n K m v : Int) (h0 : 0 ≤ n) (h5 : n ≤ 5) (hK : wrap64 ((shl .i64 1 n) - 1) = K) :
    spec_IsTerm.f n m v = some (if 0 ≤ m ∧ m ≤ K then (if 0 ≤ v ∧ v ≤ m then (Go.bits .and .i64 v m) == v else false) else false) := by
  unfold spec_IsTerm.f
  simp only [l1In_is, hK, Option.bind_some, h0, h5, and_self, decide_true, if_true, decide_eq_true_eq]
  by_cases hm : 0 ≤ m ∧ m ≤ K
  · rw [if_pos hm, if_pos hm]
    by_cases hv : 0 ≤ v ∧ v ≤ m
    · rw [if_pos hv, if_pos hv]
    · rw [if_neg hv, if_neg hv]
  · rw [if_neg hm, if_neg hm]

set_option maxHeartbeats 4000000 in
set_option maxRecDepth 100000 in
theorem spec_IsTerm.calls (a0 : Int) (a1_0 : Int) (a1_1 : Int) (r : Bool) (w : World) (h : spec_IsTerm.f a0 a1_0 a1_1 = some r) :
    Calls Try.prog 55 #[.int .i64 a0, .agg #[.int .i64 a1_0, .int .i64 a1_1]] w fun e w' => e = .returned (.bool r) ∧ Below w.heap.size w w' := by
  by_cases hr : 0 ≤ a0 ∧ a0 ≤ 5
  · obtain ⟨h0, h5⟩ := hr
    have hc : a0 = 0 ∨ a0 = 1 ∨ a0 = 2 ∨ a0 = 3 ∨ a0 = 4 ∨ a0 = 5 := by omega
    rcases hc with rfl | rfl | rfl | rfl | rfl | rfl
    · rw [isTerm_at 0 0 a1_0 a1_1 (by decide) (by decide) (by decide +kernel)] at h
      clear h0 h5
      by_cases hm : 0 ≤ a1_0 ∧ a1_0 ≤ 0
      · rw [if_pos hm] at h
        by_cases hv : 0 ≤ a1_1 ∧ a1_1 ≤ a1_0
        · rw [if_pos hv] at h
          obtain rfl := Option.some.inj h
          clear h
          have HM := Aside0.mk hm
          have HV := Aside0.mk hv
          clear hm hv
          go_enter Try.func55, Try.ntmps55
          go_wp2_with (fail)
          go_quiet ((first | (go_at_call 79; (with_reducible refine (l1In_yes 0 0 5 _ (by decide) (by decide)).mono ?_); rintro e w' ⟨rfl, ⟨nd, rfl⟩⟩; (try first | exact ⟨rfl, _, World.drewN_drewN _ _ _⟩ | exact ⟨rfl, _, Eq.trans (World.drewN_drewN _ _ _) (congrArg (World.drewN _) (Nat.add_assoc _ _ _))⟩)) | (go_at_call 79; (with_reducible refine (l1In_yes a1_0 0 0 _ HM.out.1 HM.out.2).mono ?_); rintro e w' ⟨rfl, ⟨nd, rfl⟩⟩; (try first | exact ⟨rfl, _, World.drewN_drewN _ _ _⟩ | exact ⟨rfl, _, Eq.trans (World.drewN_drewN _ _ _) (congrArg (World.drewN _) (Nat.add_assoc _ _ _))⟩)) | (go_at_call 79; (with_reducible refine (l1In_yes a1_1 0 a1_0 _ HV.out.1 HV.out.2).mono ?_); rintro e w' ⟨rfl, ⟨nd, rfl⟩⟩; (try first | exact ⟨rfl, _, World.drewN_drewN _ _ _⟩ | exact ⟨rfl, _, Eq.trans (World.drewN_drewN _ _ _) (congrArg (World.drewN _) (Nat.add_assoc _ _ _))⟩))))
          go_wp2
          go_ret
          exact ⟨rfl, pw_below_drewN (below_alloc (Below.refl _ _) _) _⟩
        · rw [if_neg hv] at h
          obtain rfl := Option.some.inj h
          clear h
          have HM := Aside0.mk hm
          have HV := Aside0.mk hv
          clear hm hv
          go_enter Try.func55, Try.ntmps55
          go_wp2_with (fail)
          go_quiet ((first | (go_at_call 79; (with_reducible refine (l1In_yes 0 0 5 _ (by decide) (by decide)).mono ?_); rintro e w' ⟨rfl, ⟨nd, rfl⟩⟩; (try first | exact ⟨rfl, _, World.drewN_drewN _ _ _⟩ | exact ⟨rfl, _, Eq.trans (World.drewN_drewN _ _ _) (congrArg (World.drewN _) (Nat.add_assoc _ _ _))⟩)) | (go_at_call 79; (with_reducible refine (l1In_yes a1_0 0 0 _ HM.out.1 HM.out.2).mono ?_); rintro e w' ⟨rfl, ⟨nd, rfl⟩⟩; (try first | exact ⟨rfl, _, World.drewN_drewN _ _ _⟩ | exact ⟨rfl, _, Eq.trans (World.drewN_drewN _ _ _) (congrArg (World.drewN _) (Nat.add_assoc _ _ _))⟩)) | (go_at_call 79; (with_reducible refine (l1In_no a1_1 0 a1_0 _ HV.out).mono ?_); rintro e w' ⟨rfl, ⟨nd, rfl⟩⟩; (try first | exact ⟨rfl, _, World.drewN_drewN _ _ _⟩ | exact ⟨rfl, _, Eq.trans (World.drewN_drewN _ _ _) (congrArg (World.drewN _) (Nat.add_assoc _ _ _))⟩))))
          go_wp2
          go_ret
          exact ⟨rfl, pw_below_drewN (below_alloc (Below.refl _ _) _) _⟩
      · rw [if_neg hm] at h
        obtain rfl := Option.some.inj h
        clear h
        have HM := Aside0.mk hm
        clear hm
        go_enter Try.func55, Try.ntmps55
        go_wp2_with (fail)
        go_quiet ((first | (go_at_call 79; (with_reducible refine (l1In_yes 0 0 5 _ (by decide) (by decide)).mono ?_); rintro e w' ⟨rfl, ⟨nd, rfl⟩⟩; (try first | exact ⟨rfl, _, World.drewN_drewN _ _ _⟩ | exact ⟨rfl, _, Eq.trans (World.drewN_drewN _ _ _) (congrArg (World.drewN _) (Nat.add_assoc _ _ _))⟩)) | (go_at_call 79; (with_reducible refine (l1In_no a1_0 0 0 _ HM.out).mono ?_); rintro e w' ⟨rfl, ⟨nd, rfl⟩⟩; (try first | exact ⟨rfl, _, World.drewN_drewN _ _ _⟩ | exact ⟨rfl, _, Eq.trans (World.drewN_drewN _ _ _) (congrArg (World.drewN _) (Nat.add_assoc _ _ _))⟩))))
        go_wp2
        go_ret
        exact ⟨rfl, pw_below_drewN (below_alloc (Below.refl _ _) _) _⟩
    · rw [isTerm_at 1 1 a1_0 a1_1 (by decide) (by decide) (by decide +kernel)] at h
      clear h0 h5
      by_cases hm : 0 ≤ a1_0 ∧ a1_0 ≤ 1
      · rw [if_pos hm] at h
        by_cases hv : 0 ≤ a1_1 ∧ a1_1 ≤ a1_0
        · rw [if_pos hv] at h
          obtain rfl := Option.some.inj h
          clear h
          have HM := Aside0.mk hm
          have HV := Aside0.mk hv
          clear hm hv
          go_enter Try.func55, Try.ntmps55
          go_wp2_with (fail)
          go_quiet ((first | (go_at_call 79; (with_reducible refine (l1In_yes 1 0 5 _ (by decide) (by decide)).mono ?_); rintro e w' ⟨rfl, ⟨nd, rfl⟩⟩; (try first | exact ⟨rfl, _, World.drewN_drewN _ _ _⟩ | exact ⟨rfl, _, Eq.trans (World.drewN_drewN _ _ _) (congrArg (World.drewN _) (Nat.add_assoc _ _ _))⟩)) | (go_at_call 79; (with_reducible refine (l1In_yes a1_0 0 1 _ HM.out.1 HM.out.2).mono ?_); rintro e w' ⟨rfl, ⟨nd, rfl⟩⟩; (try first | exact ⟨rfl, _, World.drewN_drewN _ _ _⟩ | exact ⟨rfl, _, Eq.trans (World.drewN_drewN _ _ _) (congrArg (World.drewN _) (Nat.add_assoc _ _ _))⟩)) | (go_at_call 79; (with_reducible refine (l1In_yes a1_1 0 a1_0 _ HV.out.1 HV.out.2).mono ?_); rintro e w' ⟨rfl, ⟨nd, rfl⟩⟩; (try first | exact ⟨rfl, _, World.drewN_drewN _ _ _⟩ | exact ⟨rfl, _, Eq.trans (World.drewN_drewN _ _ _) (congrArg (World.drewN _) (Nat.add_assoc _ _ _))⟩))))
          go_wp2
          go_ret
          exact ⟨rfl, pw_below_drewN (below_alloc (Below.refl _ _) _) _⟩
        · rw [if_neg hv] at h
          obtain rfl := Option.some.inj h
          clear h
          have HM := Aside0.mk hm
          have HV := Aside0.mk hv
          clear hm hv
          go_enter Try.func55, Try.ntmps55
          go_wp2_with (fail)
          go_quiet ((first | (go_at_call 79; (with_reducible refine (l1In_yes 1 0 5 _ (by decide) (by decide)).mono ?_); rintro e w' ⟨rfl, ⟨nd, rfl⟩⟩; (try first | exact ⟨rfl, _, World.drewN_drewN _ _ _⟩ | exact ⟨rfl, _, Eq.trans (World.drewN_drewN _ _ _) (congrArg (World.drewN _) (Nat.add_assoc _ _ _))⟩)) | (go_at_call 79; (with_reducible refine (l1In_yes a1_0 0 1 _ HM.out.1 HM.out.2).mono ?_); rintro e w' ⟨rfl, ⟨nd, rfl⟩⟩; (try first | exact ⟨rfl, _, World.drewN_drewN _ _ _⟩ | exact ⟨rfl, _, Eq.trans (World.drewN_drewN _ _ _) (congrArg (World.drewN _) (Nat.add_assoc _ _ _))⟩)) | (go_at_call 79; (with_reducible refine (l1In_no a1_1 0 a1_0 _ HV.out).mono ?_); rintro e w' ⟨rfl, ⟨nd, rfl⟩⟩; (try first | exact ⟨rfl, _, World.drewN_drewN _ _ _⟩ | exact ⟨rfl, _, Eq.trans (World.drewN_drewN _ _ _) (congrArg (World.drewN _) (Nat.add_assoc _ _ _))⟩))))
          go_wp2
          go_ret
          exact ⟨rfl, pw_below_drewN (below_alloc (Below.refl _ _) _) _⟩
      · rw [if_neg hm] at h
        obtain rfl := Option.some.inj h
        clear h
        have HM := Aside0.mk hm
        clear hm
        go_enter Try.func55, Try.ntmps55
        go_wp2_with (fail)
        go_quiet ((first | (go_at_call 79; (with_reducible refine (l1In_yes 1 0 5 _ (by decide) (by decide)).mono ?_); rintro e w' ⟨rfl, ⟨nd, rfl⟩⟩; (try first | exact ⟨rfl, _, World.drewN_drewN _ _ _⟩ | exact ⟨rfl, _, Eq.trans (World.drewN_drewN _ _ _) (congrArg (World.drewN _) (Nat.add_assoc _ _ _))⟩)) | (go_at_call 79; (with_reducible refine (l1In_no a1_0 0 1 _ HM.out).mono ?_); rintro e w' ⟨rfl, ⟨nd, rfl⟩⟩; (try first | exact ⟨rfl, _, World.drewN_drewN _ _ _⟩ | exact ⟨rfl, _, Eq.trans (World.drewN_drewN _ _ _) (congrArg (World.drewN _) (Nat.add_assoc _ _ _))⟩))))
        go_wp2
        go_ret
        exact ⟨rfl, pw_below_drewN (below_alloc (Below.refl _ _) _) _⟩
    · rw [isTerm_at 2 3 a1_0 a1_1 (by decide) (by decide) (by decide +kernel)] at h
      clear h0 h5
      by_cases hm : 0 ≤ a1_0 ∧ a1_0 ≤ 3
      · rw [if_pos hm] at h
        by_cases hv : 0 ≤ a1_1 ∧ a1_1 ≤ a1_0
        · rw [if_pos hv] at h
          obtain rfl := Option.some.inj h
          clear h
          have HM := Aside0.mk hm
          have HV := Aside0.mk hv
          clear hm hv
          go_enter Try.func55, Try.ntmps55
          go_wp2_with (fail)
          go_quiet ((first | (go_at_call 79; (with_reducible refine (l1In_yes 2 0 5 _ (by decide) (by decide)).mono ?_); rintro e w' ⟨rfl, ⟨nd, rfl⟩⟩; (try first | exact ⟨rfl, _, World.drewN_drewN _ _ _⟩ | exact ⟨rfl, _, Eq.trans (World.drewN_drewN _ _ _) (congrArg (World.drewN _) (Nat.add_assoc _ _ _))⟩)) | (go_at_call 79; (with_reducible refine (l1In_yes a1_0 0 3 _ HM.out.1 HM.out.2).mono ?_); rintro e w' ⟨rfl, ⟨nd, rfl⟩⟩; (try first | exact ⟨rfl, _, World.drewN_drewN _ _ _⟩ | exact ⟨rfl, _, Eq.trans (World.drewN_drewN _ _ _) (congrArg (World.drewN _) (Nat.add_assoc _ _ _))⟩)) | (go_at_call 79; (with_reducible refine (l1In_yes a1_1 0 a1_0 _ HV.out.1 HV.out.2).mono ?_); rintro e w' ⟨rfl, ⟨nd, rfl⟩⟩; (try first | exact ⟨rfl, _, World.drewN_drewN _ _ _⟩ | exact ⟨rfl, _, Eq.trans (World.drewN_drewN _ _ _) (congrArg (World.drewN _) (Nat.add_assoc _ _ _))⟩))))
          go_wp2
          go_ret
          exact ⟨rfl, pw_below_drewN (below_alloc (Below.refl _ _) _) _⟩
        · rw [if_neg hv] at h
          obtain rfl := Option.some.inj h
          clear h
          have HM := Aside0.mk hm
          have HV := Aside0.mk hv
          clear hm hv
          go_enter Try.func55, Try.ntmps55
          go_wp2_with (fail)
          go_quiet ((first | (go_at_call 79; (with_reducible refine (l1In_yes 2 0 5 _ (by decide) (by decide)).mono ?_); rintro e w' ⟨rfl, ⟨nd, rfl⟩⟩; (try first | exact ⟨rfl, _, World.drewN_drewN _ _ _⟩ | exact ⟨rfl, _, Eq.trans (World.drewN_drewN _ _ _) (congrArg (World.drewN _) (Nat.add_assoc _ _ _))⟩)) | (go_at_call 79; (with_reducible refine (l1In_yes a1_0 0 3 _ HM.out.1 HM.out.2).mono ?_); rintro e w' ⟨rfl, ⟨nd, rfl⟩⟩; (try first | exact ⟨rfl, _, World.drewN_drewN _ _ _⟩ | exact ⟨rfl, _, Eq.trans (World.drewN_drewN _ _ _) (congrArg (World.drewN _) (Nat.add_assoc _ _ _))⟩)) | (go_at_call 79; (with_reducible refine (l1In_no a1_1 0 a1_0 _ HV.out).mono ?_); rintro e w' ⟨rfl, ⟨nd, rfl⟩⟩; (try first | exact ⟨rfl, _, World.drewN_drewN _ _ _⟩ | exact ⟨rfl, _, Eq.trans (World.drewN_drewN _ _ _) (congrArg (World.drewN _) (Nat.add_assoc _ _ _))⟩))))
          go_wp2
          go_ret
          exact ⟨rfl, pw_below_drewN (below_alloc (Below.refl _ _) _) _⟩
      · rw [if_neg hm] at h
        obtain rfl := Option.some.inj h
        clear h
        have HM := Aside0.mk hm
        clear hm
        go_enter Try.func55, Try.ntmps55
        go_wp2_with (fail)
        go_quiet ((first | (go_at_call 79; (with_reducible refine (l1In_yes 2 0 5 _ (by decide) (by decide)).mono ?_); rintro e w' ⟨rfl, ⟨nd, rfl⟩⟩; (try first | exact ⟨rfl, _, World.drewN_drewN _ _ _⟩ | exact ⟨rfl, _, Eq.trans (World.drewN_drewN _ _ _) (congrArg (World.drewN _) (Nat.add_assoc _ _ _))⟩)) | (go_at_call 79; (with_reducible refine (l1In_no a1_0 0 3 _ HM.out).mono ?_); rintro e w' ⟨rfl, ⟨nd, rfl⟩⟩; (try first | exact ⟨rfl, _, World.drewN_drewN _ _ _⟩ | exact ⟨rfl, _, Eq.trans (World.drewN_drewN _ _ _) (congrArg (World.drewN _) (Nat.add_assoc _ _ _))⟩))))
        go_wp2
        go_ret
        exact ⟨rfl, pw_below_drewN (below_alloc (Below.refl _ _) _) _⟩
    · rw [isTerm_at 3 7 a1_0 a1_1 (by decide) (by decide) (by decide +kernel)] at h
      clear h0 h5
      by_cases hm : 0 ≤ a1_0 ∧ a1_0 ≤ 7
      · rw [if_pos hm] at h
        by_cases hv : 0 ≤ a1_1 ∧ a1_1 ≤ a1_0
        · rw [if_pos hv] at h
          obtain rfl := Option.some.inj h
          clear h
          have HM := Aside0.mk hm
          have HV := Aside0.mk hv
          clear hm hv
          go_enter Try.func55, Try.ntmps55
          go_wp2_with (fail)
          go_quiet ((first | (go_at_call 79; (with_reducible refine (l1In_yes 3 0 5 _ (by decide) (by decide)).mono ?_); rintro e w' ⟨rfl, ⟨nd, rfl⟩⟩; (try first | exact ⟨rfl, _, World.drewN_drewN _ _ _⟩ | exact ⟨rfl, _, Eq.trans (World.drewN_drewN _ _ _) (congrArg (World.drewN _) (Nat.add_assoc _ _ _))⟩)) | (go_at_call 79; (with_reducible refine (l1In_yes a1_0 0 7 _ HM.out.1 HM.out.2).mono ?_); rintro e w' ⟨rfl, ⟨nd, rfl⟩⟩; (try first | exact ⟨rfl, _, World.drewN_drewN _ _ _⟩ | exact ⟨rfl, _, Eq.trans (World.drewN_drewN _ _ _) (congrArg (World.drewN _) (Nat.add_assoc _ _ _))⟩)) | (go_at_call 79; (with_reducible refine (l1In_yes a1_1 0 a1_0 _ HV.out.1 HV.out.2).mono ?_); rintro e w' ⟨rfl, ⟨nd, rfl⟩⟩; (try first | exact ⟨rfl, _, World.drewN_drewN _ _ _⟩ | exact ⟨rfl, _, Eq.trans (World.drewN_drewN _ _ _) (congrArg (World.drewN _) (Nat.add_assoc _ _ _))⟩))))
          go_wp2
          go_ret
          exact ⟨rfl, pw_below_drewN (below_alloc (Below.refl _ _) _) _⟩
        · rw [if_neg hv] at h
          obtain rfl := Option.some.inj h
          clear h
          have HM := Aside0.mk hm
          have HV := Aside0.mk hv
          clear hm hv
          go_enter Try.func55, Try.ntmps55
          go_wp2_with (fail)
          go_quiet ((first | (go_at_call 79; (with_reducible refine (l1In_yes 3 0 5 _ (by decide) (by decide)).mono ?_); rintro e w' ⟨rfl, ⟨nd, rfl⟩⟩; (try first | exact ⟨rfl, _, World.drewN_drewN _ _ _⟩ | exact ⟨rfl, _, Eq.trans (World.drewN_drewN _ _ _) (congrArg (World.drewN _) (Nat.add_assoc _ _ _))⟩)) | (go_at_call 79; (with_reducible refine (l1In_yes a1_0 0 7 _ HM.out.1 HM.out.2).mono ?_); rintro e w' ⟨rfl, ⟨nd, rfl⟩⟩; (try first | exact ⟨rfl, _, World.drewN_drewN _ _ _⟩ | exact ⟨rfl, _, Eq.trans (World.drewN_drewN _ _ _) (congrArg (World.drewN _) (Nat.add_assoc _ _ _))⟩)) | (go_at_call 79; (with_reducible refine (l1In_no a1_1 0 a1_0 _ HV.out).mono ?_); rintro e w' ⟨rfl, ⟨nd, rfl⟩⟩; (try first | exact ⟨rfl, _, World.drewN_drewN _ _ _⟩ | exact ⟨rfl, _, Eq.trans (World.drewN_drewN _ _ _) (congrArg (World.drewN _) (Nat.add_assoc _ _ _))⟩))))
          go_wp2
          go_ret
          exact ⟨rfl, pw_below_drewN (below_alloc (Below.refl _ _) _) _⟩
      · rw [if_neg hm] at h
        obtain rfl := Option.some.inj h
        clear h
        have HM := Aside0.mk hm
        clear hm
        go_enter Try.func55, Try.ntmps55
        go_wp2_with (fail)
        go_quiet ((first | (go_at_call 79; (with_reducible refine (l1In_yes 3 0 5 _ (by decide) (by decide)).mono ?_); rintro e w' ⟨rfl, ⟨nd, rfl⟩⟩; (try first | exact ⟨rfl, _, World.drewN_drewN _ _ _⟩ | exact ⟨rfl, _, Eq.trans (World.drewN_drewN _ _ _) (congrArg (World.drewN _) (Nat.add_assoc _ _ _))⟩)) | (go_at_call 79; (with_reducible refine (l1In_no a1_0 0 7 _ HM.out).mono ?_); rintro e w' ⟨rfl, ⟨nd, rfl⟩⟩; (try first | exact ⟨rfl, _, World.drewN_drewN _ _ _⟩ | exact ⟨rfl, _, Eq.trans (World.drewN_drewN _ _ _) (congrArg (World.drewN _) (Nat.add_assoc _ _ _))⟩))))
        go_wp2
        go_ret
        exact ⟨rfl, pw_below_drewN (below_alloc (Below.refl _ _) _) _⟩
    · rw [isTerm_at 4 15 a1_0 a1_1 (by decide) (by decide) (by decide +kernel)] at h
      clear h0 h5
      by_cases hm : 0 ≤ a1_0 ∧ a1_0 ≤ 15
      · rw [if_pos hm] at h
        by_cases hv : 0 ≤ a1_1 ∧ a1_1 ≤ a1_0
        · rw [if_pos hv] at h
          obtain rfl := Option.some.inj h
          clear h
          have HM := Aside0.mk hm
          have HV := Aside0.mk hv
          clear hm hv
          go_enter Try.func55, Try.ntmps55
          go_wp2_with (fail)
          go_quiet ((first | (go_at_call 79; (with_reducible refine (l1In_yes 4 0 5 _ (by decide) (by decide)).mono ?_); rintro e w' ⟨rfl, ⟨nd, rfl⟩⟩; (try first | exact ⟨rfl, _, World.drewN_drewN _ _ _⟩ | exact ⟨rfl, _, Eq.trans (World.drewN_drewN _ _ _) (congrArg (World.drewN _) (Nat.add_assoc _ _ _))⟩)) | (go_at_call 79; (with_reducible refine (l1In_yes a1_0 0 15 _ HM.out.1 HM.out.2).mono ?_); rintro e w' ⟨rfl, ⟨nd, rfl⟩⟩; (try first | exact ⟨rfl, _, World.drewN_drewN _ _ _⟩ | exact ⟨rfl, _, Eq.trans (World.drewN_drewN _ _ _) (congrArg (World.drewN _) (Nat.add_assoc _ _ _))⟩)) | (go_at_call 79; (with_reducible refine (l1In_yes a1_1 0 a1_0 _ HV.out.1 HV.out.2).mono ?_); rintro e w' ⟨rfl, ⟨nd, rfl⟩⟩; (try first | exact ⟨rfl, _, World.drewN_drewN _ _ _⟩ | exact ⟨rfl, _, Eq.trans (World.drewN_drewN _ _ _) (congrArg (World.drewN _) (Nat.add_assoc _ _ _))⟩))))
          go_wp2
          go_ret
          exact ⟨rfl, pw_below_drewN (below_alloc (Below.refl _ _) _) _⟩
        · rw [if_neg hv] at h
          obtain rfl := Option.some.inj h
          clear h
          have HM := Aside0.mk hm
          have HV := Aside0.mk hv
          clear hm hv
          go_enter Try.func55, Try.ntmps55
          go_wp2_with (fail)
          go_quiet ((first | (go_at_call 79; (with_reducible refine (l1In_yes 4 0 5 _ (by decide) (by decide)).mono ?_); rintro e w' ⟨rfl, ⟨nd, rfl⟩⟩; (try first | exact ⟨rfl, _, World.drewN_drewN _ _ _⟩ | exact ⟨rfl, _, Eq.trans (World.drewN_drewN _ _ _) (congrArg (World.drewN _) (Nat.add_assoc _ _ _))⟩)) | (go_at_call 79; (with_reducible refine (l1In_yes a1_0 0 15 _ HM.out.1 HM.out.2).mono ?_); rintro e w' ⟨rfl, ⟨nd, rfl⟩⟩; (try first | exact ⟨rfl, _, World.drewN_drewN _ _ _⟩ | exact ⟨rfl, _, Eq.trans (World.drewN_drewN _ _ _) (congrArg (World.drewN _) (Nat.add_assoc _ _ _))⟩)) | (go_at_call 79; (with_reducible refine (l1In_no a1_1 0 a1_0 _ HV.out).mono ?_); rintro e w' ⟨rfl, ⟨nd, rfl⟩⟩; (try first | exact ⟨rfl, _, World.drewN_drewN _ _ _⟩ | exact ⟨rfl, _, Eq.trans (World.drewN_drewN _ _ _) (congrArg (World.drewN _) (Nat.add_assoc _ _ _))⟩))))
          go_wp2
          go_ret
          exact ⟨rfl, pw_below_drewN (below_alloc (Below.refl _ _) _) _⟩
      · rw [if_neg hm] at h
        obtain rfl := Option.some.inj h
        clear h
        have HM := Aside0.mk hm
        clear hm
        go_enter Try.func55, Try.ntmps55
        go_wp2_with (fail)
        go_quiet ((first | (go_at_call 79; (with_reducible refine (l1In_yes 4 0 5 _ (by decide) (by decide)).mono ?_); rintro e w' ⟨rfl, ⟨nd, rfl⟩⟩; (try first | exact ⟨rfl, _, World.drewN_drewN _ _ _⟩ | exact ⟨rfl, _, Eq.trans (World.drewN_drewN _ _ _) (congrArg (World.drewN _) (Nat.add_assoc _ _ _))⟩)) | (go_at_call 79; (with_reducible refine (l1In_no a1_0 0 15 _ HM.out).mono ?_); rintro e w' ⟨rfl, ⟨nd, rfl⟩⟩; (try first | exact ⟨rfl, _, World.drewN_drewN _ _ _⟩ | exact ⟨rfl, _, Eq.trans (World.drewN_drewN _ _ _) (congrArg (World.drewN _) (Nat.add_assoc _ _ _))⟩))))
        go_wp2
        go_ret
        exact ⟨rfl, pw_below_drewN (below_alloc (Below.refl _ _) _) _⟩
    · rw [isTerm_at 5 31 a1_0 a1_1 (by decide) (by decide) (by decide +kernel)] at h
      clear h0 h5
      by_cases hm : 0 ≤ a1_0 ∧ a1_0 ≤ 31
      · rw [if_pos hm] at h
        by_cases hv : 0 ≤ a1_1 ∧ a1_1 ≤ a1_0
        · rw [if_pos hv] at h
          obtain rfl := Option.some.inj h
          clear h
          have HM := Aside0.mk hm
          have HV := Aside0.mk hv
          clear hm hv
          go_enter Try.func55, Try.ntmps55
          go_wp2_with (fail)
          go_quiet ((first | (go_at_call 79; (with_reducible refine (l1In_yes 5 0 5 _ (by decide) (by decide)).mono ?_); rintro e w' ⟨rfl, ⟨nd, rfl⟩⟩; (try first | exact ⟨rfl, _, World.drewN_drewN _ _ _⟩ | exact ⟨rfl, _, Eq.trans (World.drewN_drewN _ _ _) (congrArg (World.drewN _) (Nat.add_assoc _ _ _))⟩)) | (go_at_call 79; (with_reducible refine (l1In_yes a1_0 0 31 _ HM.out.1 HM.out.2).mono ?_); rintro e w' ⟨rfl, ⟨nd, rfl⟩⟩; (try first | exact ⟨rfl, _, World.drewN_drewN _ _ _⟩ | exact ⟨rfl, _, Eq.trans (World.drewN_drewN _ _ _) (congrArg (World.drewN _) (Nat.add_assoc _ _ _))⟩)) | (go_at_call 79; (with_reducible refine (l1In_yes a1_1 0 a1_0 _ HV.out.1 HV.out.2).mono ?_); rintro e w' ⟨rfl, ⟨nd, rfl⟩⟩; (try first | exact ⟨rfl, _, World.drewN_drewN _ _ _⟩ | exact ⟨rfl, _, Eq.trans (World.drewN_drewN _ _ _) (congrArg (World.drewN _) (Nat.add_assoc _ _ _))⟩))))
          go_wp2
          go_ret
          exact ⟨rfl, pw_below_drewN (below_alloc (Below.refl _ _) _) _⟩
        · rw [if_neg hv] at h
          obtain rfl := Option.some.inj h
          clear h
          have HM := Aside0.mk hm
          have HV := Aside0.mk hv
          clear hm hv
          go_enter Try.func55, Try.ntmps55
          go_wp2_with (fail)
          go_quiet ((first | (go_at_call 79; (with_reducible refine (l1In_yes 5 0 5 _ (by decide) (by decide)).mono ?_); rintro e w' ⟨rfl, ⟨nd, rfl⟩⟩; (try first | exact ⟨rfl, _, World.drewN_drewN _ _ _⟩ | exact ⟨rfl, _, Eq.trans (World.drewN_drewN _ _ _) (congrArg (World.drewN _) (Nat.add_assoc _ _ _))⟩)) | (go_at_call 79; (with_reducible refine (l1In_yes a1_0 0 31 _ HM.out.1 HM.out.2).mono ?_); rintro e w' ⟨rfl, ⟨nd, rfl⟩⟩; (try first | exact ⟨rfl, _, World.drewN_drewN _ _ _⟩ | exact ⟨rfl, _, Eq.trans (World.drewN_drewN _ _ _) (congrArg (World.drewN _) (Nat.add_assoc _ _ _))⟩)) | (go_at_call 79; (with_reducible refine (l1In_no a1_1 0 a1_0 _ HV.out).mono ?_); rintro e w' ⟨rfl, ⟨nd, rfl⟩⟩; (try first | exact ⟨rfl, _, World.drewN_drewN _ _ _⟩ | exact ⟨rfl, _, Eq.trans (World.drewN_drewN _ _ _) (congrArg (World.drewN _) (Nat.add_assoc _ _ _))⟩))))
          go_wp2
          go_ret
          exact ⟨rfl, pw_below_drewN (below_alloc (Below.refl _ _) _) _⟩
      · rw [if_neg hm] at h
        obtain rfl := Option.some.inj h
        clear h
        have HM := Aside0.mk hm
        clear hm
        go_enter Try.func55, Try.ntmps55
        go_wp2_with (fail)
        go_quiet ((first | (go_at_call 79; (with_reducible refine (l1In_yes 5 0 5 _ (by decide) (by decide)).mono ?_); rintro e w' ⟨rfl, ⟨nd, rfl⟩⟩; (try first | exact ⟨rfl, _, World.drewN_drewN _ _ _⟩ | exact ⟨rfl, _, Eq.trans (World.drewN_drewN _ _ _) (congrArg (World.drewN _) (Nat.add_assoc _ _ _))⟩)) | (go_at_call 79; (with_reducible refine (l1In_no a1_0 0 31 _ HM.out).mono ?_); rintro e w' ⟨rfl, ⟨nd, rfl⟩⟩; (try first | exact ⟨rfl, _, World.drewN_drewN _ _ _⟩ | exact ⟨rfl, _, Eq.trans (World.drewN_drewN _ _ _) (congrArg (World.drewN _) (Nat.add_assoc _ _ _))⟩))))
        go_wp2
        go_ret
        exact ⟨rfl, pw_below_drewN (below_alloc (Below.refl _ _) _) _⟩
  · have hf : r = false := by
      unfold spec_IsTerm.f at h
      rw [l1In_is] at h
      simpa [hr] using h.symm
    subst hf
    clear h
    go_enter Try.func55, Try.ntmps55
    go_wp2_with (fail)
    go_quiet ((first | (go_at_call 79; (with_reducible refine (l1In_no a0 0 5 _ hr).mono ?_); rintro e w' ⟨rfl, ⟨nd, rfl⟩⟩; (try first | exact ⟨rfl, _, World.drewN_drewN _ _ _⟩ | exact ⟨rfl, _, Eq.trans (World.drewN_drewN _ _ _) (congrArg (World.drewN _) (Nat.add_assoc _ _ _))⟩))))
    go_wp2
    go_ret
    exact ⟨rfl, pw_below_drewN (below_alloc (Below.refl _ _) _) _⟩
end Go.Proofs.Ytgkmgiojbiikgaa.P
