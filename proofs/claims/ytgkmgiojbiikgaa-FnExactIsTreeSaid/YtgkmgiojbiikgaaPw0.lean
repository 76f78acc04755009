/- The functions that this seat's laws reach, each as a plain Lean function, and the walk of each; written by a program over the kit's print. No conditions but those that stand in the theorems. -/
import Derived.Test.YtgkmgiojbiikgaaP0
import Derived.Test.YtgkmgiojbiikgaaPn0
namespace Go.Proofs.Ytgkmgiojbiikgaa.P
open Go.RowKit Go.Proofs.YtgkmgiojbiikgaaW.PrintWords Go.Proofs.YtgkmgiojbiikgaaW.PrintLast Go.Proofs.YtgkmgiojbiikgaaW.PrintMore
attribute [local go_sem] max2_int min2_int max_two min_two max_three min_three max_four min_four   -- for this text's walks alone
set_option linter.unusedVariables false
set_option linter.unusedSimpArgs false

attribute [local go_sem] fld34_0 fld34_1
/-! ### spec_l7End: function 102 -/
mutual
def spec_l7End.j0 : Nat → ByteArray → Int → Int → Bool → Option (Int)
  | 0, _, _, _, _ => none
  | k + 1, x0, x1, x2, x22 => if x22 = true then (some (wrap64 (x1 + 1))) else (if 0 ≤ x1 then (if x1 < (x0.size : Int) then ((spec_l1In.f (wrap64 ((wrap64 (bt x0 x1)) - 97)) 0 4).bind fun t881 => (if t881 = true then (if 0 ≤ (wrap64 ((wrap64 (bt x0 x1)) - 97)) then (spec_l7End.j1 k x0 x1 x2 (wrap64 ((wrap64 (bt x0 x1)) - 97)) ((Go.bits .and .i64 (shr .i64 x2 (wrap64 ((wrap64 (bt x0 x1)) - 97))) 1) == 1)) else (none)) else (spec_l7End.j1 k x0 x1 x2 (wrap64 ((wrap64 (bt x0 x1)) - 97)) true))) else (none)) else (none))
def spec_l7End.j1 : Nat → ByteArray → Int → Int → Int → Bool → Option (Int)
  | 0, _, _, _, _, _ => none
  | k + 1, x0, x1, x2, x7, x39 => if x39 = true then (some (-1)) else (if 0 ≤ x7 then ((spec_l7End.f k x0 (wrap64 (x1 + 1)) (Go.bits .or .i64 x2 (shl .i64 1 x7))).bind fun t882 => (if t882 < 0 then (some (-1)) else ((spec_l7End.f k x0 t882 (Go.bits .or .i64 x2 (shl .i64 1 x7))).bind fun t883 => (some t883)))) else (none))
def spec_l7End.f : Nat → ByteArray → Int → Int → Option (Int)
  | 0, _, _, _ => none
  | k + 1, a0, a1, a2 => if a1 ≥ (a0.size : Int) then (some (-1)) else (if 0 ≤ a1 then (if a1 < (a0.size : Int) then (if (bt a0 a1) = 48 then (spec_l7End.j0 k a0 a1 a2 true) else (spec_l7End.j0 k a0 a1 a2 ((bt a0 a1) == 49))) else (none)) else (none))
end
theorem spec_l7End.mono_l : ∀ k, (∀ y0 y1 y2, LeO (spec_l7End.f k y0 y1 y2) (spec_l7End.f (k + 1) y0 y1 y2)) ∧ (∀ y0 y1 y2 y3, LeO (spec_l7End.j0 k y0 y1 y2 y3) (spec_l7End.j0 (k + 1) y0 y1 y2 y3)) ∧ (∀ y0 y1 y2 y3 y4, LeO (spec_l7End.j1 k y0 y1 y2 y3 y4) (spec_l7End.j1 (k + 1) y0 y1 y2 y3 y4))
  | 0 => ⟨fun _ _ _ r h => by simp [spec_l7End.f] at h, fun _ _ _ _ r h => by simp [spec_l7End.j0] at h, fun _ _ _ _ _ r h => by simp [spec_l7End.j1] at h⟩
  | k + 1 => by
    obtain ⟨ih0, ih1, ih2⟩ := spec_l7End.mono_l k
    refine ⟨?_, ?_, ?_⟩
    · intro y0 y1 y2
      unfold spec_l7End.f
      repeat' first
      | (with_reducible exact ih0 _ _ _)
      | (with_reducible exact ih1 _ _ _ _)
      | (with_reducible exact ih2 _ _ _ _ _)
      | (with_reducible exact LeO.refl _)
      | (with_reducible exact LeO.none _)
      | (with_reducible refine LeO.ite ?_ ?_)
      | (with_reducible refine LeO.bind ?_ (fun _ => ?_))
      | exact ih0 _ _ _
      | exact ih1 _ _ _ _
      | exact ih2 _ _ _ _ _
      | exact LeO.none _
      | refine LeO.ite ?_ ?_
      | refine LeO.bind ?_ (fun _ => ?_)
    · intro y0 y1 y2 y3
      unfold spec_l7End.j0
      repeat' first
      | (with_reducible exact ih0 _ _ _)
      | (with_reducible exact ih1 _ _ _ _)
      | (with_reducible exact ih2 _ _ _ _ _)
      | (with_reducible exact LeO.refl _)
      | (with_reducible exact LeO.none _)
      | (with_reducible refine LeO.ite ?_ ?_)
      | (with_reducible refine LeO.bind ?_ (fun _ => ?_))
      | exact ih0 _ _ _
      | exact ih1 _ _ _ _
      | exact ih2 _ _ _ _ _
      | exact LeO.none _
      | refine LeO.ite ?_ ?_
      | refine LeO.bind ?_ (fun _ => ?_)
    · intro y0 y1 y2 y3 y4
      unfold spec_l7End.j1
      repeat' first
      | (with_reducible exact ih0 _ _ _)
      | (with_reducible exact ih1 _ _ _ _)
      | (with_reducible exact ih2 _ _ _ _ _)
      | (with_reducible exact LeO.refl _)
      | (with_reducible exact LeO.none _)
      | (with_reducible refine LeO.ite ?_ ?_)
      | (with_reducible refine LeO.bind ?_ (fun _ => ?_))
      | exact ih0 _ _ _
      | exact ih1 _ _ _ _
      | exact ih2 _ _ _ _ _
      | exact LeO.none _
      | refine LeO.ite ?_ ?_
      | refine LeO.bind ?_ (fun _ => ?_)
theorem spec_l7End.mono : ∀ a0 a1 a2 k, LeO (spec_l7End.f k a0 a1 a2) (spec_l7End.f (k + 1) a0 a1 a2) := by
  intro a0 a1 a2 k
  obtain ⟨ih0, ih1, ih2⟩ := spec_l7End.mono_l k
  exact ih0 a0 a1 a2
set_option maxHeartbeats 8000000 in
set_option maxRecDepth 100000 in
theorem spec_l7End.calls (k : Nat) : ∀ (a0 : ByteArray) (a1 : Int) (a2 : Int) (r : Int) (w : World) (h : spec_l7End.f k a0 a1 a2 = some r),
    Calls Try.prog 102 #[.string a0, .int .i64 a1, .int .i64 a2] w fun e w' => e = .returned (.int .i64 r) ∧ Drawn0 w w' := by
  induction k using Nat.strongRecOn with
  | _ k ih =>
  intro a0 a1 a2 r w h
  cases k with
  | zero => exact absurd h (by simp [spec_l7End.f])
  | succ k =>
  simp only [spec_l7End.f] at h
  have H : (if a1 ≥ (a0.size : Int) then (some (-1)) else (if 0 ≤ a1 then (if a1 < (a0.size : Int) then (if (bt a0 a1) = 48 then (spec_l7End.j0 k a0 a1 a2 true) else (spec_l7End.j0 k a0 a1 a2 ((bt a0 a1) == 49))) else (none)) else (none))) = some r := h
  clear h
  by_cases c4 : a1 ≥ (a0.size : Int)
  · rw [if_pos c4] at H
    have c4b0 : decide ((a0.size : Int) ≤ a1) = true := decide_eq_true c4
    clear c4
    obtain rfl := Option.some.inj H
    go_enter Try.func102, Try.ntmps102
    go_wp2
    go_ret
    exact ⟨by first | rfl | (simp; done) | (simp [*]; done), by repeat (first | exact Drawn0.refl _ | apply Drawn0.step)⟩
  · rw [if_neg c4] at H
    have c4b0 : decide ((a0.size : Int) ≤ a1) = false := decide_eq_false c4
    clear c4
    have HC5 := Aside0.mk H
    clear H
    go_enter Try.func102, Try.ntmps102
    go_upto_region 3 with (fail)
    go_cut [22] (fun v22 wc => ∃ (kq : Nat) (x22_4 : Bool), v22 = .bool x22_4 ∧ Aside0 (spec_l7End.j0 kq a0 a1 a2 x22_4 = some r) ∧ Aside0 (kq ≤ k) ∧ Drawn0 w wc)
    case first =>
      have H := HC5.out
      clear HC5
      by_cases c6 : 0 ≤ a1
      · rw [if_pos c6] at H
        have c6b0 : decide (0 ≤ a1) = true := decide_eq_true c6
        clear c6
        (first | rw [c6b0] | (simp only [i64_w, i32_w]; rw [c6b0]) | skip)
        by_cases c7 : a1 < (a0.size : Int)
        · rw [if_pos c7] at H
          have c7b0 : decide (a1 < (a0.size : Int)) = true := decide_eq_true c7
          clear c7
          by_cases c9 : (bt a0 a1) = 48
          · rw [if_pos c9] at H
            have c9b0 : ((bt a0 a1) == 48) = true := beq_iff_eq.mpr c9
            have c9b1 : ((bt a0 a1) != 48) = false := bne_eq_false_iff_eq.mpr c9
            clear c9
            have H' := Aside0.mk H
            clear H
            have p8 : 0 ≤ (a1 : Int) := of_decide_eq_true (by first | (with_reducible assumption) | assumption)
            have q8 : a1 < (a0.size : Int) := of_decide_eq_true (by first | (with_reducible assumption) | assumption)
            have hx8 := bt_at a0 a1
            replace p8 := eq_true p8
            replace q8 := eq_true q8
            go_wp2
            go_meet
            case rel => exact ⟨_, (true), (by first | rfl | (simp; done) | (simp [*]; done)), H', ⟨by first | omega | exact Nat.le_refl _⟩, by repeat (first | exact Drawn0.refl _ | apply Drawn0.step)⟩
          · rw [if_neg c9] at H
            have c9b0 : ((bt a0 a1) == 48) = false := beq_eq_false_iff_ne.mpr c9
            have c9b1 : ((bt a0 a1) != 48) = true := bne_iff_ne.mpr c9
            have H' := Aside0.mk H
            clear H
            have p8 : 0 ≤ (a1 : Int) := of_decide_eq_true (by first | (with_reducible assumption) | assumption)
            have q8 : a1 < (a0.size : Int) := of_decide_eq_true (by first | (with_reducible assumption) | assumption)
            have hx8 := bt_at a0 a1
            replace p8 := eq_true p8
            replace q8 := eq_true q8
            have p10 : 0 ≤ (a1 : Int) := of_decide_eq_true (by first | (with_reducible assumption) | assumption)
            have q10 : a1 < (a0.size : Int) := of_decide_eq_true (by first | (with_reducible assumption) | assumption)
            have hx10 := bt_at a0 a1
            replace p10 := eq_true p10
            replace q10 := eq_true q10
            go_wp2
            go_meet
            case rel => exact ⟨_, (((bt a0 a1) == 49)), (by first | rfl | (simp; done) | (simp [*]; done)), H', ⟨by first | omega | exact Nat.le_refl _⟩, by repeat (first | exact Drawn0.refl _ | apply Drawn0.step)⟩
        · rw [if_neg c7] at H
          exact absurd H (by simp)
      · rw [if_neg c6] at H
        exact absurd H (by simp)
    case rest =>
      clear HC5
      try clear c1
      try clear p1
      try clear q1
      try clear hx1
      try clear p2
      try clear c4
      try clear c4b0
      try clear c6
      try clear c6b0
      try clear c7
      try clear c7b0
      try clear p8
      try clear q8
      try clear hx8
      try clear c9
      try clear c9b0
      try clear c9b1
      try clear c10
      try clear p10
      try clear q10
      try clear hx10
      try clear p10
      try clear p8
      try clear q10
      try clear q8
      obtain ⟨kq, x22_4, rfl, HA, HJ4, ⟨mc4, rfl⟩⟩ := hcut
      cases kq with
      | zero => exact absurd HA.out (by simp [spec_l7End.j0])
      | succ kj4 =>
        have H := HA.out
        clear HA
        simp only [spec_l7End.j0] at H
        by_cases c11 : x22_4 = true
        · subst c11
          have H1 : (some (wrap64 (a1 + 1))) = some r := by rw [if_pos rfl] at H; exact H
          clear H
          have H := H1
          clear H1
          obtain rfl := Option.some.inj H
          go_wp2
          go_ret
          exact ⟨by first | rfl | (simp; done) | (simp [*]; done), by repeat (first | exact Drawn0.refl _ | apply Drawn0.step)⟩
        · replace c11 := Bool.eq_false_iff.mpr c11
          subst c11
          have H1 : (if 0 ≤ a1 then (if a1 < (a0.size : Int) then ((spec_l1In.f (wrap64 ((wrap64 (bt a0 a1)) - 97)) 0 4).bind fun t881 => (if t881 = true then (if 0 ≤ (wrap64 ((wrap64 (bt a0 a1)) - 97)) then (spec_l7End.j1 kj4 a0 a1 a2 (wrap64 ((wrap64 (bt a0 a1)) - 97)) ((Go.bits .and .i64 (shr .i64 a2 (wrap64 ((wrap64 (bt a0 a1)) - 97))) 1) == 1)) else (none)) else (spec_l7End.j1 kj4 a0 a1 a2 (wrap64 ((wrap64 (bt a0 a1)) - 97)) true))) else (none)) else (none)) = some r := by rw [if_neg (show ¬ (false = true) by decide)] at H; exact H
          clear H
          have H := H1
          clear H1
          by_cases c12 : 0 ≤ a1
          · rw [if_pos c12] at H
            have c12b0 : decide (0 ≤ a1) = true := decide_eq_true c12
            clear c12
            by_cases c13 : a1 < (a0.size : Int)
            · rw [if_pos c13] at H
              have c13b0 : decide (a1 < (a0.size : Int)) = true := decide_eq_true c13
              clear c13
              have HC15 := Aside0.mk H
              clear H
              have p14 : 0 ≤ (a1 : Int) := of_decide_eq_true (by first | (with_reducible assumption) | assumption)
              have q14 : a1 < (a0.size : Int) := of_decide_eq_true (by first | (with_reducible assumption) | assumption)
              have hx14 := bt_at a0 a1
              replace p14 := eq_true p14
              replace q14 := eq_true q14
              go_upto_region 6 with (fail)
              go_cut [39] (fun v39 wc => ∃ (kq : Nat) (x39_14 : Bool), v39 = .bool x39_14 ∧ Aside0 (spec_l7End.j1 kq a0 a1 a2 (wrap64 ((wrap64 (bt a0 a1)) - 97)) x39_14 = some r) ∧ Aside0 (kq ≤ kj4) ∧ Drawn0 w wc)
              case first =>
                have H := HC15.out
                clear HC15
                replace H := Option.bind_eq_some_iff.mp H
                obtain ⟨t881, A160, H⟩ := H
                replace H : (if t881 = true then (if 0 ≤ (wrap64 ((wrap64 (bt a0 a1)) - 97)) then (spec_l7End.j1 kj4 a0 a1 a2 (wrap64 ((wrap64 (bt a0 a1)) - 97)) ((Go.bits .and .i64 (shr .i64 a2 (wrap64 ((wrap64 (bt a0 a1)) - 97))) 1) == 1)) else (none)) else (spec_l7End.j1 kj4 a0 a1 a2 (wrap64 ((wrap64 (bt a0 a1)) - 97)) true)) = some r := H
                have A16 := Aside0.mk A160
                clear A160
                by_cases c17 : t881 = true
                · subst c17
                  have H1 : (if 0 ≤ (wrap64 ((wrap64 (bt a0 a1)) - 97)) then (spec_l7End.j1 kj4 a0 a1 a2 (wrap64 ((wrap64 (bt a0 a1)) - 97)) ((Go.bits .and .i64 (shr .i64 a2 (wrap64 ((wrap64 (bt a0 a1)) - 97))) 1) == 1)) else (none)) = some r := by rw [if_pos rfl] at H; exact H
                  clear H
                  have H := H1
                  clear H1
                  obtain ⟨ji18, hji18⟩ : ∃ j_ : Int, (wrap64 ((wrap64 (bt a0 a1)) - 97)) = j_ := ⟨_, rfl⟩
                  replace H : (if 0 ≤ (ji18) then (spec_l7End.j1 kj4 a0 a1 a2 ji18 ((Go.bits .and .i64 (shr .i64 a2 (ji18)) 1) == 1)) else (none)) = some r := by first | (rw [hji18] at H; exact H) | (simp only [hji18] at H ⊢; exact H)
                  (try rw [hji18] at A16)
                  have hji18w : (IntKind.i64.wrap ((wrap64 (bt a0 a1)) - 97)) = ji18 := (i64_w _).trans hji18
                  by_cases c19 : 0 ≤ (ji18)
                  · rw [if_pos c19] at H
                    have c19b0 := eq_true c19
                    have c19b1 : decide (0 ≤ (ji18)) = true := decide_eq_true c19
                    clear c19
                    obtain ⟨ji20, hji20⟩ : ∃ j_ : Int, (shr .i64 a2 (ji18)) = j_ := ⟨_, rfl⟩
                    replace H : (spec_l7End.j1 kj4 a0 a1 a2 ji18 ((Go.bits .and .i64 (ji20) 1) == 1)) = some r := by first | (rw [hji20] at H; exact H) | (simp only [hji20] at H ⊢; exact H)
                    (try rw [hji20] at A16)
                    have hji20_ : (a2 / 2 ^ min (ji18).toNat 64) = ji20 := hji20
                    have hji20z : (ji18) ≤ 64 → (a2 / 2 ^ (ji18).toNat) = ji20 := shr_small hji20
                    have H' := Aside0.mk H
                    clear H
                    go_wp2_with (first | ((with_reducible refine gate_callee (f := 79) rfl ?_); refine goesL_ (some 31) rfl rfl Try.func79 (by kernel_rfl) rfl #[.int .i64 ji18, .int .i64 0, .int .i64 4] rfl (by (try simp only [List.map_toArray, List.map_cons, List.map_nil]); first | done | (simp only [hji18]; rfl) | rfl | (simp only [List.length_drop, List.length_take]; rfl)) ?_; (with_reducible refine (spec_l1In.calls ji18 0 4 true _ A16.out).mono ?_); rintro e w' ⟨rfl, ⟨nd, rfl⟩⟩; refine ⟨_, rfl, ?_⟩))
                    (try subst hji18)
                    go_meet
                    case rel => exact ⟨_, (((Go.bits .and .i64 (ji20) 1) == 1)), (by first | rfl | (simp; done) | (simp only [← hji20] <;> (first | rfl | simp)) | (simp [*]; done)), H', ⟨by have := HJ4.out; first | omega | exact Nat.le_refl _⟩, by repeat (first | exact Drawn0.refl _ | apply Drawn0.step)⟩
                  · rw [if_neg c19] at H
                    exact absurd H (by simp)
                · replace c17 := Bool.eq_false_iff.mpr c17
                  subst c17
                  have H1 : (spec_l7End.j1 kj4 a0 a1 a2 (wrap64 ((wrap64 (bt a0 a1)) - 97)) true) = some r := by rw [if_neg (show ¬ (false = true) by decide)] at H; exact H
                  clear H
                  have H := H1
                  clear H1
                  have H' := Aside0.mk H
                  clear H
                  go_wp2_with (first | ((with_reducible refine gate_callee (f := 79) rfl ?_); refine goesL_ (some 31) rfl rfl Try.func79 (by kernel_rfl) rfl #[.int .i64 (wrap64 ((wrap64 (bt a0 a1)) - 97)), .int .i64 0, .int .i64 4] rfl (by (try simp only [List.map_toArray, List.map_cons, List.map_nil]); first | done | rfl | (simp only [List.length_drop, List.length_take]; rfl)) ?_; (with_reducible refine (spec_l1In.calls (wrap64 ((wrap64 (bt a0 a1)) - 97)) 0 4 false _ A16.out).mono ?_); rintro e w' ⟨rfl, ⟨nd, rfl⟩⟩; refine ⟨_, rfl, ?_⟩))
                  go_meet
                  case rel => exact ⟨_, (true), (by first | rfl | (simp; done) | (simp [*]; done)), H', ⟨by have := HJ4.out; first | omega | exact Nat.le_refl _⟩, by repeat (first | exact Drawn0.refl _ | apply Drawn0.step)⟩
              case rest =>
                clear HC15
                try clear c1
                try clear p1
                try clear q1
                try clear hx1
                try clear p2
                try clear c4
                try clear c4b0
                try clear c6
                try clear c6b0
                try clear p6
                try clear c7
                try clear c7b0
                try clear p8
                try clear q8
                try clear hx8
                try clear c9
                try clear c9b0
                try clear c9b1
                try clear c10
                try clear p10
                try clear q10
                try clear hx10
                try clear c11
                try clear c12
                try clear c12b0
                try clear c13
                try clear c13b0
                try clear p14
                try clear q14
                try clear hx14
                try clear c17
                try clear c19
                try clear c19b0
                try clear c19b1
                try clear p1
                try clear p10
                try clear p14
                try clear p2
                try clear p8
                try clear q1
                try clear q10
                try clear q14
                try clear q8
                obtain ⟨kq, x39_14, rfl, HA, HJ14, ⟨mc14, rfl⟩⟩ := hcut
                cases kq with
                | zero => exact absurd HA.out (by simp [spec_l7End.j1])
                | succ kj14 =>
                  have H := HA.out
                  clear HA
                  simp only [spec_l7End.j1] at H
                  by_cases c21 : x39_14 = true
                  · subst c21
                    have H1 : (some (-1)) = some r := by rw [if_pos rfl] at H; exact H
                    clear H
                    have H := H1
                    clear H1
                    obtain rfl := Option.some.inj H
                    go_wp2
                    go_ret
                    exact ⟨by first | rfl | (simp; done) | (simp [*]; done), by repeat (first | exact Drawn0.refl _ | apply Drawn0.step)⟩
                  · replace c21 := Bool.eq_false_iff.mpr c21
                    subst c21
                    have H1 : (if 0 ≤ (wrap64 ((wrap64 (bt a0 a1)) - 97)) then ((spec_l7End.f kj14 a0 (wrap64 (a1 + 1)) (Go.bits .or .i64 a2 (shl .i64 1 (wrap64 ((wrap64 (bt a0 a1)) - 97))))).bind fun t882 => (if t882 < 0 then (some (-1)) else ((spec_l7End.f kj14 a0 t882 (Go.bits .or .i64 a2 (shl .i64 1 (wrap64 ((wrap64 (bt a0 a1)) - 97))))).bind fun t883 => (some t883)))) else (none)) = some r := by rw [if_neg (show ¬ (false = true) by decide)] at H; exact H
                    clear H
                    have H := H1
                    clear H1
                    obtain ⟨ji22, hji22⟩ : ∃ j_ : Int, (wrap64 ((wrap64 (bt a0 a1)) - 97)) = j_ := ⟨_, rfl⟩
                    replace H : (if 0 ≤ (ji22) then ((spec_l7End.f kj14 a0 (wrap64 (a1 + 1)) (Go.bits .or .i64 a2 (shl .i64 1 (ji22)))).bind fun t882 => (if t882 < 0 then (some (-1)) else ((spec_l7End.f kj14 a0 t882 (Go.bits .or .i64 a2 (shl .i64 1 (ji22)))).bind fun t883 => (some t883)))) else (none)) = some r := by first | (rw [hji22] at H; exact H) | (simp only [hji22] at H ⊢; exact H)
                    have hji22w : (IntKind.i64.wrap ((wrap64 (bt a0 a1)) - 97)) = ji22 := (i64_w _).trans hji22
                    by_cases c23 : 0 ≤ (ji22)
                    · rw [if_pos c23] at H
                      have c23b0 := eq_true c23
                      have c23b1 : decide (0 ≤ (ji22)) = true := decide_eq_true c23
                      clear c23
                      obtain ⟨ji24, hji24⟩ : ∃ j_ : Int, (shl .i64 1 (ji22)) = j_ := ⟨_, rfl⟩
                      replace H : ((spec_l7End.f kj14 a0 (wrap64 (a1 + 1)) (Go.bits .or .i64 a2 (ji24))).bind fun t882 => (if t882 < 0 then (some (-1)) else ((spec_l7End.f kj14 a0 t882 (Go.bits .or .i64 a2 (ji24))).bind fun t883 => (some t883)))) = some r := by first | (rw [hji24] at H; exact H) | (simp only [hji24] at H ⊢; exact H)
                      have hji24_ : (IntKind.i64.wrap (1 * 2 ^ min (ji22).toNat 64)) = ji24 := hji24
                      have hji24z : (ji22) ≤ 64 → (IntKind.i64.wrap (1 * 2 ^ (ji22).toNat)) = ji24 := shl_small hji24
                      have hji24u : (IntKind.i64.wrap (2 ^ min (ji22).toNat 64)) = ji24 := by have h_ := hji24_; rw [Int.one_mul] at h_; exact h_
                      have hji24v : (ji22) ≤ 64 → (IntKind.i64.wrap (2 ^ (ji22).toNat)) = ji24 := fun hle_ => by have h_ := hji24z hle_; rw [Int.one_mul] at h_; exact h_
                      have hji24y : (wrap64 (1 * 2 ^ min (ji22).toNat 64)) = ji24 := (i64_w _).symm.trans hji24_
                      have hji24x : (ji22) ≤ 64 → (wrap64 (1 * 2 ^ (ji22).toNat)) = ji24 := fun h_ => (i64_w _).symm.trans (hji24z h_)
                      replace H := Option.bind_eq_some_iff.mp H
                      obtain ⟨t882, A250, H⟩ := H
                      replace H : (if t882 < 0 then (some (-1)) else ((spec_l7End.f kj14 a0 t882 (Go.bits .or .i64 a2 (ji24))).bind fun t883 => (some t883))) = some r := H
                      have A25 := Aside0.mk A250
                      clear A250
                      by_cases c26 : t882 < 0
                      · rw [if_pos c26] at H
                        have c26b0 : decide (t882 < 0) = true := decide_eq_true c26
                        clear c26
                        obtain rfl := Option.some.inj H
                        go_wp2_with (first | ((with_reducible refine gate_callee (f := 102) rfl ?_); refine goesL_ (some 47) rfl rfl Try.func102 (by kernel_rfl) rfl #[.string a0, .int .i64 (wrap64 (a1 + 1)), .int .i64 (Go.bits .or .i64 a2 (ji24))] rfl (by (try simp only [List.map_toArray, List.map_cons, List.map_nil]); first | done | (simp only [hji24]; rfl) | rfl | (simp only [List.length_drop, List.length_take]; rfl)) ?_; (with_reducible refine (ih kj14 (by have := HJ4.out; have := HJ14.out; omega) a0 (wrap64 (a1 + 1)) (Go.bits .or .i64 a2 (ji24)) t882 _ A25.out).mono ?_); rintro e w' ⟨rfl, ⟨nd, rfl⟩⟩; refine ⟨_, rfl, ?_⟩))
                        go_ret
                        exact ⟨by first | rfl | (simp; done) | (simp only [← hji22, ← hji24] <;> (first | rfl | simp)) | (simp [*]; done), by repeat (first | exact Drawn0.refl _ | apply Drawn0.step)⟩
                      · rw [if_neg c26] at H
                        have c26b0 : decide (t882 < 0) = false := decide_eq_false c26
                        clear c26
                        have c27b0 := eq_true (of_decide_eq_true (by first | (with_reducible assumption) | assumption) : 0 ≤ (ji22))
                        replace H := Option.bind_eq_some_iff.mp H
                        obtain ⟨t883, A280, H⟩ := H
                        replace H : (some t883) = some r := H
                        have A28 := Aside0.mk A280
                        clear A280
                        obtain rfl := Option.some.inj H
                        go_wp2_with (first | ((with_reducible refine gate_callee (f := 102) rfl ?_); refine goesL_ (some 47) rfl rfl Try.func102 (by kernel_rfl) rfl #[.string a0, .int .i64 (wrap64 (a1 + 1)), .int .i64 (Go.bits .or .i64 a2 (ji24))] rfl (by (try simp only [List.map_toArray, List.map_cons, List.map_nil]); first | done | (simp only [hji24]; rfl) | rfl | (simp only [List.length_drop, List.length_take]; rfl)) ?_; (with_reducible refine (ih kj14 (by have := HJ4.out; have := HJ14.out; omega) a0 (wrap64 (a1 + 1)) (Go.bits .or .i64 a2 (ji24)) t882 _ A25.out).mono ?_); rintro e w' ⟨rfl, ⟨nd, rfl⟩⟩; refine ⟨_, rfl, ?_⟩) | ((with_reducible refine gate_callee (f := 102) rfl ?_); refine goesL_ (some 56) rfl rfl Try.func102 (by kernel_rfl) rfl #[.string a0, .int .i64 t882, .int .i64 (Go.bits .or .i64 a2 (ji24))] rfl (by (try simp only [List.map_toArray, List.map_cons, List.map_nil]); first | done | (simp only [hji24]; rfl) | rfl | (simp only [List.length_drop, List.length_take]; rfl)) ?_; (with_reducible refine (ih kj14 (by have := HJ4.out; have := HJ14.out; omega) a0 t882 (Go.bits .or .i64 a2 (ji24)) t883 _ A28.out).mono ?_); rintro e w' ⟨rfl, ⟨nd, rfl⟩⟩; refine ⟨_, rfl, ?_⟩))
                        go_ret
                        exact ⟨by first | rfl | (simp; done) | (simp only [← hji22, ← hji24] <;> (first | rfl | simp)) | (simp [*]; done), by repeat (first | exact Drawn0.refl _ | apply Drawn0.step)⟩
                    · rw [if_neg c23] at H
                      exact absurd H (by simp)
            · rw [if_neg c13] at H
              exact absurd H (by simp)
          · rw [if_neg c12] at H
            exact absurd H (by simp)

end Go.Proofs.Ytgkmgiojbiikgaa.P
