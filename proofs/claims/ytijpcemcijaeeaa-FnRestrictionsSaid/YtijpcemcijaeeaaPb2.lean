/- The functions that this seat's laws reach, each as a plain Lean function, and the walk of each; written by a program over the kit's print. No conditions but those that stand in the theorems. -/
import Derived.Test.YtijpcemcijaeeaaP0
import Derived.Test.YtijpcemcijaeeaaPa0
import Derived.Test.YtijpcemcijaeeaaPa
import Derived.Test.YtijpcemcijaeeaaPb0
import Derived.Test.YtijpcemcijaeeaaPm
import Derived.Test.YtijpcemcijaeeaaK6
import Derived.Test.YtijpcemcijaeeaaK5
namespace Go.Proofs.Ytijpcemcijaeeaa.P
open Go.RowKit Go.Proofs.YtijpcemcijaeeaaW.PrintWords Go.Proofs.YtijpcemcijaeeaaW.PrintLast Go.Proofs.YtijpcemcijaeeaaW.PrintMore
attribute [local go_sem] max2_int min2_int max_two min_two max_three min_three max_four min_four   -- for this text's walks alone
set_option linter.unusedVariables false
set_option linter.unusedSimpArgs false

attribute [local go_sem] fld23_0 fld23_1
/-! ### spec_CubeValue: function 35 -/
def spec_CubeValue.f (k : Nat) (a0_0 : Int) (a0_1 : Int) (a1 : Int) (a2 : Int) : Option (Int) := (spec_IsTable.f a0_0 a0_1).bind fun t265 => (if t265 = true then (if 0 ≤ a0_0 then ((spec_l1In.f a1 0 (wrap64 ((shl .i64 1 a0_0) - 1))).bind fun t266 => (if t266 = true then ((spec_l1In.f a2 0 a1).bind fun t267 => (if t267 = true then (if (Go.bits .and .i64 a2 a1) = a2 then ((spec_l3Cube.f k a0_0 a0_1 a1 a2).bind fun t268 => (some t268)) else (some (-1))) else (some (-1)))) else (some (-1)))) else (none)) else (some (-1)))
theorem spec_CubeValue.mono : ∀ a0 a1 a2 a3 k, LeO (spec_CubeValue.f k a0 a1 a2 a3) (spec_CubeValue.f (k + 1) a0 a1 a2 a3) := by
 intro a0 a1 a2 a3 k
 unfold spec_CubeValue.f
 repeat' first
   | (with_reducible exact spec_l3Cube.mono _ _ _ _ _)
   | (with_reducible exact LeO.refl _)
   | (with_reducible exact LeO.none _)
   | (with_reducible refine LeO.ite ?_ ?_)
   | (with_reducible refine LeO.bind ?_ (fun _ => ?_))
   | exact spec_l3Cube.mono _ _ _ _ _
   | exact LeO.none _
   | refine LeO.ite ?_ ?_
   | refine LeO.bind ?_ (fun _ => ?_)
set_option maxHeartbeats 8000000 in
set_option maxRecDepth 100000 in
theorem spec_CubeValue.calls (k : Nat) (a0_0 : Int) (a0_1 : Int) (a1 : Int) (a2 : Int) (r : Int) (w : World) (h : spec_CubeValue.f k a0_0 a0_1 a1 a2 = some r) :
  Calls Try.prog 35 #[.agg #[.int .i64 a0_0, .int .i64 a0_1], .int .i64 a1, .int .i64 a2] w fun e w' => e = .returned (.int .i64 r) ∧ Below w.heap.size w w' := by
 have hu23 := Try.underlying23
 have HB := zA (Below.refl w.heap.size w)
 have H := h
 unfold spec_CubeValue.f at H
 clear h
 replace H := Option.bind_eq_some_iff.mp H
 obtain ⟨t265, A40, H⟩ := H
 replace H : (if t265 = true then (if 0 ≤ a0_0 then ((spec_l1In.f a1 0 (wrap64 ((shl .i64 1 a0_0) - 1))).bind fun t266 => (if t266 = true then ((spec_l1In.f a2 0 a1).bind fun t267 => (if t267 = true then (if (Go.bits .and .i64 a2 a1) = a2 then ((spec_l3Cube.f k a0_0 a0_1 a1 a2).bind fun t268 => (some t268)) else (some (-1))) else (some (-1)))) else (some (-1)))) else (none)) else (some (-1))) = some r := H
 have A4 := zA A40
 clear A40
 by_cases c5 : t265 = true
 ·subst c5
  have H1 : (if 0 ≤ a0_0 then ((spec_l1In.f a1 0 (wrap64 ((shl .i64 1 a0_0) - 1))).bind fun t266 => (if t266 = true then ((spec_l1In.f a2 0 a1).bind fun t267 => (if t267 = true then (if (Go.bits .and .i64 a2 a1) = a2 then ((spec_l3Cube.f k a0_0 a0_1 a1 a2).bind fun t268 => (some t268)) else (some (-1))) else (some (-1)))) else (some (-1)))) else (none)) = some r := by rw [if_pos rfl] at H; exact H
  clear H
  have H := H1
  clear H1
  by_cases c6 : 0 ≤ a0_0
  ·rw [if_pos c6] at H
   have c6b0 := eq_true c6
   have c6b1 : decide (0 ≤ a0_0) = true := decide_eq_true c6
   clear c6
   obtain ⟨ji7, hji7⟩ : ∃ j_ : Int, (shl .i64 1 a0_0) = j_ := ⟨_, rfl⟩
   replace H : ((spec_l1In.f a1 0 (wrap64 ((ji7) - 1))).bind fun t266 => (if t266 = true then ((spec_l1In.f a2 0 a1).bind fun t267 => (if t267 = true then (if (Go.bits .and .i64 a2 a1) = a2 then ((spec_l3Cube.f k a0_0 a0_1 a1 a2).bind fun t268 => (some t268)) else (some (-1))) else (some (-1)))) else (some (-1)))) = some r := by first | (rw [hji7] at H; exact H) | (simp only [hji7] at H ⊢; exact H)
   (try rw [hji7] at A4)
   have hji7_ : (IntKind.i64.wrap (1 * 2 ^ min a0_0.toNat 64)) = ji7 := hji7
   have hji7z : a0_0 ≤ 64 → (IntKind.i64.wrap (1 * 2 ^ a0_0.toNat)) = ji7 := shl_small hji7
   have hji7u : (IntKind.i64.wrap (2 ^ min a0_0.toNat 64)) = ji7 := by have h_ := hji7_; rw [Int.one_mul] at h_; exact h_
   have hji7v : a0_0 ≤ 64 → (IntKind.i64.wrap (2 ^ a0_0.toNat)) = ji7 := fun hle_ => by have h_ := hji7z hle_; rw [Int.one_mul] at h_; exact h_
   have hji7y : (wrap64 (1 * 2 ^ min a0_0.toNat 64)) = ji7 := (i64_w _).symm.trans hji7_
   have hji7x : a0_0 ≤ 64 → (wrap64 (1 * 2 ^ a0_0.toNat)) = ji7 := fun h_ => (i64_w _).symm.trans (hji7z h_)
   replace H := Option.bind_eq_some_iff.mp H
   obtain ⟨t266, A80, H⟩ := H
   replace H : (if t266 = true then ((spec_l1In.f a2 0 a1).bind fun t267 => (if t267 = true then (if (Go.bits .and .i64 a2 a1) = a2 then ((spec_l3Cube.f k a0_0 a0_1 a1 a2).bind fun t268 => (some t268)) else (some (-1))) else (some (-1)))) else (some (-1))) = some r := H
   have A8 := zA A80
   clear A80
   by_cases c9 : t266 = true
   ·subst c9
    have H1 : ((spec_l1In.f a2 0 a1).bind fun t267 => (if t267 = true then (if (Go.bits .and .i64 a2 a1) = a2 then ((spec_l3Cube.f k a0_0 a0_1 a1 a2).bind fun t268 => (some t268)) else (some (-1))) else (some (-1)))) = some r := by rw [if_pos rfl] at H; exact H
    clear H
    have H := H1
    clear H1
    replace H := Option.bind_eq_some_iff.mp H
    obtain ⟨t267, A100, H⟩ := H
    replace H : (if t267 = true then (if (Go.bits .and .i64 a2 a1) = a2 then ((spec_l3Cube.f k a0_0 a0_1 a1 a2).bind fun t268 => (some t268)) else (some (-1))) else (some (-1))) = some r := H
    have A10 := zA A100
    clear A100
    by_cases c11 : t267 = true
    ·subst c11
     have H1 : (if (Go.bits .and .i64 a2 a1) = a2 then ((spec_l3Cube.f k a0_0 a0_1 a1 a2).bind fun t268 => (some t268)) else (some (-1))) = some r := by rw [if_pos rfl] at H; exact H
     clear H
     have H := H1
     clear H1
     by_cases c12 : (Go.bits .and .i64 a2 a1) = a2
     ·rw [if_pos c12] at H
      have c12b0 : ((Go.bits .and .i64 a2 a1) == a2) = true := beq_iff_eq.mpr c12
      have c12b1 : ((Go.bits .and .i64 a2 a1) != a2) = false := bne_eq_false_iff_eq.mpr c12
      clear c12
      replace H := Option.bind_eq_some_iff.mp H
      obtain ⟨t268, A130, H⟩ := H
      replace H : (some t268) = some r := H
      have A13 := zA A130
      clear A130
      obtain rfl := Option.some.inj H
      go_enter Try.func35, Try.ntmps35
      go_wp2_with (first | ((with_reducible refine gate_dst (N := 3) rfl ?_); refine box_event ?hg (N := 3) ?hd (cs := #[.int .i64 a0_0, .int .i64 a0_1]) (t := 23) ?hr ?_; (case hd => rfl); (case hg => rfl); (case hr => exact zH); intro gb264 hg w14 hbox hb; have BK264 := zA (hbox); have GW264 := zg HB hg; have GE264 := zg HB hg; replace HB := zA (below_step (zB HB) hb); clear hb hbox hg; have hcz15_0 := zc0 BK264; have hcz15_1 := zc1 BK264; have hfz15_0 := blk_frozen BK264.out 0; have hfz15_1 := blk_frozen BK264.out 1) | ((with_reducible refine gate_callee (f := 78) rfl ?_); refine goesL_ (some 8) rfl rfl Try.func78 (by kernel_rfl) rfl #[.agg #[.int .i64 a0_0, .int .i64 a0_1]] rfl zM ?_; (with_reducible refine (spec_IsTable.calls a0_0 a0_1 true _ A4.out).mono ?_); rintro e w16 ⟨rfl, hb⟩; refine ⟨_, rfl, ?_⟩; replace BK264 := zb BK264 hb; replace HB := zA (below_step (zB1 HB GE264) hb); (try clear hb); (try clear hb2); (try clear hk); (try clear hi); have hcz17_0 := zc0 BK264; have hcz17_1 := zc1 BK264; have hfz17_0 := blk_frozen BK264.out 0; have hfz17_1 := blk_frozen BK264.out 1) | (go_at_call 74; (with_reducible refine (spec_l1In.calls a1 0 (wrap64 ((ji7) - 1)) true _ A8.out).mono ?_); rintro e w' ⟨rfl, ⟨nd, rfl⟩⟩) | (go_at_call 74; (with_reducible refine (spec_l1In.calls a2 0 a1 true _ A10.out).mono ?_); rintro e w' ⟨rfl, ⟨nd, rfl⟩⟩) | ((with_reducible refine gate_callee (f := 97) rfl ?_); refine goesL_ (some 35) rfl rfl Try.func97 (by kernel_rfl) rfl #[.agg #[.int .i64 a0_0, .int .i64 a0_1], .int .i64 a1, .int .i64 a2] rfl zM ?_; (with_reducible refine (spec_l3Cube.calls k a0_0 a0_1 a1 a2 t268 _ A13.out).mono ?_); rintro e w18 ⟨rfl, hb⟩; refine ⟨_, rfl, ?_⟩; replace BK264 := zb BK264 hb; replace HB := zA (below_step (zB1 HB GE264) hb); (try clear hb); (try clear hb2); (try clear hk); (try clear hi)))
      go_ret
      exact ⟨by first | rfl | (simp [errW_none, errW_some] <;> rfl) | (simp only [← hji7]; first | rfl | (simp [errW_none, errW_some] <;> rfl)) | (simp [*, errW_none, errW_some] <;> rfl), zB1 HB GE264⟩
     ·rw [if_neg c12] at H
      have c12b0 : ((Go.bits .and .i64 a2 a1) == a2) = false := beq_eq_false_iff_ne.mpr c12
      have c12b1 : ((Go.bits .and .i64 a2 a1) != a2) = true := bne_iff_ne.mpr c12
      obtain rfl := Option.some.inj H
      go_enter Try.func35, Try.ntmps35
      go_wp2_with (first | ((with_reducible refine gate_dst (N := 3) rfl ?_); refine box_event ?hg (N := 3) ?hd (cs := #[.int .i64 a0_0, .int .i64 a0_1]) (t := 23) ?hr ?_; (case hd => rfl); (case hg => rfl); (case hr => exact zH); intro gb264 hg w19 hbox hb; have BK264 := zA (hbox); have GW264 := zg HB hg; have GE264 := zg HB hg; replace HB := zA (below_step (zB HB) hb); clear hb hbox hg; have hcz20_0 := zc0 BK264; have hcz20_1 := zc1 BK264; have hfz20_0 := blk_frozen BK264.out 0; have hfz20_1 := blk_frozen BK264.out 1) | ((with_reducible refine gate_callee (f := 78) rfl ?_); refine goesL_ (some 8) rfl rfl Try.func78 (by kernel_rfl) rfl #[.agg #[.int .i64 a0_0, .int .i64 a0_1]] rfl zM ?_; (with_reducible refine (spec_IsTable.calls a0_0 a0_1 true _ A4.out).mono ?_); rintro e w21 ⟨rfl, hb⟩; refine ⟨_, rfl, ?_⟩; replace BK264 := zb BK264 hb; replace HB := zA (below_step (zB1 HB GE264) hb); (try clear hb); (try clear hb2); (try clear hk); (try clear hi); have hcz22_0 := zc0 BK264; have hcz22_1 := zc1 BK264; have hfz22_0 := blk_frozen BK264.out 0; have hfz22_1 := blk_frozen BK264.out 1) | (go_at_call 74; (with_reducible refine (spec_l1In.calls a1 0 (wrap64 ((ji7) - 1)) true _ A8.out).mono ?_); rintro e w' ⟨rfl, ⟨nd, rfl⟩⟩) | (go_at_call 74; (with_reducible refine (spec_l1In.calls a2 0 a1 true _ A10.out).mono ?_); rintro e w' ⟨rfl, ⟨nd, rfl⟩⟩))
      go_ret
      exact ⟨by first | rfl | (simp [errW_none, errW_some] <;> rfl) | (simp only [← hji7]; first | rfl | (simp [errW_none, errW_some] <;> rfl)) | (simp [*, errW_none, errW_some] <;> rfl), zB1 HB GE264⟩
    ·replace c11 := Bool.eq_false_iff.mpr c11
     subst c11
     have H1 : (some (-1)) = some r := by rw [if_neg (show ¬ (false = true) by decide)] at H; exact H
     clear H
     have H := H1
     clear H1
     obtain rfl := Option.some.inj H
     go_enter Try.func35, Try.ntmps35
     go_wp2_with (first | ((with_reducible refine gate_dst (N := 3) rfl ?_); refine box_event ?hg (N := 3) ?hd (cs := #[.int .i64 a0_0, .int .i64 a0_1]) (t := 23) ?hr ?_; (case hd => rfl); (case hg => rfl); (case hr => exact zH); intro gb264 hg w23 hbox hb; have BK264 := zA (hbox); have GW264 := zg HB hg; have GE264 := zg HB hg; replace HB := zA (below_step (zB HB) hb); clear hb hbox hg; have hcz24_0 := zc0 BK264; have hcz24_1 := zc1 BK264; have hfz24_0 := blk_frozen BK264.out 0; have hfz24_1 := blk_frozen BK264.out 1) | ((with_reducible refine gate_callee (f := 78) rfl ?_); refine goesL_ (some 8) rfl rfl Try.func78 (by kernel_rfl) rfl #[.agg #[.int .i64 a0_0, .int .i64 a0_1]] rfl zM ?_; (with_reducible refine (spec_IsTable.calls a0_0 a0_1 true _ A4.out).mono ?_); rintro e w25 ⟨rfl, hb⟩; refine ⟨_, rfl, ?_⟩; replace BK264 := zb BK264 hb; replace HB := zA (below_step (zB1 HB GE264) hb); (try clear hb); (try clear hb2); (try clear hk); (try clear hi); have hcz26_0 := zc0 BK264; have hcz26_1 := zc1 BK264; have hfz26_0 := blk_frozen BK264.out 0; have hfz26_1 := blk_frozen BK264.out 1) | (go_at_call 74; (with_reducible refine (spec_l1In.calls a1 0 (wrap64 ((ji7) - 1)) true _ A8.out).mono ?_); rintro e w' ⟨rfl, ⟨nd, rfl⟩⟩) | (go_at_call 74; (with_reducible refine (spec_l1In.calls a2 0 a1 false _ A10.out).mono ?_); rintro e w' ⟨rfl, ⟨nd, rfl⟩⟩))
     go_ret
     exact ⟨by first | rfl | (simp [errW_none, errW_some] <;> rfl) | (simp only [← hji7]; first | rfl | (simp [errW_none, errW_some] <;> rfl)) | (simp [*, errW_none, errW_some] <;> rfl), zB1 HB GE264⟩
   ·replace c9 := Bool.eq_false_iff.mpr c9
    subst c9
    have H1 : (some (-1)) = some r := by rw [if_neg (show ¬ (false = true) by decide)] at H; exact H
    clear H
    have H := H1
    clear H1
    obtain rfl := Option.some.inj H
    go_enter Try.func35, Try.ntmps35
    go_wp2_with (first | ((with_reducible refine gate_dst (N := 3) rfl ?_); refine box_event ?hg (N := 3) ?hd (cs := #[.int .i64 a0_0, .int .i64 a0_1]) (t := 23) ?hr ?_; (case hd => rfl); (case hg => rfl); (case hr => exact zH); intro gb264 hg w27 hbox hb; have BK264 := zA (hbox); have GW264 := zg HB hg; have GE264 := zg HB hg; replace HB := zA (below_step (zB HB) hb); clear hb hbox hg; have hcz28_0 := zc0 BK264; have hcz28_1 := zc1 BK264; have hfz28_0 := blk_frozen BK264.out 0; have hfz28_1 := blk_frozen BK264.out 1) | ((with_reducible refine gate_callee (f := 78) rfl ?_); refine goesL_ (some 8) rfl rfl Try.func78 (by kernel_rfl) rfl #[.agg #[.int .i64 a0_0, .int .i64 a0_1]] rfl zM ?_; (with_reducible refine (spec_IsTable.calls a0_0 a0_1 true _ A4.out).mono ?_); rintro e w29 ⟨rfl, hb⟩; refine ⟨_, rfl, ?_⟩; replace BK264 := zb BK264 hb; replace HB := zA (below_step (zB1 HB GE264) hb); (try clear hb); (try clear hb2); (try clear hk); (try clear hi); have hcz30_0 := zc0 BK264; have hcz30_1 := zc1 BK264; have hfz30_0 := blk_frozen BK264.out 0; have hfz30_1 := blk_frozen BK264.out 1) | (go_at_call 74; (with_reducible refine (spec_l1In.calls a1 0 (wrap64 ((ji7) - 1)) false _ A8.out).mono ?_); rintro e w' ⟨rfl, ⟨nd, rfl⟩⟩))
    go_ret
    exact ⟨by first | rfl | (simp [errW_none, errW_some] <;> rfl) | (simp only [← hji7]; first | rfl | (simp [errW_none, errW_some] <;> rfl)) | (simp [*, errW_none, errW_some] <;> rfl), zB1 HB GE264⟩
  ·rw [if_neg c6] at H
   exact absurd H (by simp)
 ·replace c5 := Bool.eq_false_iff.mpr c5
  subst c5
  have H1 : (some (-1)) = some r := by rw [if_neg (show ¬ (false = true) by decide)] at H; exact H
  clear H
  have H := H1
  clear H1
  obtain rfl := Option.some.inj H
  go_enter Try.func35, Try.ntmps35
  go_wp2_with (first | ((with_reducible refine gate_dst (N := 3) rfl ?_); refine box_event ?hg (N := 3) ?hd (cs := #[.int .i64 a0_0, .int .i64 a0_1]) (t := 23) ?hr ?_; (case hd => rfl); (case hg => rfl); (case hr => exact zH); intro gb264 hg w31 hbox hb; have BK264 := zA (hbox); have GW264 := zg HB hg; have GE264 := zg HB hg; replace HB := zA (below_step (zB HB) hb); clear hb hbox hg; have hcz32_0 := zc0 BK264; have hcz32_1 := zc1 BK264; have hfz32_0 := blk_frozen BK264.out 0; have hfz32_1 := blk_frozen BK264.out 1) | ((with_reducible refine gate_callee (f := 78) rfl ?_); refine goesL_ (some 8) rfl rfl Try.func78 (by kernel_rfl) rfl #[.agg #[.int .i64 a0_0, .int .i64 a0_1]] rfl zM ?_; (with_reducible refine (spec_IsTable.calls a0_0 a0_1 false _ A4.out).mono ?_); rintro e w33 ⟨rfl, hb⟩; refine ⟨_, rfl, ?_⟩; replace BK264 := zb BK264 hb; replace HB := zA (below_step (zB1 HB GE264) hb); (try clear hb); (try clear hb2); (try clear hk); (try clear hi)))
  go_ret
  exact ⟨by first | rfl | (simp [errW_none, errW_some] <;> rfl) | (simp [*, errW_none, errW_some] <;> rfl), zB1 HB GE264⟩

/-! ### spec_RestrictTable: function 37 -/
def spec_RestrictTable.f (k : Nat) (a0_0 : Int) (a0_1 : Int) (a1 : Int) (a2 : Int) : Option (Int × Int × Bool) := (spec_IsTable.f a0_0 a0_1).bind fun t283 => (if t283 = true then ((spec_l1In.f a1 0 (wrap64 (a0_0 - 1))).bind fun t284 => (if t284 = true then ((spec_l1In.f a2 0 1).bind fun t285 => (if t285 = true then ((spec_l3Restrict.f k a0_0 a0_1 a1 a2).bind fun bt286 => (some (bt286.1, bt286.2, true))) else (some (0, 0, false)))) else (some (0, 0, false)))) else (some (0, 0, false)))
theorem spec_RestrictTable.mono : ∀ a0 a1 a2 a3 k, LeO (spec_RestrictTable.f k a0 a1 a2 a3) (spec_RestrictTable.f (k + 1) a0 a1 a2 a3) := by
 intro a0 a1 a2 a3 k
 unfold spec_RestrictTable.f
 repeat' first
   | (with_reducible exact spec_l3Restrict.mono _ _ _ _ _)
   | (with_reducible exact LeO.refl _)
   | (with_reducible exact LeO.none _)
   | (with_reducible refine LeO.ite ?_ ?_)
   | (with_reducible refine LeO.bind ?_ (fun _ => ?_))
   | exact spec_l3Restrict.mono _ _ _ _ _
   | exact LeO.none _
   | refine LeO.ite ?_ ?_
   | refine LeO.bind ?_ (fun _ => ?_)
set_option maxHeartbeats 8000000 in
set_option maxRecDepth 100000 in
theorem spec_RestrictTable.calls (k : Nat) (a0_0 : Int) (a0_1 : Int) (a1 : Int) (a2 : Int) (r1 : Int) (r2 : Int) (r3 : Bool) (w : World) (h : spec_RestrictTable.f k a0_0 a0_1 a1 a2 = some (r1, r2, r3)) :
  Calls Try.prog 37 #[.agg #[.int .i64 a0_0, .int .i64 a0_1], .int .i64 a1, .int .i64 a2] w fun e w' => e = .returned (.tuple #[.agg #[.int .i64 r1, .int .i64 r2], .bool r3]) ∧ Below w.heap.size w w' := by
 have hu23 := Try.underlying23
 have HB := zA (Below.refl w.heap.size w)
 have H := h
 unfold spec_RestrictTable.f at H
 clear h
 replace H := Option.bind_eq_some_iff.mp H
 obtain ⟨t283, A40, H⟩ := H
 replace H : (if t283 = true then ((spec_l1In.f a1 0 (wrap64 (a0_0 - 1))).bind fun t284 => (if t284 = true then ((spec_l1In.f a2 0 1).bind fun t285 => (if t285 = true then ((spec_l3Restrict.f k a0_0 a0_1 a1 a2).bind fun bt286 => (some (bt286.1, bt286.2, true))) else (some (0, 0, false)))) else (some (0, 0, false)))) else (some (0, 0, false))) = some (r1, r2, r3) := H
 have A4 := zA A40
 clear A40
 by_cases c5 : t283 = true
 ·subst c5
  have H1 : ((spec_l1In.f a1 0 (wrap64 (a0_0 - 1))).bind fun t284 => (if t284 = true then ((spec_l1In.f a2 0 1).bind fun t285 => (if t285 = true then ((spec_l3Restrict.f k a0_0 a0_1 a1 a2).bind fun bt286 => (some (bt286.1, bt286.2, true))) else (some (0, 0, false)))) else (some (0, 0, false)))) = some (r1, r2, r3) := by rw [if_pos rfl] at H; exact H
  clear H
  have H := H1
  clear H1
  replace H := Option.bind_eq_some_iff.mp H
  obtain ⟨t284, A60, H⟩ := H
  replace H : (if t284 = true then ((spec_l1In.f a2 0 1).bind fun t285 => (if t285 = true then ((spec_l3Restrict.f k a0_0 a0_1 a1 a2).bind fun bt286 => (some (bt286.1, bt286.2, true))) else (some (0, 0, false)))) else (some (0, 0, false))) = some (r1, r2, r3) := H
  have A6 := zA A60
  clear A60
  by_cases c7 : t284 = true
  ·subst c7
   have H1 : ((spec_l1In.f a2 0 1).bind fun t285 => (if t285 = true then ((spec_l3Restrict.f k a0_0 a0_1 a1 a2).bind fun bt286 => (some (bt286.1, bt286.2, true))) else (some (0, 0, false)))) = some (r1, r2, r3) := by rw [if_pos rfl] at H; exact H
   clear H
   have H := H1
   clear H1
   replace H := Option.bind_eq_some_iff.mp H
   obtain ⟨t285, A80, H⟩ := H
   replace H : (if t285 = true then ((spec_l3Restrict.f k a0_0 a0_1 a1 a2).bind fun bt286 => (some (bt286.1, bt286.2, true))) else (some (0, 0, false))) = some (r1, r2, r3) := H
   have A8 := zA A80
   clear A80
   by_cases c9 : t285 = true
   ·subst c9
    have H1 : ((spec_l3Restrict.f k a0_0 a0_1 a1 a2).bind fun bt286 => (some (bt286.1, bt286.2, true))) = some (r1, r2, r3) := by rw [if_pos rfl] at H; exact H
    clear H
    have H := H1
    clear H1
    replace H := Option.bind_eq_some_iff.mp H
    obtain ⟨⟨t286, t287⟩, A100, H⟩ := H
    replace H : (some (t286, t287, true)) = some (r1, r2, r3) := H
    have A10 := zA A100
    clear A100
    simp only [Option.some.injEq, Prod.mk.injEq] at H
    obtain ⟨rfl, rfl, rfl⟩ := H
    go_enter Try.func37, Try.ntmps37
    go_wp2_with (first | ((with_reducible refine gate_dst (N := 3) rfl ?_); refine box_event ?hg (N := 3) ?hd (cs := #[.int .i64 a0_0, .int .i64 a0_1]) (t := 23) ?hr ?_; (case hd => rfl); (case hg => rfl); (case hr => exact zH); intro gb281 hg w11 hbox hb; have BK281 := zA (hbox); have GW281 := zg HB hg; have GE281 := zg HB hg; replace HB := zA (below_step (zB HB) hb); clear hb hbox hg) | ((with_reducible refine gate_dst (N := 6) rfl ?_); refine box_event ?hg (N := 6) ?hd (cs := #[.int .i64 0, .int .i64 0]) (t := 23) ?hr ?_; (case hd => rfl); (case hg => rfl); (case hr => exact zH); intro gb282 hg w12 hbox hb; have BK282 := zA (hbox); have GW282 := zg1 HB GE281 hg; have GE282 := zg1 HB GE281 hg; have NB281_282 := zn BK281 hg; have NB282_281 := zo BK281 hg; replace BK281 := zb BK281 hb; replace HB := zA (below_step (zB1 HB GE281) hb); clear hb hbox hg; have hnb13 := NB281_282.out; have hnc13 := NB282_281.out; have hcz14_0 := zc0 BK281; have hcz14_1 := zc1 BK281; have hfz14_0 := blk_frozen BK281.out 0; have hfz14_1 := blk_frozen BK281.out 1) | ((with_reducible refine gate_callee (f := 78) rfl ?_); refine goesL_ (some 9) rfl rfl Try.func78 (by kernel_rfl) rfl #[.agg #[.int .i64 a0_0, .int .i64 a0_1]] rfl zM ?_; (with_reducible refine (spec_IsTable.calls a0_0 a0_1 true _ A4.out).mono ?_); rintro e w15 ⟨rfl, hb⟩; refine ⟨_, rfl, ?_⟩; replace BK281 := zb BK281 hb; replace BK282 := zb BK282 hb; replace HB := zA (below_step (zB2 HB GE281 GE282) hb); (try clear hb); (try clear hb2); (try clear hk); (try clear hi); have hcz16_0 := zc0 BK281; have hcz16_1 := zc1 BK281; have hfz16_0 := blk_frozen BK281.out 0; have hfz16_1 := blk_frozen BK281.out 1) | (go_at_call 74; (with_reducible refine (spec_l1In.calls a1 0 (wrap64 (a0_0 - 1)) true _ A6.out).mono ?_); rintro e w' ⟨rfl, ⟨nd, rfl⟩⟩; (try (rw [drewN_self w15]; generalize hq_ : World.drewN w15 _ = w15; have n0_ : Aside0 (w15.heap[gb281]? = some (.cells #[.int .i64 a0_0, .int .i64 a0_1] 23 (0, 0))) := ⟨by rw [← hq_]; exact (zD BK281)⟩; have n1_ : Aside0 (w15.heap[gb282]? = some (.cells #[.int .i64 0, .int .i64 0] 23 (0, 0))) := ⟨by rw [← hq_]; exact (zD BK282)⟩; have n2_ : Aside0 (Below w.heap.size w w15) := ⟨by rw [← hq_]; exact (zB2 HB GE281 GE282)⟩; clear BK281 BK282 HB hq_; have BK281 := n0_; have BK282 := n1_; have HB := n2_; clear n0_ n1_ n2_)); (try (have hcz16_0 := zc0 BK281; have hfz16_0 := blk_frozen BK281.out 0; have hcz16_1 := zc1 BK281; have hfz16_1 := blk_frozen BK281.out 1))) | (go_at_call 74; (with_reducible refine (spec_l1In.calls a2 0 1 true _ A8.out).mono ?_); rintro e w' ⟨rfl, ⟨nd, rfl⟩⟩; (try (rw [drewN_self w15]; generalize hq_ : World.drewN w15 _ = w15; have n0_ : Aside0 (w15.heap[gb281]? = some (.cells #[.int .i64 a0_0, .int .i64 a0_1] 23 (0, 0))) := ⟨by rw [← hq_]; exact (zD BK281)⟩; have n1_ : Aside0 (w15.heap[gb282]? = some (.cells #[.int .i64 0, .int .i64 0] 23 (0, 0))) := ⟨by rw [← hq_]; exact (zD BK282)⟩; have n2_ : Aside0 (Below w.heap.size w w15) := ⟨by rw [← hq_]; exact (zB2 HB GE281 GE282)⟩; clear BK281 BK282 HB hq_; have BK281 := n0_; have BK282 := n1_; have HB := n2_; clear n0_ n1_ n2_)); (try (have hcz16_0 := zc0 BK281; have hfz16_0 := blk_frozen BK281.out 0; have hcz16_1 := zc1 BK281; have hfz16_1 := blk_frozen BK281.out 1))) | ((with_reducible refine gate_callee (f := 100) rfl ?_); refine goesL_ (some 28) rfl rfl Try.func100 (by kernel_rfl) rfl #[.agg #[.int .i64 a0_0, .int .i64 a0_1], .int .i64 a1, .int .i64 a2] rfl zM ?_; (with_reducible refine (spec_l3Restrict.calls k a0_0 a0_1 a1 a2 t286 t287 _ A10.out).mono ?_); rintro e w17 ⟨rfl, hb⟩; refine ⟨_, rfl, ?_⟩; replace BK281 := zb BK281 hb; replace BK282 := zb BK282 hb; replace HB := zA (below_step (zB2 HB GE281 GE282) hb); (try clear hb); (try clear hb2); (try clear hk); (try clear hi); have hcz18_0 := zc0 BK282; have hcz18_1 := zc1 BK282; have hfz18_0 := blk_frozen BK282.out 0; have hfz18_1 := blk_frozen BK282.out 1))
    refine bodyPost_ret (results_ct rfl _ _ gb282 23 #[.int .i64 t286, .int .i64 t287] (0, 0) _ rfl (zP BK282) Try.underlying23 rfl (by kernel_rfl)) rfl ?_
    exact ⟨by first | rfl | (simp [errW_none, errW_some] <;> rfl) | (simp [*, errW_none, errW_some] <;> rfl), zB2 HB GE281 GE282⟩
   ·replace c9 := Bool.eq_false_iff.mpr c9
    subst c9
    have H1 : (some (0, 0, false)) = some (r1, r2, r3) := by rw [if_neg (show ¬ (false = true) by decide)] at H; exact H
    clear H
    have H := H1
    clear H1
    simp only [Option.some.injEq, Prod.mk.injEq] at H
    obtain ⟨rfl, rfl, rfl⟩ := H
    go_enter Try.func37, Try.ntmps37
    go_wp2_with (first | ((with_reducible refine gate_dst (N := 3) rfl ?_); refine box_event ?hg (N := 3) ?hd (cs := #[.int .i64 a0_0, .int .i64 a0_1]) (t := 23) ?hr ?_; (case hd => rfl); (case hg => rfl); (case hr => exact zH); intro gb281 hg w19 hbox hb; have BK281 := zA (hbox); have GW281 := zg HB hg; have GE281 := zg HB hg; replace HB := zA (below_step (zB HB) hb); clear hb hbox hg) | ((with_reducible refine gate_dst (N := 6) rfl ?_); refine box_event ?hg (N := 6) ?hd (cs := #[.int .i64 0, .int .i64 0]) (t := 23) ?hr ?_; (case hd => rfl); (case hg => rfl); (case hr => exact zH); intro gb282 hg w20 hbox hb; have BK282 := zA (hbox); have GW282 := zg1 HB GE281 hg; have GE282 := zg1 HB GE281 hg; have NB281_282 := zn BK281 hg; have NB282_281 := zo BK281 hg; replace BK281 := zb BK281 hb; replace HB := zA (below_step (zB1 HB GE281) hb); clear hb hbox hg; have hnb21 := NB281_282.out; have hnc21 := NB282_281.out; have hcz22_0 := zc0 BK281; have hcz22_1 := zc1 BK281; have hfz22_0 := blk_frozen BK281.out 0; have hfz22_1 := blk_frozen BK281.out 1) | ((with_reducible refine gate_callee (f := 78) rfl ?_); refine goesL_ (some 9) rfl rfl Try.func78 (by kernel_rfl) rfl #[.agg #[.int .i64 a0_0, .int .i64 a0_1]] rfl zM ?_; (with_reducible refine (spec_IsTable.calls a0_0 a0_1 true _ A4.out).mono ?_); rintro e w23 ⟨rfl, hb⟩; refine ⟨_, rfl, ?_⟩; replace BK281 := zb BK281 hb; replace BK282 := zb BK282 hb; replace HB := zA (below_step (zB2 HB GE281 GE282) hb); (try clear hb); (try clear hb2); (try clear hk); (try clear hi); have hcz24_0 := zc0 BK281; have hcz24_1 := zc1 BK281; have hfz24_0 := blk_frozen BK281.out 0; have hfz24_1 := blk_frozen BK281.out 1) | (go_at_call 74; (with_reducible refine (spec_l1In.calls a1 0 (wrap64 (a0_0 - 1)) true _ A6.out).mono ?_); rintro e w' ⟨rfl, ⟨nd, rfl⟩⟩; (try (rw [drewN_self w23]; generalize hq_ : World.drewN w23 _ = w23; have n0_ : Aside0 (w23.heap[gb281]? = some (.cells #[.int .i64 a0_0, .int .i64 a0_1] 23 (0, 0))) := ⟨by rw [← hq_]; exact (zD BK281)⟩; have n1_ : Aside0 (w23.heap[gb282]? = some (.cells #[.int .i64 0, .int .i64 0] 23 (0, 0))) := ⟨by rw [← hq_]; exact (zD BK282)⟩; have n2_ : Aside0 (Below w.heap.size w w23) := ⟨by rw [← hq_]; exact (zB2 HB GE281 GE282)⟩; clear BK281 BK282 HB hq_; have BK281 := n0_; have BK282 := n1_; have HB := n2_; clear n0_ n1_ n2_)); (try (have hcz24_0 := zc0 BK281; have hfz24_0 := blk_frozen BK281.out 0; have hcz24_1 := zc1 BK281; have hfz24_1 := blk_frozen BK281.out 1))) | (go_at_call 74; (with_reducible refine (spec_l1In.calls a2 0 1 false _ A8.out).mono ?_); rintro e w' ⟨rfl, ⟨nd, rfl⟩⟩; (try (rw [drewN_self w23]; generalize hq_ : World.drewN w23 _ = w23; have n0_ : Aside0 (w23.heap[gb281]? = some (.cells #[.int .i64 a0_0, .int .i64 a0_1] 23 (0, 0))) := ⟨by rw [← hq_]; exact (zD BK281)⟩; have n1_ : Aside0 (w23.heap[gb282]? = some (.cells #[.int .i64 0, .int .i64 0] 23 (0, 0))) := ⟨by rw [← hq_]; exact (zD BK282)⟩; have n2_ : Aside0 (Below w.heap.size w w23) := ⟨by rw [← hq_]; exact (zB2 HB GE281 GE282)⟩; clear BK281 BK282 HB hq_; have BK281 := n0_; have BK282 := n1_; have HB := n2_; clear n0_ n1_ n2_)); (try (have hcz24_0 := zc0 BK281; have hfz24_0 := blk_frozen BK281.out 0; have hcz24_1 := zc1 BK281; have hfz24_1 := blk_frozen BK281.out 1)); have hcz25_0 := zc0 BK282; have hcz25_1 := zc1 BK282; have hfz25_0 := blk_frozen BK282.out 0; have hfz25_1 := blk_frozen BK282.out 1))
    refine bodyPost_ret (results_ct rfl _ _ gb282 23 #[.int .i64 0, .int .i64 0] (0, 0) _ rfl (zP BK282) Try.underlying23 rfl (by kernel_rfl)) rfl ?_
    exact ⟨by first | rfl | (simp [errW_none, errW_some] <;> rfl) | (simp [*, errW_none, errW_some] <;> rfl), zB2 HB GE281 GE282⟩
  ·replace c7 := Bool.eq_false_iff.mpr c7
   subst c7
   have H1 : (some (0, 0, false)) = some (r1, r2, r3) := by rw [if_neg (show ¬ (false = true) by decide)] at H; exact H
   clear H
   have H := H1
   clear H1
   simp only [Option.some.injEq, Prod.mk.injEq] at H
   obtain ⟨rfl, rfl, rfl⟩ := H
   go_enter Try.func37, Try.ntmps37
   go_wp2_with (first | ((with_reducible refine gate_dst (N := 3) rfl ?_); refine box_event ?hg (N := 3) ?hd (cs := #[.int .i64 a0_0, .int .i64 a0_1]) (t := 23) ?hr ?_; (case hd => rfl); (case hg => rfl); (case hr => exact zH); intro gb281 hg w26 hbox hb; have BK281 := zA (hbox); have GW281 := zg HB hg; have GE281 := zg HB hg; replace HB := zA (below_step (zB HB) hb); clear hb hbox hg) | ((with_reducible refine gate_dst (N := 6) rfl ?_); refine box_event ?hg (N := 6) ?hd (cs := #[.int .i64 0, .int .i64 0]) (t := 23) ?hr ?_; (case hd => rfl); (case hg => rfl); (case hr => exact zH); intro gb282 hg w27 hbox hb; have BK282 := zA (hbox); have GW282 := zg1 HB GE281 hg; have GE282 := zg1 HB GE281 hg; have NB281_282 := zn BK281 hg; have NB282_281 := zo BK281 hg; replace BK281 := zb BK281 hb; replace HB := zA (below_step (zB1 HB GE281) hb); clear hb hbox hg; have hnb28 := NB281_282.out; have hnc28 := NB282_281.out; have hcz29_0 := zc0 BK281; have hcz29_1 := zc1 BK281; have hfz29_0 := blk_frozen BK281.out 0; have hfz29_1 := blk_frozen BK281.out 1) | ((with_reducible refine gate_callee (f := 78) rfl ?_); refine goesL_ (some 9) rfl rfl Try.func78 (by kernel_rfl) rfl #[.agg #[.int .i64 a0_0, .int .i64 a0_1]] rfl zM ?_; (with_reducible refine (spec_IsTable.calls a0_0 a0_1 true _ A4.out).mono ?_); rintro e w30 ⟨rfl, hb⟩; refine ⟨_, rfl, ?_⟩; replace BK281 := zb BK281 hb; replace BK282 := zb BK282 hb; replace HB := zA (below_step (zB2 HB GE281 GE282) hb); (try clear hb); (try clear hb2); (try clear hk); (try clear hi); have hcz31_0 := zc0 BK281; have hcz31_1 := zc1 BK281; have hfz31_0 := blk_frozen BK281.out 0; have hfz31_1 := blk_frozen BK281.out 1) | (go_at_call 74; (with_reducible refine (spec_l1In.calls a1 0 (wrap64 (a0_0 - 1)) false _ A6.out).mono ?_); rintro e w' ⟨rfl, ⟨nd, rfl⟩⟩; (try (rw [drewN_self w30]; generalize hq_ : World.drewN w30 _ = w30; have n0_ : Aside0 (w30.heap[gb281]? = some (.cells #[.int .i64 a0_0, .int .i64 a0_1] 23 (0, 0))) := ⟨by rw [← hq_]; exact (zD BK281)⟩; have n1_ : Aside0 (w30.heap[gb282]? = some (.cells #[.int .i64 0, .int .i64 0] 23 (0, 0))) := ⟨by rw [← hq_]; exact (zD BK282)⟩; have n2_ : Aside0 (Below w.heap.size w w30) := ⟨by rw [← hq_]; exact (zB2 HB GE281 GE282)⟩; clear BK281 BK282 HB hq_; have BK281 := n0_; have BK282 := n1_; have HB := n2_; clear n0_ n1_ n2_)); (try (have hcz31_0 := zc0 BK281; have hfz31_0 := blk_frozen BK281.out 0; have hcz31_1 := zc1 BK281; have hfz31_1 := blk_frozen BK281.out 1)); have hcz32_0 := zc0 BK282; have hcz32_1 := zc1 BK282; have hfz32_0 := blk_frozen BK282.out 0; have hfz32_1 := blk_frozen BK282.out 1))
   refine bodyPost_ret (results_ct rfl _ _ gb282 23 #[.int .i64 0, .int .i64 0] (0, 0) _ rfl (zP BK282) Try.underlying23 rfl (by kernel_rfl)) rfl ?_
   exact ⟨by first | rfl | (simp [errW_none, errW_some] <;> rfl) | (simp [*, errW_none, errW_some] <;> rfl), zB2 HB GE281 GE282⟩
 ·replace c5 := Bool.eq_false_iff.mpr c5
  subst c5
  have H1 : (some (0, 0, false)) = some (r1, r2, r3) := by rw [if_neg (show ¬ (false = true) by decide)] at H; exact H
  clear H
  have H := H1
  clear H1
  simp only [Option.some.injEq, Prod.mk.injEq] at H
  obtain ⟨rfl, rfl, rfl⟩ := H
  go_enter Try.func37, Try.ntmps37
  go_wp2_with (first | ((with_reducible refine gate_dst (N := 3) rfl ?_); refine box_event ?hg (N := 3) ?hd (cs := #[.int .i64 a0_0, .int .i64 a0_1]) (t := 23) ?hr ?_; (case hd => rfl); (case hg => rfl); (case hr => exact zH); intro gb281 hg w33 hbox hb; have BK281 := zA (hbox); have GW281 := zg HB hg; have GE281 := zg HB hg; replace HB := zA (below_step (zB HB) hb); clear hb hbox hg) | ((with_reducible refine gate_dst (N := 6) rfl ?_); refine box_event ?hg (N := 6) ?hd (cs := #[.int .i64 0, .int .i64 0]) (t := 23) ?hr ?_; (case hd => rfl); (case hg => rfl); (case hr => exact zH); intro gb282 hg w34 hbox hb; have BK282 := zA (hbox); have GW282 := zg1 HB GE281 hg; have GE282 := zg1 HB GE281 hg; have NB281_282 := zn BK281 hg; have NB282_281 := zo BK281 hg; replace BK281 := zb BK281 hb; replace HB := zA (below_step (zB1 HB GE281) hb); clear hb hbox hg; have hnb35 := NB281_282.out; have hnc35 := NB282_281.out; have hcz36_0 := zc0 BK281; have hcz36_1 := zc1 BK281; have hfz36_0 := blk_frozen BK281.out 0; have hfz36_1 := blk_frozen BK281.out 1) | ((with_reducible refine gate_callee (f := 78) rfl ?_); refine goesL_ (some 9) rfl rfl Try.func78 (by kernel_rfl) rfl #[.agg #[.int .i64 a0_0, .int .i64 a0_1]] rfl zM ?_; (with_reducible refine (spec_IsTable.calls a0_0 a0_1 false _ A4.out).mono ?_); rintro e w37 ⟨rfl, hb⟩; refine ⟨_, rfl, ?_⟩; replace BK281 := zb BK281 hb; replace BK282 := zb BK282 hb; replace HB := zA (below_step (zB2 HB GE281 GE282) hb); (try clear hb); (try clear hb2); (try clear hk); (try clear hi); have hcz38_0 := zc0 BK282; have hcz38_1 := zc1 BK282; have hfz38_0 := blk_frozen BK282.out 0; have hfz38_1 := blk_frozen BK282.out 1))
  refine bodyPost_ret (results_ct rfl _ _ gb282 23 #[.int .i64 0, .int .i64 0] (0, 0) _ rfl (zP BK282) Try.underlying23 rfl (by kernel_rfl)) rfl ?_
  exact ⟨by first | rfl | (simp [errW_none, errW_some] <;> rfl) | (simp [*, errW_none, errW_some] <;> rfl), zB2 HB GE281 GE282⟩

/-! ### spec_ReduceTable: function 39 -/
def spec_ReduceTable.l0 : Nat → Int → Int → Int → Option (Int × Int × Bool)
 | 0, _, _, _ => none
 | k + 1, x4, x309000, x309001 => if x4 ≥ 0 then ((spec_l3Depends.f k x309000 x309001 x4).bind fun t311 => (if t311 = true then (spec_ReduceTable.l0 k (wrap64 (x4 - 1)) x309000 x309001) else ((spec_l3Restrict.f k x309000 x309001 x4 0).bind fun bt312 => (spec_ReduceTable.l0 k (wrap64 (x4 - 1)) bt312.1 bt312.2)))) else (some (x309000, x309001, true))
def spec_ReduceTable.f (k : Nat) (a0_0 : Int) (a0_1 : Int) : Option (Int × Int × Bool) := (spec_IsTable.f a0_0 a0_1).bind fun t310 => (if t310 = true then (spec_ReduceTable.l0 k (wrap64 (a0_0 - 1)) a0_0 a0_1) else (some (0, 0, false)))
theorem spec_ReduceTable.mono_l : ∀ k, (∀ y0 y1 y2, LeO (spec_ReduceTable.l0 k y0 y1 y2) (spec_ReduceTable.l0 (k + 1) y0 y1 y2))
 | 0 => fun _ _ _ r h => by simp [spec_ReduceTable.l0] at h
 | k + 1 => by
  have ih0 := spec_ReduceTable.mono_l k
  ·intro y0 y1 y2
   unfold spec_ReduceTable.l0
   repeat' first
   | (with_reducible exact ih0 _ _ _)
   | (with_reducible exact spec_l3Depends.mono _ _ _ _)
   | (with_reducible exact spec_l3Restrict.mono _ _ _ _ _)
   | (with_reducible exact LeO.refl _)
   | (with_reducible exact LeO.none _)
   | (with_reducible refine LeO.ite ?_ ?_)
   | (with_reducible refine LeO.bind ?_ (fun _ => ?_))
   | exact ih0 _ _ _
   | exact spec_l3Depends.mono _ _ _ _
   | exact spec_l3Restrict.mono _ _ _ _ _
   | exact LeO.none _
   | refine LeO.ite ?_ ?_
   | refine LeO.bind ?_ (fun _ => ?_)
theorem spec_ReduceTable.mono : ∀ a0 a1 k, LeO (spec_ReduceTable.f k a0 a1) (spec_ReduceTable.f (k + 1) a0 a1) := by
 intro a0 a1 k
 have ih0 := spec_ReduceTable.mono_l k
 unfold spec_ReduceTable.f
 repeat' first
   | (with_reducible exact ih0 _ _ _)
   | (with_reducible exact spec_l3Depends.mono _ _ _ _)
   | (with_reducible exact spec_l3Restrict.mono _ _ _ _ _)
   | (with_reducible exact LeO.refl _)
   | (with_reducible exact LeO.none _)
   | (with_reducible refine LeO.ite ?_ ?_)
   | (with_reducible refine LeO.bind ?_ (fun _ => ?_))
   | exact ih0 _ _ _
   | exact spec_l3Depends.mono _ _ _ _
   | exact spec_l3Restrict.mono _ _ _ _ _
   | exact LeO.none _
   | refine LeO.ite ?_ ?_
   | refine LeO.bind ?_ (fun _ => ?_)
set_option maxHeartbeats 8000000 in
set_option maxRecDepth 100000 in
theorem spec_ReduceTable.calls (k : Nat) (a0_0 : Int) (a0_1 : Int) (r1 : Int) (r2 : Int) (r3 : Bool) (w : World) (h : spec_ReduceTable.f k a0_0 a0_1 = some (r1, r2, r3)) :
  Calls Try.prog 39 #[.agg #[.int .i64 a0_0, .int .i64 a0_1]] w fun e w' => e = .returned (.tuple #[.agg #[.int .i64 r1, .int .i64 r2], .bool r3]) ∧ Below w.heap.size w w' := by
 have hu23 := Try.underlying23
 have HB := zA (Below.refl w.heap.size w)
 have H := h
 unfold spec_ReduceTable.f at H
 clear h
 replace H := Option.bind_eq_some_iff.mp H
 obtain ⟨t310, A20, H⟩ := H
 replace H : (if t310 = true then (spec_ReduceTable.l0 k (wrap64 (a0_0 - 1)) a0_0 a0_1) else (some (0, 0, false))) = some (r1, r2, r3) := H
 have A2 := zA A20
 clear A20
 by_cases c3 : t310 = true
 ·subst c3
  have H1 : (spec_ReduceTable.l0 k (wrap64 (a0_0 - 1)) a0_0 a0_1) = some (r1, r2, r3) := by rw [if_pos rfl] at H; exact H
  clear H
  have H := H1
  clear H1
  have H' := zA H
  clear H
  go_enter Try.func39, Try.ntmps39
  go_wp2_with (first | ((with_reducible refine gate_dst (N := 1) rfl ?_); refine box_event ?hg (N := 1) ?hd (cs := #[.int .i64 a0_0, .int .i64 a0_1]) (t := 23) ?hr ?_; (case hd => rfl); (case hg => rfl); (case hr => exact zH); intro gb308 hg w4 hbox hb; have BK308 := zA (hbox); have GW308 := zg HB hg; have GE308 := zg HB hg; replace HB := zA (below_step (zB HB) hb); clear hb hbox hg) | ((with_reducible refine gate_dst (N := 2) rfl ?_); refine box_event ?hg (N := 2) ?hd (cs := #[.int .i64 0, .int .i64 0]) (t := 23) ?hr ?_; (case hd => rfl); (case hg => rfl); (case hr => exact zH); intro gb309 hg w5 hbox hb; have BK309 := zA (hbox); have GW309 := zg1 HB GE308 hg; have GE309 := zg1 HB GE308 hg; have NB308_309 := zn BK308 hg; have NB309_308 := zo BK308 hg; replace BK308 := zb BK308 hb; replace HB := zA (below_step (zB1 HB GE308) hb); clear hb hbox hg; have hnb6 := NB308_309.out; have hnc6 := NB309_308.out; have hcz7_0 := zc0 BK308; have hcz7_1 := zc1 BK308; have hfz7_0 := blk_frozen BK308.out 0; have hfz7_1 := blk_frozen BK308.out 1) | ((with_reducible refine gate_callee (f := 78) rfl ?_); refine goesL_ (some 6) rfl rfl Try.func78 (by kernel_rfl) rfl #[.agg #[.int .i64 a0_0, .int .i64 a0_1]] rfl zM ?_; (with_reducible refine (spec_IsTable.calls a0_0 a0_1 true _ A2.out).mono ?_); rintro e w8 ⟨rfl, hb⟩; refine ⟨_, rfl, ?_⟩; replace BK308 := zb BK308 hb; replace BK309 := zb BK309 hb; replace HB := zA (below_step (zB2 HB GE308 GE309) hb); (try clear hb); (try clear hb2); (try clear hk); (try clear hi); have hcz9_0 := zc0 BK308; have hcz9_1 := zc1 BK308; have hfz9_0 := blk_frozen BK308.out 0; have hfz9_1 := blk_frozen BK308.out 1))
  go_loopg [4] k (fun kq v4 w' => ∃ (x4_1 : Int) (x309000_1 : Int) (x309001_1 : Int), v4 = .int .i64 x4_1 ∧ Aside0 (spec_ReduceTable.l0 kq x4_1 x309000_1 x309001_1 = some (r1, r2, r3)) ∧ Aside0 (kq ≤ k) ∧ Aside0 (w'.heap[gb308]? = some (.cells #[.int .i64 x309000_1, .int .i64 x309001_1] 23 (0, 0))) ∧ Aside0 (w'.heap[gb309]? = some (.cells #[.int .i64 0, .int .i64 0] 23 (0, 0))) ∧ Aside0 (Below w.heap.size w w'))
  case atStart => exact ⟨(wrap64 (a0_0 - 1)), (a0_0), (a0_1), zS, H', ⟨Nat.le_refl _⟩, ⟨zD BK308⟩, ⟨zD BK309⟩, ⟨zB2 HB GE308 GE309⟩⟩
  case round =>
   clear H'
   try clear p2
   try clear c3
   try clear c6
   try clear p6
   try clear c7
   try clear hcz7_0
   try clear hcz7_1
   try clear hcz9_0
   try clear hcz9_1
   try clear hfz7_0
   try clear hfz7_1
   try clear hfz9_0
   try clear hfz9_1
   obtain ⟨x4_1, x309000_1, x309001_1, rfl, HA, HK1, BK308, BK309, HB⟩ := hrel
   cases gk with
   | zero => exact absurd HA.out (by simp [spec_ReduceTable.l0])
   | succ k1 =>
    have H := HA.out
    clear HA
    simp only [spec_ReduceTable.l0] at H
    by_cases c10 : x4_1 ≥ 0
    ·rw [if_pos c10] at H
     have c10b0 : decide (0 ≤ x4_1) = true := decide_eq_true c10
     clear c10
     replace H := Option.bind_eq_some_iff.mp H
     obtain ⟨t311, A110, H⟩ := H
     replace H : (if t311 = true then (spec_ReduceTable.l0 k1 (wrap64 (x4_1 - 1)) x309000_1 x309001_1) else ((spec_l3Restrict.f k1 x309000_1 x309001_1 x4_1 0).bind fun bt312 => (spec_ReduceTable.l0 k1 (wrap64 (x4_1 - 1)) bt312.1 bt312.2))) = some (r1, r2, r3) := H
     have A11 := zA A110
     clear A110
     by_cases c12 : t311 = true
     ·subst c12
      have H1 : (spec_ReduceTable.l0 k1 (wrap64 (x4_1 - 1)) x309000_1 x309001_1) = some (r1, r2, r3) := by rw [if_pos rfl] at H; exact H
      clear H
      have H := H1
      clear H1
      have H' := zA H
      clear H
      have hnb13 := NB308_309.out
      have hnc13 := NB309_308.out
      have hcz14_0 := zc0 BK308
      have hcz14_1 := zc1 BK308
      have hfz14_0 := blk_frozen BK308.out 0
      have hfz14_1 := blk_frozen BK308.out 1
      go_wp2_with (first | ((with_reducible refine gate_callee (f := 85) rfl ?_); refine goesL_ (some 18) rfl rfl Try.func85 (by kernel_rfl) rfl #[.agg #[.int .i64 x309000_1, .int .i64 x309001_1], .int .i64 x4_1] rfl zM ?_; (with_reducible refine (spec_l3Depends.calls k1 x309000_1 x309001_1 x4_1 true _ A11.out).mono ?_); rintro e w15 ⟨rfl, hb⟩; refine ⟨_, rfl, ?_⟩; replace BK308 := zb BK308 hb; replace BK309 := zb BK309 hb; replace HB := zA (below_step (zB2 HB GE308 GE309) hb); (try clear hb); (try clear hb2); (try clear hk); (try clear hi)))
      go_roundg k1
      case measure => have := HK1.out; omega
      case rel => exact ⟨(wrap64 (x4_1 - 1)), (x309000_1), (x309001_1), zS, H', ⟨by have := HK1.out; omega⟩, ⟨zD BK308⟩, ⟨zD BK309⟩, ⟨zB2 HB GE308 GE309⟩⟩
     ·replace c12 := Bool.eq_false_iff.mpr c12
      subst c12
      have H1 : ((spec_l3Restrict.f k1 x309000_1 x309001_1 x4_1 0).bind fun bt312 => (spec_ReduceTable.l0 k1 (wrap64 (x4_1 - 1)) bt312.1 bt312.2)) = some (r1, r2, r3) := by rw [if_neg (show ¬ (false = true) by decide)] at H; exact H
      clear H
      have H := H1
      clear H1
      replace H := Option.bind_eq_some_iff.mp H
      obtain ⟨⟨t312, t313⟩, A160, H⟩ := H
      replace H : (spec_ReduceTable.l0 k1 (wrap64 (x4_1 - 1)) t312 t313) = some (r1, r2, r3) := H
      have A16 := zA A160
      clear A160
      have H' := zA H
      clear H
      have hnb17 := NB308_309.out
      have hnc17 := NB309_308.out
      have hcz18_0 := zc0 BK308
      have hcz18_1 := zc1 BK308
      have hfz18_0 := blk_frozen BK308.out 0
      have hfz18_1 := blk_frozen BK308.out 1
      go_wp2_with (first | ((with_reducible refine gate_callee (f := 85) rfl ?_); refine goesL_ (some 18) rfl rfl Try.func85 (by kernel_rfl) rfl #[.agg #[.int .i64 x309000_1, .int .i64 x309001_1], .int .i64 x4_1] rfl zM ?_; (with_reducible refine (spec_l3Depends.calls k1 x309000_1 x309001_1 x4_1 false _ A11.out).mono ?_); rintro e w19 ⟨rfl, hb⟩; refine ⟨_, rfl, ?_⟩; replace BK308 := zb BK308 hb; replace BK309 := zb BK309 hb; replace HB := zA (below_step (zB2 HB GE308 GE309) hb); (try clear hb); (try clear hb2); (try clear hk); (try clear hi); have hcz20_0 := zc0 BK308; have hcz20_1 := zc1 BK308; have hfz20_0 := blk_frozen BK308.out 0; have hfz20_1 := blk_frozen BK308.out 1) | ((with_reducible refine gate_callee (f := 100) rfl ?_); refine goesL_ (some 22) rfl rfl Try.func100 (by kernel_rfl) rfl #[.agg #[.int .i64 x309000_1, .int .i64 x309001_1], .int .i64 x4_1, .int .i64 0] rfl zM ?_; (with_reducible refine (spec_l3Restrict.calls k1 x309000_1 x309001_1 x4_1 0 t312 t313 _ A16.out).mono ?_); rintro e w21 ⟨rfl, hb⟩; refine ⟨_, rfl, ?_⟩; replace BK308 := zb BK308 hb; replace BK309 := zb BK309 hb; replace HB := zA (below_step (zB2 HB GE308 GE309) hb); (try clear hb); (try clear hb2); (try clear hk); (try clear hi); have hcz22_0 := zc0 BK308; have hcz22_1 := zc1 BK308; have hfz22_0 := blk_frozen BK308.out 0; have hfz22_1 := blk_frozen BK308.out 1))
      go_roundg k1
      case measure => have := HK1.out; omega
      case rel => exact ⟨(wrap64 (x4_1 - 1)), (t312), (t313), zS, H', ⟨by have := HK1.out; omega⟩, ⟨zP BK308⟩, ⟨zF BK309 NB309_308⟩, ⟨zB2 HB GE308 GE309⟩⟩
    ·rw [if_neg c10] at H
     have c10b0 : decide (0 ≤ x4_1) = false := decide_eq_false c10
     clear c10
     simp only [Option.some.injEq, Prod.mk.injEq] at H
     obtain ⟨rfl, rfl, rfl⟩ := H
     have hnb23 := NB308_309.out
     have hnc23 := NB309_308.out
     have hcz24_0 := zc0 BK308
     have hcz24_1 := zc1 BK308
     have hfz24_0 := blk_frozen BK308.out 0
     have hfz24_1 := blk_frozen BK308.out 1
     have hcz25_0 := zc0 BK309
     have hcz25_1 := zc1 BK309
     have hfz25_0 := blk_frozen BK309.out 0
     have hfz25_1 := blk_frozen BK309.out 1
     go_wp2
     refine bodyPost_ret (results_ct rfl _ _ gb309 23 #[.int .i64 x309000_1, .int .i64 x309001_1] (0, 0) _ rfl (zP BK309) Try.underlying23 rfl (by kernel_rfl)) rfl ?_
     exact ⟨by first | rfl | (simp [errW_none, errW_some] <;> rfl) | (simp [*, errW_none, errW_some] <;> rfl), zB2 HB GE308 GE309⟩
 ·replace c3 := Bool.eq_false_iff.mpr c3
  subst c3
  have H1 : (some (0, 0, false)) = some (r1, r2, r3) := by rw [if_neg (show ¬ (false = true) by decide)] at H; exact H
  clear H
  have H := H1
  clear H1
  simp only [Option.some.injEq, Prod.mk.injEq] at H
  obtain ⟨rfl, rfl, rfl⟩ := H
  go_enter Try.func39, Try.ntmps39
  go_wp2_with (first | ((with_reducible refine gate_dst (N := 1) rfl ?_); refine box_event ?hg (N := 1) ?hd (cs := #[.int .i64 a0_0, .int .i64 a0_1]) (t := 23) ?hr ?_; (case hd => rfl); (case hg => rfl); (case hr => exact zH); intro gb308 hg w26 hbox hb; have BK308 := zA (hbox); have GW308 := zg HB hg; have GE308 := zg HB hg; replace HB := zA (below_step (zB HB) hb); clear hb hbox hg) | ((with_reducible refine gate_dst (N := 2) rfl ?_); refine box_event ?hg (N := 2) ?hd (cs := #[.int .i64 0, .int .i64 0]) (t := 23) ?hr ?_; (case hd => rfl); (case hg => rfl); (case hr => exact zH); intro gb309 hg w27 hbox hb; have BK309 := zA (hbox); have GW309 := zg1 HB GE308 hg; have GE309 := zg1 HB GE308 hg; have NB308_309 := zn BK308 hg; have NB309_308 := zo BK308 hg; replace BK308 := zb BK308 hb; replace HB := zA (below_step (zB1 HB GE308) hb); clear hb hbox hg; have hnb28 := NB308_309.out; have hnc28 := NB309_308.out; have hcz29_0 := zc0 BK308; have hcz29_1 := zc1 BK308; have hfz29_0 := blk_frozen BK308.out 0; have hfz29_1 := blk_frozen BK308.out 1) | ((with_reducible refine gate_callee (f := 78) rfl ?_); refine goesL_ (some 6) rfl rfl Try.func78 (by kernel_rfl) rfl #[.agg #[.int .i64 a0_0, .int .i64 a0_1]] rfl zM ?_; (with_reducible refine (spec_IsTable.calls a0_0 a0_1 false _ A2.out).mono ?_); rintro e w30 ⟨rfl, hb⟩; refine ⟨_, rfl, ?_⟩; replace BK308 := zb BK308 hb; replace BK309 := zb BK309 hb; replace HB := zA (below_step (zB2 HB GE308 GE309) hb); (try clear hb); (try clear hb2); (try clear hk); (try clear hi); have hcz31_0 := zc0 BK309; have hcz31_1 := zc1 BK309; have hfz31_0 := blk_frozen BK309.out 0; have hfz31_1 := blk_frozen BK309.out 1))
  refine bodyPost_ret (results_ct rfl _ _ gb309 23 #[.int .i64 0, .int .i64 0] (0, 0) _ rfl (zP BK309) Try.underlying23 rfl (by kernel_rfl)) rfl ?_
  exact ⟨by first | rfl | (simp [errW_none, errW_some] <;> rfl) | (simp [*, errW_none, errW_some] <;> rfl), zB2 HB GE308 GE309⟩

/-! ### impl_ReduceTable: function 40 -/
def impl_ReduceTable.l0 : Nat → Int → Int → Int → Option (Int × Int × Bool)
 | 0, _, _, _ => none
 | k + 1, x4, x315000, x315001 => if x4 ≥ 0 then ((impl_Table_depends.f x315000 x315001 x4).bind fun t317 => (if t317 = true then (impl_ReduceTable.l0 k (wrap64 (x4 - 1)) x315000 x315001) else ((impl_Table_restrict.f x315000 x315001 x4 0).bind fun bt318 => (impl_ReduceTable.l0 k (wrap64 (x4 - 1)) bt318.1 bt318.2)))) else (some (x315000, x315001, true))
def impl_ReduceTable.f (k : Nat) (a0_0 : Int) (a0_1 : Int) : Option (Int × Int × Bool) := (impl_IsTable.f a0_0 a0_1).bind fun t316 => (if t316 = true then (impl_ReduceTable.l0 k (wrap64 (a0_0 - 1)) a0_0 a0_1) else (some (0, 0, false)))
theorem impl_ReduceTable.mono_l : ∀ k, (∀ y0 y1 y2, LeO (impl_ReduceTable.l0 k y0 y1 y2) (impl_ReduceTable.l0 (k + 1) y0 y1 y2))
 | 0 => fun _ _ _ r h => by simp [impl_ReduceTable.l0] at h
 | k + 1 => by
  have ih0 := impl_ReduceTable.mono_l k
  ·intro y0 y1 y2
   unfold impl_ReduceTable.l0
   repeat' first
   | (with_reducible exact ih0 _ _ _)
   | (with_reducible exact LeO.refl _)
   | (with_reducible exact LeO.none _)
   | (with_reducible refine LeO.ite ?_ ?_)
   | (with_reducible refine LeO.bind ?_ (fun _ => ?_))
   | exact ih0 _ _ _
   | exact LeO.none _
   | refine LeO.ite ?_ ?_
   | refine LeO.bind ?_ (fun _ => ?_)
theorem impl_ReduceTable.mono : ∀ a0 a1 k, LeO (impl_ReduceTable.f k a0 a1) (impl_ReduceTable.f (k + 1) a0 a1) := by
 intro a0 a1 k
 have ih0 := impl_ReduceTable.mono_l k
 unfold impl_ReduceTable.f
 repeat' first
   | (with_reducible exact ih0 _ _ _)
   | (with_reducible exact LeO.refl _)
   | (with_reducible exact LeO.none _)
   | (with_reducible refine LeO.ite ?_ ?_)
   | (with_reducible refine LeO.bind ?_ (fun _ => ?_))
   | exact ih0 _ _ _
   | exact LeO.none _
   | refine LeO.ite ?_ ?_
   | refine LeO.bind ?_ (fun _ => ?_)
set_option maxHeartbeats 8000000 in
set_option maxRecDepth 100000 in
theorem impl_ReduceTable.calls (k : Nat) (a0_0 : Int) (a0_1 : Int) (r1 : Int) (r2 : Int) (r3 : Bool) (w : World) (h : impl_ReduceTable.f k a0_0 a0_1 = some (r1, r2, r3)) :
  Calls Try.prog 40 #[.agg #[.int .i64 a0_0, .int .i64 a0_1]] w fun e w' => e = .returned (.tuple #[.agg #[.int .i64 r1, .int .i64 r2], .bool r3]) ∧ Below w.heap.size w w' := by
 have hu23 := Try.underlying23
 have HB := zA (Below.refl w.heap.size w)
 have H := h
 unfold impl_ReduceTable.f at H
 clear h
 replace H := Option.bind_eq_some_iff.mp H
 obtain ⟨t316, A20, H⟩ := H
 replace H : (if t316 = true then (impl_ReduceTable.l0 k (wrap64 (a0_0 - 1)) a0_0 a0_1) else (some (0, 0, false))) = some (r1, r2, r3) := H
 have A2 := zA A20
 clear A20
 by_cases c3 : t316 = true
 ·subst c3
  have H1 : (impl_ReduceTable.l0 k (wrap64 (a0_0 - 1)) a0_0 a0_1) = some (r1, r2, r3) := by rw [if_pos rfl] at H; exact H
  clear H
  have H := H1
  clear H1
  have H' := zA H
  clear H
  go_enter Try.func40, Try.ntmps40
  go_wp2_with (first | ((with_reducible refine gate_dst (N := 1) rfl ?_); refine box_event ?hg (N := 1) ?hd (cs := #[.int .i64 a0_0, .int .i64 a0_1]) (t := 23) ?hr ?_; (case hd => rfl); (case hg => rfl); (case hr => exact zH); intro gb314 hg w4 hbox hb; have BK314 := zA (hbox); have GW314 := zg HB hg; have GE314 := zg HB hg; replace HB := zA (below_step (zB HB) hb); clear hb hbox hg) | ((with_reducible refine gate_dst (N := 2) rfl ?_); refine box_event ?hg (N := 2) ?hd (cs := #[.int .i64 0, .int .i64 0]) (t := 23) ?hr ?_; (case hd => rfl); (case hg => rfl); (case hr => exact zH); intro gb315 hg w5 hbox hb; have BK315 := zA (hbox); have GW315 := zg1 HB GE314 hg; have GE315 := zg1 HB GE314 hg; have NB314_315 := zn BK314 hg; have NB315_314 := zo BK314 hg; replace BK314 := zb BK314 hb; replace HB := zA (below_step (zB1 HB GE314) hb); clear hb hbox hg; have hnb6 := NB314_315.out; have hnc6 := NB315_314.out; have hcz7_0 := zc0 BK314; have hcz7_1 := zc1 BK314; have hfz7_0 := blk_frozen BK314.out 0; have hfz7_1 := blk_frozen BK314.out 1) | ((with_reducible refine gate_callee (f := 80) rfl ?_); refine goesL_ (some 6) rfl rfl Try.func80 (by kernel_rfl) rfl #[.agg #[.int .i64 a0_0, .int .i64 a0_1]] rfl zM ?_; (with_reducible refine (impl_IsTable.calls a0_0 a0_1 true _ A2.out).mono ?_); rintro e w8 ⟨rfl, hb⟩; refine ⟨_, rfl, ?_⟩; replace BK314 := zb BK314 hb; replace BK315 := zb BK315 hb; replace HB := zA (below_step (zB2 HB GE314 GE315) hb); (try clear hb); (try clear hb2); (try clear hk); (try clear hi); have hcz9_0 := zc0 BK314; have hcz9_1 := zc1 BK314; have hfz9_0 := blk_frozen BK314.out 0; have hfz9_1 := blk_frozen BK314.out 1))
  go_loopg [4] k (fun kq v4 w' => ∃ (x4_1 : Int) (x315000_1 : Int) (x315001_1 : Int), v4 = .int .i64 x4_1 ∧ Aside0 (impl_ReduceTable.l0 kq x4_1 x315000_1 x315001_1 = some (r1, r2, r3)) ∧ Aside0 (kq ≤ k) ∧ Aside0 (w'.heap[gb314]? = some (.cells #[.int .i64 x315000_1, .int .i64 x315001_1] 23 (0, 0))) ∧ Aside0 (w'.heap[gb315]? = some (.cells #[.int .i64 0, .int .i64 0] 23 (0, 0))) ∧ Aside0 (Below w.heap.size w w'))
  case atStart => exact ⟨(wrap64 (a0_0 - 1)), (a0_0), (a0_1), zS, H', ⟨Nat.le_refl _⟩, ⟨zD BK314⟩, ⟨zD BK315⟩, ⟨zB2 HB GE314 GE315⟩⟩
  case round =>
   clear H'
   try clear p2
   try clear c3
   try clear c4
   try clear c6
   try clear p6
   try clear c8
   try clear hcz7_0
   try clear hcz7_1
   try clear hcz9_0
   try clear hcz9_1
   try clear hfz7_0
   try clear hfz7_1
   try clear hfz9_0
   try clear hfz9_1
   obtain ⟨x4_1, x315000_1, x315001_1, rfl, HA, HK1, BK314, BK315, HB⟩ := hrel
   cases gk with
   | zero => exact absurd HA.out (by simp [impl_ReduceTable.l0])
   | succ k1 =>
    have H := HA.out
    clear HA
    simp only [impl_ReduceTable.l0] at H
    by_cases c10 : x4_1 ≥ 0
    ·rw [if_pos c10] at H
     have c10b0 : decide (0 ≤ x4_1) = true := decide_eq_true c10
     clear c10
     replace H := Option.bind_eq_some_iff.mp H
     obtain ⟨t317, A110, H⟩ := H
     replace H : (if t317 = true then (impl_ReduceTable.l0 k1 (wrap64 (x4_1 - 1)) x315000_1 x315001_1) else ((impl_Table_restrict.f x315000_1 x315001_1 x4_1 0).bind fun bt318 => (impl_ReduceTable.l0 k1 (wrap64 (x4_1 - 1)) bt318.1 bt318.2))) = some (r1, r2, r3) := H
     have A11 := zA A110
     clear A110
     by_cases c12 : t317 = true
     ·subst c12
      have H1 : (impl_ReduceTable.l0 k1 (wrap64 (x4_1 - 1)) x315000_1 x315001_1) = some (r1, r2, r3) := by rw [if_pos rfl] at H; exact H
      clear H
      have H := H1
      clear H1
      have H' := zA H
      clear H
      have hnb13 := NB314_315.out
      have hnc13 := NB315_314.out
      have hcz14_0 := zc0 BK314
      have hcz14_1 := zc1 BK314
      have hfz14_0 := blk_frozen BK314.out 0
      have hfz14_1 := blk_frozen BK314.out 1
      go_wp2_with (first | ((with_reducible refine gate_callee (f := 87) rfl ?_); refine goesL_ (some 18) rfl rfl Try.func87 (by kernel_rfl) rfl #[.agg #[.int .i64 x315000_1, .int .i64 x315001_1], .int .i64 x4_1] rfl zM ?_; (with_reducible refine (impl_Table_depends.calls x315000_1 x315001_1 x4_1 true _ A11.out).mono ?_); rintro e w15 ⟨rfl, hb⟩; refine ⟨_, rfl, ?_⟩; replace BK314 := zb BK314 hb; replace BK315 := zb BK315 hb; replace HB := zA (below_step (zB2 HB GE314 GE315) hb); (try clear hb); (try clear hb2); (try clear hk); (try clear hi)))
      go_roundg k1
      case measure => have := HK1.out; omega
      case rel => exact ⟨(wrap64 (x4_1 - 1)), (x315000_1), (x315001_1), zS, H', ⟨by have := HK1.out; omega⟩, ⟨zD BK314⟩, ⟨zD BK315⟩, ⟨zB2 HB GE314 GE315⟩⟩
     ·replace c12 := Bool.eq_false_iff.mpr c12
      subst c12
      have H1 : ((impl_Table_restrict.f x315000_1 x315001_1 x4_1 0).bind fun bt318 => (impl_ReduceTable.l0 k1 (wrap64 (x4_1 - 1)) bt318.1 bt318.2)) = some (r1, r2, r3) := by rw [if_neg (show ¬ (false = true) by decide)] at H; exact H
      clear H
      have H := H1
      clear H1
      replace H := Option.bind_eq_some_iff.mp H
      obtain ⟨⟨t318, t319⟩, A160, H⟩ := H
      replace H : (impl_ReduceTable.l0 k1 (wrap64 (x4_1 - 1)) t318 t319) = some (r1, r2, r3) := H
      have A16 := zA A160
      clear A160
      have H' := zA H
      clear H
      have hnb17 := NB314_315.out
      have hnc17 := NB315_314.out
      have hcz18_0 := zc0 BK314
      have hcz18_1 := zc1 BK314
      have hfz18_0 := blk_frozen BK314.out 0
      have hfz18_1 := blk_frozen BK314.out 1
      go_wp2_with (first | ((with_reducible refine gate_callee (f := 87) rfl ?_); refine goesL_ (some 18) rfl rfl Try.func87 (by kernel_rfl) rfl #[.agg #[.int .i64 x315000_1, .int .i64 x315001_1], .int .i64 x4_1] rfl zM ?_; (with_reducible refine (impl_Table_depends.calls x315000_1 x315001_1 x4_1 false _ A11.out).mono ?_); rintro e w19 ⟨rfl, hb⟩; refine ⟨_, rfl, ?_⟩; replace BK314 := zb BK314 hb; replace BK315 := zb BK315 hb; replace HB := zA (below_step (zB2 HB GE314 GE315) hb); (try clear hb); (try clear hb2); (try clear hk); (try clear hi); have hcz20_0 := zc0 BK314; have hcz20_1 := zc1 BK314; have hfz20_0 := blk_frozen BK314.out 0; have hfz20_1 := blk_frozen BK314.out 1) | ((with_reducible refine gate_callee (f := 102) rfl ?_); refine goesL_ (some 22) rfl rfl Try.func102 (by kernel_rfl) rfl #[.agg #[.int .i64 x315000_1, .int .i64 x315001_1], .int .i64 x4_1, .int .i64 0] rfl zM ?_; (with_reducible refine (impl_Table_restrict.calls x315000_1 x315001_1 x4_1 0 t318 t319 _ A16.out).mono ?_); rintro e w21 ⟨rfl, hb⟩; refine ⟨_, rfl, ?_⟩; replace BK314 := zb BK314 hb; replace BK315 := zb BK315 hb; replace HB := zA (below_step (zB2 HB GE314 GE315) hb); (try clear hb); (try clear hb2); (try clear hk); (try clear hi); have hcz22_0 := zc0 BK314; have hcz22_1 := zc1 BK314; have hfz22_0 := blk_frozen BK314.out 0; have hfz22_1 := blk_frozen BK314.out 1))
      go_roundg k1
      case measure => have := HK1.out; omega
      case rel => exact ⟨(wrap64 (x4_1 - 1)), (t318), (t319), zS, H', ⟨by have := HK1.out; omega⟩, ⟨zP BK314⟩, ⟨zF BK315 NB315_314⟩, ⟨zB2 HB GE314 GE315⟩⟩
    ·rw [if_neg c10] at H
     have c10b0 : decide (0 ≤ x4_1) = false := decide_eq_false c10
     clear c10
     simp only [Option.some.injEq, Prod.mk.injEq] at H
     obtain ⟨rfl, rfl, rfl⟩ := H
     have hnb23 := NB314_315.out
     have hnc23 := NB315_314.out
     have hcz24_0 := zc0 BK314
     have hcz24_1 := zc1 BK314
     have hfz24_0 := blk_frozen BK314.out 0
     have hfz24_1 := blk_frozen BK314.out 1
     have hcz25_0 := zc0 BK315
     have hcz25_1 := zc1 BK315
     have hfz25_0 := blk_frozen BK315.out 0
     have hfz25_1 := blk_frozen BK315.out 1
     go_wp2
     refine bodyPost_ret (results_ct rfl _ _ gb315 23 #[.int .i64 x315000_1, .int .i64 x315001_1] (0, 0) _ rfl (zP BK315) Try.underlying23 rfl (by kernel_rfl)) rfl ?_
     exact ⟨by first | rfl | (simp [errW_none, errW_some] <;> rfl) | (simp [*, errW_none, errW_some] <;> rfl), zB2 HB GE314 GE315⟩
 ·replace c3 := Bool.eq_false_iff.mpr c3
  subst c3
  have H1 : (some (0, 0, false)) = some (r1, r2, r3) := by rw [if_neg (show ¬ (false = true) by decide)] at H; exact H
  clear H
  have H := H1
  clear H1
  simp only [Option.some.injEq, Prod.mk.injEq] at H
  obtain ⟨rfl, rfl, rfl⟩ := H
  go_enter Try.func40, Try.ntmps40
  go_wp2_with (first | ((with_reducible refine gate_dst (N := 1) rfl ?_); refine box_event ?hg (N := 1) ?hd (cs := #[.int .i64 a0_0, .int .i64 a0_1]) (t := 23) ?hr ?_; (case hd => rfl); (case hg => rfl); (case hr => exact zH); intro gb314 hg w26 hbox hb; have BK314 := zA (hbox); have GW314 := zg HB hg; have GE314 := zg HB hg; replace HB := zA (below_step (zB HB) hb); clear hb hbox hg) | ((with_reducible refine gate_dst (N := 2) rfl ?_); refine box_event ?hg (N := 2) ?hd (cs := #[.int .i64 0, .int .i64 0]) (t := 23) ?hr ?_; (case hd => rfl); (case hg => rfl); (case hr => exact zH); intro gb315 hg w27 hbox hb; have BK315 := zA (hbox); have GW315 := zg1 HB GE314 hg; have GE315 := zg1 HB GE314 hg; have NB314_315 := zn BK314 hg; have NB315_314 := zo BK314 hg; replace BK314 := zb BK314 hb; replace HB := zA (below_step (zB1 HB GE314) hb); clear hb hbox hg; have hnb28 := NB314_315.out; have hnc28 := NB315_314.out; have hcz29_0 := zc0 BK314; have hcz29_1 := zc1 BK314; have hfz29_0 := blk_frozen BK314.out 0; have hfz29_1 := blk_frozen BK314.out 1) | ((with_reducible refine gate_callee (f := 80) rfl ?_); refine goesL_ (some 6) rfl rfl Try.func80 (by kernel_rfl) rfl #[.agg #[.int .i64 a0_0, .int .i64 a0_1]] rfl zM ?_; (with_reducible refine (impl_IsTable.calls a0_0 a0_1 false _ A2.out).mono ?_); rintro e w30 ⟨rfl, hb⟩; refine ⟨_, rfl, ?_⟩; replace BK314 := zb BK314 hb; replace BK315 := zb BK315 hb; replace HB := zA (below_step (zB2 HB GE314 GE315) hb); (try clear hb); (try clear hb2); (try clear hk); (try clear hi); have hcz31_0 := zc0 BK315; have hcz31_1 := zc1 BK315; have hfz31_0 := blk_frozen BK315.out 0; have hfz31_1 := blk_frozen BK315.out 1))
  refine bodyPost_ret (results_ct rfl _ _ gb315 23 #[.int .i64 0, .int .i64 0] (0, 0) _ rfl (zP BK315) Try.underlying23 rfl (by kernel_rfl)) rfl ?_
  exact ⟨by first | rfl | (simp [errW_none, errW_some] <;> rfl) | (simp [*, errW_none, errW_some] <;> rfl), zB2 HB GE314 GE315⟩

end Go.Proofs.Ytijpcemcijaeeaa.P
