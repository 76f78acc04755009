/- The functions that this seat's laws reach, each as a plain Lean function, and the walk of each; written by a program over the kit's print. No conditions but those that stand in the theorems. -/
import Derived.Test.YtfiejicdlaknnaaK2
namespace Go.Proofs.Ytfiejicdlaknnaa.P
open Go.RowKit Go.Proofs.YtfiejicdlaknnaaW.PrintWords Go.Proofs.YtfiejicdlaknnaaW.PrintLast Go.Proofs.YtfiejicdlaknnaaW.PrintMore
attribute [local go_sem] max2_int min2_int max_two min_two max_three min_three max_four min_four   -- for this text's walks alone
set_option linter.unusedVariables false
set_option linter.unusedSimpArgs false

attribute [local go_sem] fld25_0 fld25_1
/-! ### impl_Table_isImplicant: function 45 -/
def impl_Table_isImplicant.f (a0_0 : Int) (a0_1 : Int) (a1_0 : Int) (a1_1 : Int) : Option (Bool) := (impl_Table_cube.f a0_0 a0_1 a1_0 a1_1).bind fun t192 => (some (t192 == 1))
set_option maxHeartbeats 8000000 in
set_option maxRecDepth 100000 in
theorem impl_Table_isImplicant.calls (a0_0 : Int) (a0_1 : Int) (a1_0 : Int) (a1_1 : Int) (r : Bool) (w : World) (h : impl_Table_isImplicant.f a0_0 a0_1 a1_0 a1_1 = some r) :
  Calls Try.prog 45 #[.agg #[.int .i64 a0_0, .int .i64 a0_1], .agg #[.int .i64 a1_0, .int .i64 a1_1]] w fun e w' => e = .returned (.bool r) ∧ Below w.heap.size w w' := by
 have hu25 := Try.underlying25
 have hu33 := Try.underlying33
 have HB := zA (Below.refl w.heap.size w)
 have H := h
 unfold impl_Table_isImplicant.f at H
 clear h
 replace H := Option.bind_eq_some_iff.mp H
 obtain ⟨t192, A30, H⟩ := H
 replace H : (some (t192 == 1)) = some r := H
 have A3 := zA A30
 clear A30
 obtain rfl := Option.some.inj H
 go_enter Try.func45, Try.ntmps45
 go_wp2_with (first | ((with_reducible refine gate_dst (N := 2) rfl ?_); refine box_event ?hg (N := 2) ?hd (cs := #[.int .i64 a0_0, .int .i64 a0_1]) (t := 25) ?hr ?_; (case hd => rfl); (case hg => rfl); (case hr => exact zH); intro gb190 hg w4 hbox hb; have BK190 := zA (hbox); have GW190 := zg HB hg; have GE190 := zg HB hg; replace HB := zA (below_step (zB HB) hb); clear hb hbox hg) | ((with_reducible refine gate_dst (N := 3) rfl ?_); refine box_event ?hg (N := 3) ?hd (cs := #[.int .i64 a1_0, .int .i64 a1_1]) (t := 33) ?hr ?_; (case hd => rfl); (case hg => rfl); (case hr => exact zH); intro gb191 hg w5 hbox hb; have BK191 := zA (hbox); have GW191 := zg1 HB GE190 hg; have GE191 := zg1 HB GE190 hg; have NB190_191 := zn BK190 hg; have NB191_190 := zo BK190 hg; replace BK190 := zb BK190 hb; replace HB := zA (below_step (zB1 HB GE190) hb); clear hb hbox hg; have hnb6 := NB190_191.out; have hnc6 := NB191_190.out; have hcz7_0 := zc0 BK190; have hcz7_1 := zc1 BK190; have hfz7_0 := blk_frozen BK190.out 0; have hfz7_1 := blk_frozen BK190.out 1; have hcz8_0 := zc0 BK191; have hcz8_1 := zc1 BK191; have hfz8_0 := blk_frozen BK191.out 0; have hfz8_1 := blk_frozen BK191.out 1) | ((with_reducible refine gate_callee (f := 68) rfl ?_); refine goesL_ (some 10) rfl rfl Try.func68 (by kernel_rfl) rfl #[.agg #[.int .i64 a0_0, .int .i64 a0_1], .int .i64 a1_0, .int .i64 a1_1] rfl zM ?_; (with_reducible refine (impl_Table_cube.calls a0_0 a0_1 a1_0 a1_1 t192 _ A3.out).mono ?_); rintro e w9 ⟨rfl, hb⟩; refine ⟨_, rfl, ?_⟩; replace BK190 := zb BK190 hb; replace BK191 := zb BK191 hb; replace HB := zA (below_step (zB2 HB GE190 GE191) hb); (try clear hb); (try clear hb2); (try clear hk); (try clear hi)))
 go_ret
 exact ⟨zE, zB2 HB GE190 GE191⟩

/-! ### impl_Table_isPrime: function 44 -/
def impl_Table_isPrime.l0 : Nat → Int → Int → Int → Int → Int → Int → Option (Bool)
 | 0, _, _, _, _, _, _ => none
 | k + 1, x12, x13, x194000, x194001, x195000, x195001 => if x13 < x12 then (if 0 ≤ x13 then (if (Go.bits .and .i64 x195000 (shl .i64 1 x13)) = 0 then (impl_Table_isPrime.l0 k x12 (wrap64 (x13 + 1)) x194000 x194001 x195000 x195001) else ((impl_Table_isImplicant.f x194000 x194001 (Go.bits .andNot .i64 x195000 (shl .i64 1 x13)) (Go.bits .andNot .i64 x195001 (shl .i64 1 x13))).bind fun t196 => (if t196 = true then (some false) else (impl_Table_isPrime.l0 k x12 (wrap64 (x13 + 1)) x194000 x194001 x195000 x195001)))) else (none)) else (some true)
def impl_Table_isPrime.f (k : Nat) (a0_0 : Int) (a0_1 : Int) (a1_0 : Int) (a1_1 : Int) : Option (Bool) := (impl_Table_isImplicant.f a0_0 a0_1 a1_0 a1_1).bind fun t195 => (if t195 = true then (impl_Table_isPrime.l0 k a0_0 0 a0_0 a0_1 a1_0 a1_1) else (some false))
theorem impl_Table_isPrime.mono_l : ∀ k, (∀ y0 y1 y2 y3 y4 y5, LeO (impl_Table_isPrime.l0 k y0 y1 y2 y3 y4 y5) (impl_Table_isPrime.l0 (k + 1) y0 y1 y2 y3 y4 y5))
 | 0 => fun _ _ _ _ _ _ r h => by simp [impl_Table_isPrime.l0] at h
 | k + 1 => by
  have ih0 := impl_Table_isPrime.mono_l k
  ·intro y0 y1 y2 y3 y4 y5
   unfold impl_Table_isPrime.l0
   repeat' first
   | (with_reducible exact ih0 _ _ _ _ _ _)
   | (with_reducible exact LeO.refl _)
   | (with_reducible exact LeO.none _)
   | (with_reducible refine LeO.ite ?_ ?_)
   | (with_reducible refine LeO.bind ?_ (fun _ => ?_))
   | exact ih0 _ _ _ _ _ _
   | exact LeO.none _
   | refine LeO.ite ?_ ?_
   | refine LeO.bind ?_ (fun _ => ?_)
theorem impl_Table_isPrime.mono : ∀ a0 a1 a2 a3 k, LeO (impl_Table_isPrime.f k a0 a1 a2 a3) (impl_Table_isPrime.f (k + 1) a0 a1 a2 a3) := by
 intro a0 a1 a2 a3 k
 have ih0 := impl_Table_isPrime.mono_l k
 unfold impl_Table_isPrime.f
 repeat' first
   | (with_reducible exact ih0 _ _ _ _ _ _)
   | (with_reducible exact LeO.refl _)
   | (with_reducible exact LeO.none _)
   | (with_reducible refine LeO.ite ?_ ?_)
   | (with_reducible refine LeO.bind ?_ (fun _ => ?_))
   | exact ih0 _ _ _ _ _ _
   | exact LeO.none _
   | refine LeO.ite ?_ ?_
   | refine LeO.bind ?_ (fun _ => ?_)
set_option maxHeartbeats 8000000 in
set_option maxRecDepth 100000 in
theorem impl_Table_isPrime.calls (k : Nat) (a0_0 : Int) (a0_1 : Int) (a1_0 : Int) (a1_1 : Int) (r : Bool) (w : World) (h : impl_Table_isPrime.f k a0_0 a0_1 a1_0 a1_1 = some r) :
  Calls Try.prog 44 #[.agg #[.int .i64 a0_0, .int .i64 a0_1], .agg #[.int .i64 a1_0, .int .i64 a1_1]] w fun e w' => e = .returned (.bool r) ∧ Below w.heap.size w w' := by
 have hu25 := Try.underlying25
 have hu33 := Try.underlying33
 have HB := zA (Below.refl w.heap.size w)
 have H := h
 unfold impl_Table_isPrime.f at H
 clear h
 replace H := Option.bind_eq_some_iff.mp H
 obtain ⟨t195, A30, H⟩ := H
 replace H : (if t195 = true then (impl_Table_isPrime.l0 k a0_0 0 a0_0 a0_1 a1_0 a1_1) else (some false)) = some r := H
 have A3 := zA A30
 clear A30
 by_cases c4 : t195 = true
 ·subst c4
  have H1 : (impl_Table_isPrime.l0 k a0_0 0 a0_0 a0_1 a1_0 a1_1) = some r := by rw [if_pos rfl] at H; exact H
  clear H
  have H := H1
  clear H1
  have H' := zA H
  clear H
  go_enter Try.func44, Try.ntmps44
  go_wp2_with (first | ((with_reducible refine gate_dst (N := 2) rfl ?_); refine box_event ?hg (N := 2) ?hd (cs := #[.int .i64 a0_0, .int .i64 a0_1]) (t := 25) ?hr ?_; (case hd => rfl); (case hg => rfl); (case hr => exact zH); intro gb193 hg w5 hbox hb; have BK193 := zA (hbox); have GW193 := zg HB hg; have GE193 := zg HB hg; replace HB := zA (below_step (zB HB) hb); clear hb hbox hg) | ((with_reducible refine gate_dst (N := 3) rfl ?_); refine box_event ?hg (N := 3) ?hd (cs := #[.int .i64 a1_0, .int .i64 a1_1]) (t := 33) ?hr ?_; (case hd => rfl); (case hg => rfl); (case hr => exact zH); intro gb194 hg w6 hbox hb; have BK194 := zA (hbox); have GW194 := zg1 HB GE193 hg; have GE194 := zg1 HB GE193 hg; have NB193_194 := zn BK193 hg; have NB194_193 := zo BK193 hg; replace BK193 := zb BK193 hb; replace HB := zA (below_step (zB1 HB GE193) hb); clear hb hbox hg; have hnb7 := NB193_194.out; have hnc7 := NB194_193.out; have hcz8_0 := zc0 BK193; have hcz8_1 := zc1 BK193; have hfz8_0 := blk_frozen BK193.out 0; have hfz8_1 := blk_frozen BK193.out 1; have hcz9_0 := zc0 BK194; have hcz9_1 := zc1 BK194; have hfz9_0 := blk_frozen BK194.out 0; have hfz9_1 := blk_frozen BK194.out 1) | ((with_reducible refine gate_callee (f := 45) rfl ?_); refine goesL_ (some 9) rfl rfl Try.func45 (by kernel_rfl) rfl #[.agg #[.int .i64 a0_0, .int .i64 a0_1], .agg #[.int .i64 a1_0, .int .i64 a1_1]] rfl zM ?_; (with_reducible refine (impl_Table_isImplicant.calls a0_0 a0_1 a1_0 a1_1 true _ A3.out).mono ?_); rintro e w10 ⟨rfl, hb⟩; refine ⟨_, rfl, ?_⟩; replace BK193 := zb BK193 hb; replace BK194 := zb BK194 hb; replace HB := zA (below_step (zB2 HB GE193 GE194) hb); (try clear hb); (try clear hb2); (try clear hk); (try clear hi); have hcz11_0 := zc0 BK193; have hcz11_1 := zc1 BK193; have hfz11_0 := blk_frozen BK193.out 0; have hfz11_1 := blk_frozen BK193.out 1))
  go_loopg [13] k (fun kq v13 w' => ∃ (x13_1 : Int), v13 = .int .i64 x13_1 ∧ Aside0 (impl_Table_isPrime.l0 kq a0_0 x13_1 a0_0 a0_1 a1_0 a1_1 = some r) ∧ Aside0 (kq ≤ k) ∧ Aside0 (w'.heap[gb193]? = some (.cells #[.int .i64 a0_0, .int .i64 a0_1] 25 (0, 0))) ∧ Aside0 (w'.heap[gb194]? = some (.cells #[.int .i64 a1_0, .int .i64 a1_1] 33 (0, 0))) ∧ Aside0 (Below w.heap.size w w'))
  case atStart => exact ⟨(0), zS, H', ⟨Nat.le_refl _⟩, ⟨zD BK193⟩, ⟨zD BK194⟩, ⟨zB2 HB GE193 GE194⟩⟩
  case round =>
   clear H'
   try clear c4
   try clear hcz11_0
   try clear hcz11_1
   try clear hcz8_0
   try clear hcz8_1
   try clear hcz9_0
   try clear hcz9_1
   try clear hfz11_0
   try clear hfz11_1
   try clear hfz8_0
   try clear hfz8_1
   try clear hfz9_0
   try clear hfz9_1
   obtain ⟨x13_1, rfl, HA, HK1, BK193, BK194, HB⟩ := hrel
   cases gk with
   | zero => exact absurd HA.out (by simp [impl_Table_isPrime.l0])
   | succ k1 =>
    have H := HA.out
    clear HA
    simp only [impl_Table_isPrime.l0] at H
    by_cases c12 : x13_1 < a0_0
    ·rw [if_pos c12] at H
     have c12b0 : decide (x13_1 < a0_0) = true := decide_eq_true c12
     clear c12
     by_cases c13 : 0 ≤ x13_1
     ·rw [if_pos c13] at H
      have c13b0 := eq_true c13
      have c13b1 : decide (0 ≤ x13_1) = true := decide_eq_true c13
      clear c13
      obtain ⟨ji14, hji14⟩ : ∃ j_ : Int, (shl .i64 1 x13_1) = j_ := ⟨_, rfl⟩
      replace H : (if (Go.bits .and .i64 a1_0 (ji14)) = 0 then (impl_Table_isPrime.l0 k1 a0_0 (wrap64 (x13_1 + 1)) a0_0 a0_1 a1_0 a1_1) else ((impl_Table_isImplicant.f a0_0 a0_1 (Go.bits .andNot .i64 a1_0 (ji14)) (Go.bits .andNot .i64 a1_1 (ji14))).bind fun t196 => (if t196 = true then (some false) else (impl_Table_isPrime.l0 k1 a0_0 (wrap64 (x13_1 + 1)) a0_0 a0_1 a1_0 a1_1)))) = some r := by first | (rw [hji14] at H; exact H) | (simp only [hji14] at H ⊢; exact H)
      have hji14_ : (IntKind.i64.wrap (1 * 2 ^ min x13_1.toNat 64)) = ji14 := hji14
      have hji14z : x13_1 ≤ 64 → (IntKind.i64.wrap (1 * 2 ^ x13_1.toNat)) = ji14 := shl_small hji14
      have hji14u : (IntKind.i64.wrap (2 ^ min x13_1.toNat 64)) = ji14 := by have h_ := hji14_; rw [Int.one_mul] at h_; exact h_
      have hji14v : x13_1 ≤ 64 → (IntKind.i64.wrap (2 ^ x13_1.toNat)) = ji14 := fun hle_ => by have h_ := hji14z hle_; rw [Int.one_mul] at h_; exact h_
      have hji14y : (wrap64 (1 * 2 ^ min x13_1.toNat 64)) = ji14 := (i64_w _).symm.trans hji14_
      have hji14x : x13_1 ≤ 64 → (wrap64 (1 * 2 ^ x13_1.toNat)) = ji14 := fun h_ => (i64_w _).symm.trans (hji14z h_)
      by_cases c15 : (Go.bits .and .i64 a1_0 (ji14)) = 0
      ·rw [if_pos c15] at H
       have c15b0 : ((Go.bits .and .i64 a1_0 (ji14)) == 0) = true := beq_iff_eq.mpr c15
       have c15b1 : ((Go.bits .and .i64 a1_0 (ji14)) != 0) = false := bne_eq_false_iff_eq.mpr c15
       clear c15
       have H' := zA H
       clear H
       have hnb16 := NB194_193.out
       have hnc16 := NB193_194.out
       have hcz17_0 := zc0 BK194
       have hcz17_1 := zc1 BK194
       have hfz17_0 := blk_frozen BK194.out 0
       have hfz17_1 := blk_frozen BK194.out 1
       go_wp2
       go_roundg k1
       case measure => have := HK1.out; omega
       case rel => exact ⟨(wrap64 (x13_1 + 1)), zS, H', ⟨by have := HK1.out; omega⟩, ⟨zD BK193⟩, ⟨zD BK194⟩, ⟨zB2 HB GE193 GE194⟩⟩
      ·rw [if_neg c15] at H
       have c15b0 : ((Go.bits .and .i64 a1_0 (ji14)) == 0) = false := beq_eq_false_iff_ne.mpr c15
       have c15b1 : ((Go.bits .and .i64 a1_0 (ji14)) != 0) = true := bne_iff_ne.mpr c15
       replace H := Option.bind_eq_some_iff.mp H
       obtain ⟨t196, A180, H⟩ := H
       replace H : (if t196 = true then (some false) else (impl_Table_isPrime.l0 k1 a0_0 (wrap64 (x13_1 + 1)) a0_0 a0_1 a1_0 a1_1)) = some r := H
       have A18 := zA A180
       clear A180
       by_cases c19 : t196 = true
       ·subst c19
        have H1 : (some false) = some r := by rw [if_pos rfl] at H; exact H
        clear H
        have H := H1
        clear H1
        obtain rfl := Option.some.inj H
        have hnb20 := NB194_193.out
        have hnc20 := NB193_194.out
        have hcz21_0 := zc0 BK194
        have hcz21_1 := zc1 BK194
        have hfz21_0 := blk_frozen BK194.out 0
        have hfz21_1 := blk_frozen BK194.out 1
        have hcz22_0 := zc0 BK193
        have hcz22_1 := zc1 BK193
        have hfz22_0 := blk_frozen BK193.out 0
        have hfz22_1 := blk_frozen BK193.out 1
        go_wp2_with (first | (go_at_call 45; (with_reducible refine (impl_Table_isImplicant.calls a0_0 a0_1 (Go.bits .andNot .i64 a1_0 (ji14)) (Go.bits .andNot .i64 a1_1 (ji14)) true _ A18.out).mono ?_); rintro e w23 ⟨rfl, hb⟩; replace BK193 := zb BK193 hb; replace BK194 := zb BK194 hb; replace HB := zA (below_step (zB2 HB GE193 GE194) hb); (try clear hb); (try clear hb2); (try clear hk); (try clear hi)))
        go_ret
        exact ⟨by first | rfl | (simp [errW_none, errW_some] <;> rfl) | (simp only [← hji14]; first | rfl | (simp [errW_none, errW_some] <;> rfl)) | (simp [*, errW_none, errW_some] <;> rfl), zB2 HB GE193 GE194⟩
       ·replace c19 := Bool.eq_false_iff.mpr c19
        subst c19
        have H1 : (impl_Table_isPrime.l0 k1 a0_0 (wrap64 (x13_1 + 1)) a0_0 a0_1 a1_0 a1_1) = some r := by rw [if_neg (show ¬ (false = true) by decide)] at H; exact H
        clear H
        have H := H1
        clear H1
        have H' := zA H
        clear H
        have hnb24 := NB194_193.out
        have hnc24 := NB193_194.out
        have hcz25_0 := zc0 BK194
        have hcz25_1 := zc1 BK194
        have hfz25_0 := blk_frozen BK194.out 0
        have hfz25_1 := blk_frozen BK194.out 1
        have hcz26_0 := zc0 BK193
        have hcz26_1 := zc1 BK193
        have hfz26_0 := blk_frozen BK193.out 0
        have hfz26_1 := blk_frozen BK193.out 1
        go_wp2_with (first | (go_at_call 45; (with_reducible refine (impl_Table_isImplicant.calls a0_0 a0_1 (Go.bits .andNot .i64 a1_0 (ji14)) (Go.bits .andNot .i64 a1_1 (ji14)) false _ A18.out).mono ?_); rintro e w27 ⟨rfl, hb⟩; replace BK193 := zb BK193 hb; replace BK194 := zb BK194 hb; replace HB := zA (below_step (zB2 HB GE193 GE194) hb); (try clear hb); (try clear hb2); (try clear hk); (try clear hi)))
        go_roundg k1
        case measure => have := HK1.out; omega
        case rel => exact ⟨(wrap64 (x13_1 + 1)), zS, H', ⟨by have := HK1.out; omega⟩, ⟨zD BK193⟩, ⟨zD BK194⟩, ⟨zB2 HB GE193 GE194⟩⟩
     ·rw [if_neg c13] at H
      exact absurd H (by simp)
    ·rw [if_neg c12] at H
     have c12b0 : decide (x13_1 < a0_0) = false := decide_eq_false c12
     clear c12
     obtain rfl := Option.some.inj H
     go_wp2
     go_ret
     exact ⟨zE, zB2 HB GE193 GE194⟩
 ·replace c4 := Bool.eq_false_iff.mpr c4
  subst c4
  have H1 : (some false) = some r := by rw [if_neg (show ¬ (false = true) by decide)] at H; exact H
  clear H
  have H := H1
  clear H1
  obtain rfl := Option.some.inj H
  go_enter Try.func44, Try.ntmps44
  go_wp2_with (first | ((with_reducible refine gate_dst (N := 2) rfl ?_); refine box_event ?hg (N := 2) ?hd (cs := #[.int .i64 a0_0, .int .i64 a0_1]) (t := 25) ?hr ?_; (case hd => rfl); (case hg => rfl); (case hr => exact zH); intro gb193 hg w28 hbox hb; have BK193 := zA (hbox); have GW193 := zg HB hg; have GE193 := zg HB hg; replace HB := zA (below_step (zB HB) hb); clear hb hbox hg) | ((with_reducible refine gate_dst (N := 3) rfl ?_); refine box_event ?hg (N := 3) ?hd (cs := #[.int .i64 a1_0, .int .i64 a1_1]) (t := 33) ?hr ?_; (case hd => rfl); (case hg => rfl); (case hr => exact zH); intro gb194 hg w29 hbox hb; have BK194 := zA (hbox); have GW194 := zg1 HB GE193 hg; have GE194 := zg1 HB GE193 hg; have NB193_194 := zn BK193 hg; have NB194_193 := zo BK193 hg; replace BK193 := zb BK193 hb; replace HB := zA (below_step (zB1 HB GE193) hb); clear hb hbox hg; have hnb30 := NB193_194.out; have hnc30 := NB194_193.out; have hcz31_0 := zc0 BK193; have hcz31_1 := zc1 BK193; have hfz31_0 := blk_frozen BK193.out 0; have hfz31_1 := blk_frozen BK193.out 1; have hcz32_0 := zc0 BK194; have hcz32_1 := zc1 BK194; have hfz32_0 := blk_frozen BK194.out 0; have hfz32_1 := blk_frozen BK194.out 1) | ((with_reducible refine gate_callee (f := 45) rfl ?_); refine goesL_ (some 9) rfl rfl Try.func45 (by kernel_rfl) rfl #[.agg #[.int .i64 a0_0, .int .i64 a0_1], .agg #[.int .i64 a1_0, .int .i64 a1_1]] rfl zM ?_; (with_reducible refine (impl_Table_isImplicant.calls a0_0 a0_1 a1_0 a1_1 false _ A3.out).mono ?_); rintro e w33 ⟨rfl, hb⟩; refine ⟨_, rfl, ?_⟩; replace BK193 := zb BK193 hb; replace BK194 := zb BK194 hb; replace HB := zA (below_step (zB2 HB GE193 GE194) hb); (try clear hb); (try clear hb2); (try clear hk); (try clear hi)))
  go_ret
  exact ⟨zE, zB2 HB GE193 GE194⟩

/-! ### impl_Table_primes: function 40 -/
mutual
def impl_Table_primes.l0 : Nat → List (S33) → Int → Int → Int → Int → Option ((List (S33)))
 | 0, _, _, _, _, _ => none
 | k + 1, x3, x8, x9, x198000, x198001 => if x9 < x8 then (impl_Table_primes.l1 k x3 x9 x8 x9 (wrap64 (x9 + 1)) 0 x198000 x198001) else (some x3)
def impl_Table_primes.l1 : Nat → List (S33) → Int → Int → Int → Int → Int → Int → Int → Option ((List (S33)))
 | 0, _, _, _, _, _, _, _, _ => none
 | k + 1, x3, x4, x8, x9, x13, x14, x198000, x198001 => if x14 < x13 then (if (Go.bits .andNot .i64 x14 x4) = 0 then ((impl_Table_isPrime.f k x198000 x198001 x4 x14).bind fun t200 => (if t200 = true then (if x3.length < 8796093022208 then (impl_Table_primes.l1 k (x3 ++ [(⟨x4, x14⟩ : S33)]) x4 x8 x9 x13 (wrap64 (x14 + 1)) x198000 x198001) else (none)) else (impl_Table_primes.l1 k x3 x4 x8 x9 x13 (wrap64 (x14 + 1)) x198000 x198001))) else (impl_Table_primes.l1 k x3 x4 x8 x9 x13 (wrap64 (x14 + 1)) x198000 x198001)) else (impl_Table_primes.l0 k x3 x8 (wrap64 (x9 + 1)) x198000 x198001)
end
def impl_Table_primes.f (k : Nat) (a0_0 : Int) (a0_1 : Int) : Option ((List (S33))) := (impl_Table_size.f a0_0 a0_1).bind fun t198 => (impl_Table_primes.l0 k ([] : List (S33)) t198 0 a0_0 a0_1)
theorem impl_Table_primes.mono_l : ∀ k, (∀ y0 y1 y2 y3 y4, LeO (impl_Table_primes.l0 k y0 y1 y2 y3 y4) (impl_Table_primes.l0 (k + 1) y0 y1 y2 y3 y4)) ∧ (∀ y0 y1 y2 y3 y4 y5 y6 y7, LeO (impl_Table_primes.l1 k y0 y1 y2 y3 y4 y5 y6 y7) (impl_Table_primes.l1 (k + 1) y0 y1 y2 y3 y4 y5 y6 y7))
 | 0 => ⟨fun _ _ _ _ _ r h => by simp [impl_Table_primes.l0] at h, fun _ _ _ _ _ _ _ _ r h => by simp [impl_Table_primes.l1] at h⟩
 | k + 1 => by
  obtain ⟨ih0, ih1⟩ := impl_Table_primes.mono_l k
  refine ⟨?_, ?_⟩
  ·intro y0 y1 y2 y3 y4
   unfold impl_Table_primes.l0
   repeat' first
   | (with_reducible exact ih0 _ _ _ _ _)
   | (with_reducible exact ih1 _ _ _ _ _ _ _ _)
   | (with_reducible exact impl_Table_isPrime.mono _ _ _ _ _)
   | (with_reducible exact LeO.refl _)
   | (with_reducible exact LeO.none _)
   | (with_reducible refine LeO.ite ?_ ?_)
   | (with_reducible refine LeO.bind ?_ (fun _ => ?_))
   | exact ih0 _ _ _ _ _
   | exact ih1 _ _ _ _ _ _ _ _
   | exact impl_Table_isPrime.mono _ _ _ _ _
   | exact LeO.none _
   | refine LeO.ite ?_ ?_
   | refine LeO.bind ?_ (fun _ => ?_)
  ·intro y0 y1 y2 y3 y4 y5 y6 y7
   unfold impl_Table_primes.l1
   repeat' first
   | (with_reducible exact ih0 _ _ _ _ _)
   | (with_reducible exact ih1 _ _ _ _ _ _ _ _)
   | (with_reducible exact impl_Table_isPrime.mono _ _ _ _ _)
   | (with_reducible exact LeO.refl _)
   | (with_reducible exact LeO.none _)
   | (with_reducible refine LeO.ite ?_ ?_)
   | (with_reducible refine LeO.bind ?_ (fun _ => ?_))
   | exact ih0 _ _ _ _ _
   | exact ih1 _ _ _ _ _ _ _ _
   | exact impl_Table_isPrime.mono _ _ _ _ _
   | exact LeO.none _
   | refine LeO.ite ?_ ?_
   | refine LeO.bind ?_ (fun _ => ?_)
theorem impl_Table_primes.mono : ∀ a0 a1 k, LeO (impl_Table_primes.f k a0 a1) (impl_Table_primes.f (k + 1) a0 a1) := by
 intro a0 a1 k
 obtain ⟨ih0, ih1⟩ := impl_Table_primes.mono_l k
 unfold impl_Table_primes.f
 repeat' first
   | (with_reducible exact ih0 _ _ _ _ _)
   | (with_reducible exact ih1 _ _ _ _ _ _ _ _)
   | (with_reducible exact impl_Table_isPrime.mono _ _ _ _ _)
   | (with_reducible exact LeO.refl _)
   | (with_reducible exact LeO.none _)
   | (with_reducible refine LeO.ite ?_ ?_)
   | (with_reducible refine LeO.bind ?_ (fun _ => ?_))
   | exact ih0 _ _ _ _ _
   | exact ih1 _ _ _ _ _ _ _ _
   | exact impl_Table_isPrime.mono _ _ _ _ _
   | exact LeO.none _
   | refine LeO.ite ?_ ?_
   | refine LeO.bind ?_ (fun _ => ?_)
set_option maxHeartbeats 8000000 in
set_option maxRecDepth 100000 in
theorem impl_Table_primes.calls (k : Nat) (a0_0 : Int) (a0_1 : Int) (r : List (S33)) (w : World) (h : impl_Table_primes.f k a0_0 a0_1 = some r) :
  Calls Try.prog 40 #[.agg #[.int .i64 a0_0, .int .i64 a0_1]] w fun e w' => ∃ v0_ : Value, e = .returned (v0_) ∧ Kd.R k33 33 w' w.heap.size (fun _ => True) v0_ r ∧ Below w.heap.size w w' := by
 have hu25 := Try.underlying25
 have hu33 := Try.underlying33
 have HB := zA (Below.refl w.heap.size w)
 have H := h
 unfold impl_Table_primes.f at H
 clear h
 replace H := Option.bind_eq_some_iff.mp H
 obtain ⟨t198, A20, H⟩ := H
 replace H : (impl_Table_primes.l0 k ([] : List (S33)) t198 0 a0_0 a0_1) = some r := H
 have A2 := zA A20
 clear A20
 have H' := zA H
 clear H
 go_enter Try.func40, Try.ntmps40
 go_wp2_with (first | ((with_reducible refine gate_dst (N := 1) rfl ?_); refine box_event ?hg (N := 1) ?hd (cs := #[.int .i64 a0_0, .int .i64 a0_1]) (t := 25) ?hr ?_; (case hd => rfl); (case hg => rfl); (case hr => exact zH); intro gb197 hg w3 hbox hb; have BK197 := zA (hbox); have GW197 := zg HB hg; have GE197 := zg HB hg; replace HB := zA (below_step (zB HB) hb); clear hb hbox hg; have hcz4_0 := zc0 BK197; have hcz4_1 := zc1 BK197; have hfz4_0 := blk_frozen BK197.out 0; have hfz4_1 := blk_frozen BK197.out 1) | ((with_reducible refine gate_callee (f := 63) rfl ?_); refine goesL_ (some 8) rfl rfl Try.func63 (by kernel_rfl) rfl #[.agg #[.int .i64 a0_0, .int .i64 a0_1]] rfl zM ?_; (with_reducible refine (impl_Table_size.calls a0_0 a0_1 t198 _ A2.out).mono ?_); rintro e w5 ⟨rfl, hb⟩; refine ⟨_, rfl, ?_⟩; replace BK197 := zb BK197 hb; replace HB := zA (below_step (zB1 HB GE197) hb); (try clear hb); (try clear hb2); (try clear hk); (try clear hi)))
 go_loopg [3, 9] k (fun kq v3 v9 w' => ∃ (x3_1 : List (S33)) (x9_1 : Int), v9 = .int .i64 x9_1 ∧ Aside0 (impl_Table_primes.l0 kq x3_1 t198 x9_1 a0_0 a0_1 = some r) ∧ Aside0 (kq ≤ k) ∧ Aside0 (Kd.R k33 33 w' w.heap.size (fun _ => True) v3 x3_1) ∧ Aside0 (w'.heap[gb197]? = some (.cells #[.int .i64 a0_0, .int .i64 a0_1] 25 (0, 0))) ∧ Aside0 (Below w.heap.size w w'))
 case atStart => exact ⟨(([] : List (S33))), (0), zS, H', ⟨Nat.le_refl _⟩, ⟨by first | exact Kd.R_nil _ _ _ _ _ | exact Kd.N_nil _ _ _ _ _ | exact Kd.V_nil _ _ _ _ _ | exact Kd.Q_nil _ _ _ _ _ | exact Kd.S_nil _ _ _ _ _⟩, ⟨zD BK197⟩, ⟨zB1 HB GE197⟩⟩
 case round =>
  clear H'
  try clear hcz4_0
  try clear hcz4_1
  try clear hfz4_0
  try clear hfz4_1
  obtain ⟨x3_1, x9_1, rfl, HA, HK1, HO_3, BK197, HB⟩ := hrel
  cases gk with
  | zero => exact absurd HA.out (by simp [impl_Table_primes.l0])
  | succ k1 =>
   have H := HA.out
   clear HA
   simp only [impl_Table_primes.l0] at H
   by_cases c6 : x9_1 < t198
   ·rw [if_pos c6] at H
    have c6b0 : decide (x9_1 < t198) = true := decide_eq_true c6
    clear c6
    have H' := zA H
    clear H
    go_wp2
    go_loopg [3, 14] k1 (fun kq v3 v14 w' => ∃ (x3_2 : List (S33)) (x14_2 : Int), v14 = .int .i64 x14_2 ∧ Aside0 (impl_Table_primes.l1 kq x3_2 x9_1 t198 x9_1 (wrap64 (x9_1 + 1)) x14_2 a0_0 a0_1 = some r) ∧ Aside0 (kq ≤ k1) ∧ Aside0 (Kd.R k33 33 w' w.heap.size (fun _ => True) v3 x3_2) ∧ Aside0 (w'.heap[gb197]? = some (.cells #[.int .i64 a0_0, .int .i64 a0_1] 25 (0, 0))) ∧ Aside0 (Below w.heap.size w w'))
    case atStart => exact ⟨(x3_1), (0), zS, H', ⟨Nat.le_refl _⟩, ⟨zR HO_3⟩, ⟨zD BK197⟩, ⟨zB1 HB GE197⟩⟩
    case round =>
     clear H'
     try clear c6
     try clear c6b0
     try clear hcz4_0
     try clear hcz4_1
     try clear hfz4_0
     try clear hfz4_1
     obtain ⟨x3_2, x14_2, rfl, HA, HK2, HO_3, BK197, HB⟩ := hrel
     cases gk with
     | zero => exact absurd HA.out (by simp [impl_Table_primes.l1])
     | succ k2 =>
      have H := HA.out
      clear HA
      simp only [impl_Table_primes.l1] at H
      by_cases c7 : x14_2 < (wrap64 (x9_1 + 1))
      ·rw [if_pos c7] at H
       have c7b0 : decide (x14_2 < (wrap64 (x9_1 + 1))) = true := decide_eq_true c7
       clear c7
       by_cases c8 : (Go.bits .andNot .i64 x14_2 x9_1) = 0
       ·rw [if_pos c8] at H
        have c8b0 : ((Go.bits .andNot .i64 x14_2 x9_1) == 0) = true := beq_iff_eq.mpr c8
        have c8b1 : ((Go.bits .andNot .i64 x14_2 x9_1) != 0) = false := bne_eq_false_iff_eq.mpr c8
        clear c8
        replace H := Option.bind_eq_some_iff.mp H
        obtain ⟨t200, A90, H⟩ := H
        replace H : (if t200 = true then (if x3_2.length < 8796093022208 then (impl_Table_primes.l1 k2 (x3_2 ++ [(⟨x9_1, x14_2⟩ : S33)]) x9_1 t198 x9_1 (wrap64 (x9_1 + 1)) (wrap64 (x14_2 + 1)) a0_0 a0_1) else (none)) else (impl_Table_primes.l1 k2 x3_2 x9_1 t198 x9_1 (wrap64 (x9_1 + 1)) (wrap64 (x14_2 + 1)) a0_0 a0_1)) = some r := H
        have A9 := zA A90
        clear A90
        by_cases c10 : t200 = true
        ·subst c10
         have H1 : (if x3_2.length < 8796093022208 then (impl_Table_primes.l1 k2 (x3_2 ++ [(⟨x9_1, x14_2⟩ : S33)]) x9_1 t198 x9_1 (wrap64 (x9_1 + 1)) (wrap64 (x14_2 + 1)) a0_0 a0_1) else (none)) = some r := by rw [if_pos rfl] at H; exact H
         clear H
         have H := H1
         clear H1
         by_cases c11 : x3_2.length < 8796093022208
         ·rw [if_pos c11] at H
          have LMc11 := zA c11
          clear c11
          obtain ⟨y201, hy201⟩ : ∃ y_ : List (S33), y_ = (x3_2 ++ [(⟨x9_1, x14_2⟩ : S33)]) := ⟨_, rfl⟩
          replace H : (impl_Table_primes.l1 k2 y201 x9_1 t198 x9_1 (wrap64 (x9_1 + 1)) (wrap64 (x14_2 + 1)) a0_0 a0_1) = some r := by first | (rw [hy201]; with_reducible exact H) | (have H2_ := (Option.bind_some _ _).symm.trans H; rw [hy201]; with_reducible exact H2_) | (have H2_ := (Option.bind_some _ _).symm.trans H; with_reducible exact H2_) | with_reducible exact H | (rw [hy201]; exact H) | exact H
          have Ny201 := zA hy201
          clear hy201
          have H' := zA H
          clear H
          go_wp2_with (first | ((with_reducible refine gate_dst (N := 6) rfl ?_); refine box_event ?hg (N := 6) ?hd (cs := #[.int .i64 0, .int .i64 0]) (t := 33) ?hr ?_; (case hd => rfl); (case hg => rfl); (case hr => exact zH); intro gb199 hg w12 hbox hb; have BK199 := zA (hbox); have GW199 := zg1 HB GE197 hg; have GE199 := zg1 HB GE197 hg; have NB197_199 := zn BK197 hg; have NB199_197 := zo BK197 hg; replace HO_3 := zA (Kd.R_below (Kd.R_elderB (zR HO_3) gb199 (Nat.le_of_eq hg.symm)) hb); replace BK197 := zb BK197 hb; replace HB := zA (below_step (zB1 HB GE197) hb); clear hb hbox hg; have hnb13 := NB199_197.out; have hnc13 := NB197_199.out; have hcz14_0 := zc0 BK199; have hcz14_1 := zc1 BK199; have hfz14_0 := blk_frozen BK199.out 0; have hfz14_1 := blk_frozen BK199.out 1; have hcz15_0 := zc0 BK197; have hcz15_1 := zc1 BK197; have hfz15_0 := blk_frozen BK197.out 0; have hfz15_1 := blk_frozen BK197.out 1) | (go_at_call 44; (with_reducible refine (impl_Table_isPrime.calls k2 a0_0 a0_1 x9_1 x14_2 true _ A9.out).mono ?_); rintro e w16 ⟨rfl, hb⟩; replace HO_3 := zA (Kd.R_below (by (with_reducible repeat (first | apply Kd.R_alloc | apply Kd.R_drewN | apply Kd.R_drew)); exact (Kd.R_mono (Kd.R_far (p := ⟨gb199, 1, none⟩) (Kd.R_far (p := ⟨gb199, 0, none⟩) (Kd.R_mono HO_3.out (fun k_ hk => (⟨hk, hk.2⟩ : _ ∧ k_ ≠ gb199))) (fun _ hk => hk.2) (.int .i64 x9_1)) (fun _ hk => hk.2) (.int .i64 x14_2)) (fun _ h_ => h_.1))) hb); replace BK197 := zf BK197 NB197_199 hb; replace BK199 := zp BK199 hb; replace HB := zA (below_step (zB2 HB GE197 GE199) hb); (try clear hb); (try clear hb2); (try clear hk); (try clear hi); have hcz17_0 := zc0 BK199; have hcz17_1 := zc1 BK199; have hfz17_0 := blk_frozen BK199.out 0; have hfz17_1 := blk_frozen BK199.out 1) | ((with_reducible refine gate_builtin (b := .append) (xs := #[.tmp 29, .tmp 31]) rfl ?_); at_builtin; refine Kd.R_append k33 (w0 := w) w.heap.size rfl (.tmp 29) (.tmp 31) 27 33 (.agg #[(.int .i64 0), (.int .i64 0)]) 16 rfl Try.underlying27 info33 rfl (by decide) (by omega) u3 x3_2 (⟨x9_1, x14_2⟩ : S33) [.int .i64 x9_1, .int .i64 x14_2] (fun k_ => k_ ≠ gb199) (fun _ => False) rfl rfl ?aP (fun _ hk => hk.elim) ?aF ?aO ?aB ?aS ?aL ?_; (case aP => exact k33_mkM _ _ _ (⟨x9_1, x14_2⟩ : S33)); (case aB => exact (zB2 HB GE197 GE199)); (case aF => exact (fun k_ hk => Kd.freshB (g := gb199) (o := .cells #[.int .i64 x9_1, .int .i64 x14_2] 33 (0, 0)) (zD BK199) k_ hk)); (case aO => exact (by (with_reducible repeat (first | apply Kd.R_alloc | apply Kd.R_drewN | apply Kd.R_drew)); exact Kd.R_mono HO_3.out (fun _ hk => hk.2))); (case aS => exact (below_size (zB2 HB GE197 GE199))); (case aL => have := LMc11.out; omega); intro v202 w18 ho hb hg hat; rw [← Ny201.out] at ho; have n0_ := zA (blk_grown (g := gb197) (o := .cells #[.int .i64 a0_0, .int .i64 a0_1] 25 (0, 0)) (zD BK197) hg (Kd.R_ne HO_3.out BK197.out (by decide))); have n1_ := zA (blk_grown (g := gb199) (o := .cells #[.int .i64 x9_1, .int .i64 x14_2] 33 (0, 0)) (zD BK199) hg (Kd.R_away HO_3.out (fun _ hk => hk.2))); have n2_ := zA (hb); have n3_ := zA (ho); clear BK197; clear BK199; clear HB; clear HO_3; have BK197 := n0_; have BK199 := n1_; have HB := n2_; have HO203 := n3_; clear n0_ n1_ n2_ n3_; clear ho hb hg hat))
          go_roundg k2
          case measure => have := HK1.out; have := HK2.out; omega
          case rel => exact ⟨(y201), (wrap64 (x14_2 + 1)), zS, H', ⟨by have := HK1.out; have := HK2.out; omega⟩, ⟨by (with_reducible repeat (first | apply Kd.R_alloc | apply Kd.R_drewN | apply Kd.R_drew)); exact Kd.R_mono HO203.out (fun _ hk => trivial)⟩, ⟨zD BK197⟩, ⟨zB2 HB GE197 GE199⟩⟩
         ·rw [if_neg c11] at H
          exact absurd H (by simp)
        ·replace c10 := Bool.eq_false_iff.mpr c10
         subst c10
         have H1 : (impl_Table_primes.l1 k2 x3_2 x9_1 t198 x9_1 (wrap64 (x9_1 + 1)) (wrap64 (x14_2 + 1)) a0_0 a0_1) = some r := by rw [if_neg (show ¬ (false = true) by decide)] at H; exact H
         clear H
         have H := H1
         clear H1
         have H' := zA H
         clear H
         go_wp2_with (first | ((with_reducible refine gate_dst (N := 6) rfl ?_); refine box_event ?hg (N := 6) ?hd (cs := #[.int .i64 0, .int .i64 0]) (t := 33) ?hr ?_; (case hd => rfl); (case hg => rfl); (case hr => exact zH); intro gb199 hg w19 hbox hb; have BK199 := zA (hbox); have GW199 := zg1 HB GE197 hg; have GE199 := zg1 HB GE197 hg; have NB197_199 := zn BK197 hg; have NB199_197 := zo BK197 hg; replace HO_3 := zA (Kd.R_below (Kd.R_elderB (zR HO_3) gb199 (Nat.le_of_eq hg.symm)) hb); replace BK197 := zb BK197 hb; replace HB := zA (below_step (zB1 HB GE197) hb); clear hb hbox hg; have hnb20 := NB199_197.out; have hnc20 := NB197_199.out; have hcz21_0 := zc0 BK199; have hcz21_1 := zc1 BK199; have hfz21_0 := blk_frozen BK199.out 0; have hfz21_1 := blk_frozen BK199.out 1; have hcz22_0 := zc0 BK197; have hcz22_1 := zc1 BK197; have hfz22_0 := blk_frozen BK197.out 0; have hfz22_1 := blk_frozen BK197.out 1) | (go_at_call 44; (with_reducible refine (impl_Table_isPrime.calls k2 a0_0 a0_1 x9_1 x14_2 false _ A9.out).mono ?_); rintro e w23 ⟨rfl, hb⟩; replace HO_3 := zA (Kd.R_below (by (with_reducible repeat (first | apply Kd.R_alloc | apply Kd.R_drewN | apply Kd.R_drew)); exact (Kd.R_mono (Kd.R_far (p := ⟨gb199, 1, none⟩) (Kd.R_far (p := ⟨gb199, 0, none⟩) (Kd.R_mono HO_3.out (fun k_ hk => (⟨hk, hk.2⟩ : _ ∧ k_ ≠ gb199))) (fun _ hk => hk.2) (.int .i64 x9_1)) (fun _ hk => hk.2) (.int .i64 x14_2)) (fun _ h_ => h_.1))) hb); replace BK197 := zf BK197 NB197_199 hb; replace BK199 := zp BK199 hb; replace HB := zA (below_step (zB2 HB GE197 GE199) hb); (try clear hb); (try clear hb2); (try clear hk); (try clear hi)))
         go_roundg k2
         case measure => have := HK1.out; have := HK2.out; omega
         case rel => exact ⟨(x3_2), (wrap64 (x14_2 + 1)), zS, H', ⟨by have := HK1.out; have := HK2.out; omega⟩, ⟨by (with_reducible repeat (first | apply Kd.R_alloc | apply Kd.R_drewN | apply Kd.R_drew)); exact Kd.R_mono HO_3.out (fun _ hk => trivial)⟩, ⟨zD BK197⟩, ⟨zB2 HB GE197 GE199⟩⟩
       ·rw [if_neg c8] at H
        have c8b0 : ((Go.bits .andNot .i64 x14_2 x9_1) == 0) = false := beq_eq_false_iff_ne.mpr c8
        have c8b1 : ((Go.bits .andNot .i64 x14_2 x9_1) != 0) = true := bne_iff_ne.mpr c8
        have H' := zA H
        clear H
        go_wp2_with (first | ((with_reducible refine gate_dst (N := 6) rfl ?_); refine box_event ?hg (N := 6) ?hd (cs := #[.int .i64 0, .int .i64 0]) (t := 33) ?hr ?_; (case hd => rfl); (case hg => rfl); (case hr => exact zH); intro gb199 hg w24 hbox hb; have BK199 := zA (hbox); have GW199 := zg1 HB GE197 hg; have GE199 := zg1 HB GE197 hg; have NB197_199 := zn BK197 hg; have NB199_197 := zo BK197 hg; replace HO_3 := zA (Kd.R_below (Kd.R_elderB (zR HO_3) gb199 (Nat.le_of_eq hg.symm)) hb); replace BK197 := zb BK197 hb; replace HB := zA (below_step (zB1 HB GE197) hb); clear hb hbox hg; have hnb25 := NB199_197.out; have hnc25 := NB197_199.out; have hcz26_0 := zc0 BK199; have hcz26_1 := zc1 BK199; have hfz26_0 := blk_frozen BK199.out 0; have hfz26_1 := blk_frozen BK199.out 1))
        go_roundg k2
        case measure => have := HK1.out; have := HK2.out; omega
        case rel => exact ⟨(x3_2), (wrap64 (x14_2 + 1)), zS, H', ⟨by have := HK1.out; have := HK2.out; omega⟩, ⟨by (with_reducible repeat (first | apply Kd.R_alloc | apply Kd.R_drewN | apply Kd.R_drew)); exact Kd.R_mono (Kd.R_far (p := ⟨gb199, 1, none⟩) (Kd.R_far (p := ⟨gb199, 0, none⟩) (Kd.R_mono HO_3.out (fun k_ hk => (⟨hk, hk.2⟩ : _ ∧ k_ ≠ gb199))) (fun _ hk => hk.2) (.int .i64 x9_1)) (fun _ hk => hk.2) (.int .i64 x14_2)) (fun _ hk => trivial)⟩, ⟨zF BK197 NB197_199⟩, ⟨zB2 HB GE197 GE199⟩⟩
      ·rw [if_neg c7] at H
       have c7b0 : decide (x14_2 < (wrap64 (x9_1 + 1))) = false := decide_eq_false c7
       clear c7
       have H' := zA H
       clear H
       go_wp2
       go_roundg k2
       case measure => have := HK1.out; have := HK2.out; omega
       case rel => exact ⟨(x3_2), (wrap64 (x9_1 + 1)), zS, H', ⟨by have := HK1.out; have := HK2.out; omega⟩, ⟨zR HO_3⟩, ⟨zD BK197⟩, ⟨zB1 HB GE197⟩⟩
   ·rw [if_neg c6] at H
    have c6b0 : decide (x9_1 < t198) = false := decide_eq_false c6
    clear c6
    obtain rfl := Option.some.inj H
    go_wp2
    go_ret
    exact ⟨_, zE, by (with_reducible repeat (first | apply Kd.R_alloc | apply Kd.R_drewN | apply Kd.R_drew)); exact HO_3.out, zB1 HB GE197⟩

end Go.Proofs.Ytfiejicdlaknnaa.P
