/- The functions that this seat's laws reach, each as a plain Lean function, and the walk of each; written by a program over the kit's print. No conditions but those that stand in the theorems. -/
import Derived.Test.YtijpcemcijaeeaaP0
import Derived.Test.YtijpcemcijaeeaaPm
import Derived.Test.YtijpcemcijaeeaaPy0
namespace Go.Proofs.Ytijpcemcijaeeaa.P
open Go.RowKit Go.Proofs.YtijpcemcijaeeaaW.PrintWords Go.Proofs.YtijpcemcijaeeaaW.PrintLast Go.Proofs.YtijpcemcijaeeaaW.PrintMore
attribute [local go_sem] max2_int min2_int max_two min_two max_three min_three max_four min_four   -- for this text's walks alone
set_option linter.unusedVariables false
set_option linter.unusedSimpArgs false

attribute [local go_sem] fld23_0 fld23_1
/-! ### impl_hasVariable: function 86 -/
def impl_hasVariable.f (a0_0 : Int) (a0_1 : Int) (a1 : Int) : Option (Bool) := (impl_IsTable.f a0_0 a0_1).bind fun t173 => (if t173 = true then (if a1 ≥ 0 then (some (decide (a1 < a0_0))) else (some false)) else (some false))
set_option maxHeartbeats 8000000 in
set_option maxRecDepth 100000 in
theorem impl_hasVariable.calls (a0_0 : Int) (a0_1 : Int) (a1 : Int) (r : Bool) (w : World) (h : impl_hasVariable.f a0_0 a0_1 a1 = some r) :
  Calls Try.prog 86 #[.agg #[.int .i64 a0_0, .int .i64 a0_1], .int .i64 a1] w fun e w' => e = .returned (.bool r) ∧ Below w.heap.size w w' := by
 have hu23 := Try.underlying23
 have HB := zA (Below.refl w.heap.size w)
 have H := h
 unfold impl_hasVariable.f at H
 clear h
 replace H := Option.bind_eq_some_iff.mp H
 obtain ⟨t173, A30, H⟩ := H
 replace H : (if t173 = true then (if a1 ≥ 0 then (some (decide (a1 < a0_0))) else (some false)) else (some false)) = some r := H
 have A3 := zA A30
 clear A30
 by_cases c4 : t173 = true
 ·subst c4
  have H1 : (if a1 ≥ 0 then (some (decide (a1 < a0_0))) else (some false)) = some r := by rw [if_pos rfl] at H; exact H
  clear H
  have H := H1
  clear H1
  by_cases c5 : a1 ≥ 0
  ·rw [if_pos c5] at H
   have c5b0 : decide (0 ≤ a1) = true := decide_eq_true c5
   clear c5
   obtain rfl := Option.some.inj H
   go_enter Try.func86, Try.ntmps86
   go_wp2_with (first | ((with_reducible refine gate_dst (N := 2) rfl ?_); refine box_event ?hg (N := 2) ?hd (cs := #[.int .i64 a0_0, .int .i64 a0_1]) (t := 23) ?hr ?_; (case hd => rfl); (case hg => rfl); (case hr => exact zH); intro gb172 hg w6 hbox hb; have BK172 := zA (hbox); have GW172 := zg HB hg; have GE172 := zg HB hg; replace HB := zA (below_step (zB HB) hb); clear hb hbox hg; have hcz7_0 := zc0 BK172; have hcz7_1 := zc1 BK172; have hfz7_0 := blk_frozen BK172.out 0; have hfz7_1 := blk_frozen BK172.out 1) | ((with_reducible refine gate_callee (f := 80) rfl ?_); refine goesL_ (some 6) rfl rfl Try.func80 (by kernel_rfl) rfl #[.agg #[.int .i64 a0_0, .int .i64 a0_1]] rfl zM ?_; (with_reducible refine (impl_IsTable.calls a0_0 a0_1 true _ A3.out).mono ?_); rintro e w8 ⟨rfl, hb⟩; refine ⟨_, rfl, ?_⟩; replace BK172 := zb BK172 hb; replace HB := zA (below_step (zB1 HB GE172) hb); (try clear hb); (try clear hb2); (try clear hk); (try clear hi); have hcz9_0 := zc0 BK172; have hcz9_1 := zc1 BK172; have hfz9_0 := blk_frozen BK172.out 0; have hfz9_1 := blk_frozen BK172.out 1))
   go_ret
   exact ⟨by first | rfl | (simp [errW_none, errW_some] <;> rfl) | (simp [*, errW_none, errW_some] <;> rfl), zB1 HB GE172⟩
  ·rw [if_neg c5] at H
   have c5b0 : decide (0 ≤ a1) = false := decide_eq_false c5
   clear c5
   obtain rfl := Option.some.inj H
   go_enter Try.func86, Try.ntmps86
   go_wp2_with (first | ((with_reducible refine gate_dst (N := 2) rfl ?_); refine box_event ?hg (N := 2) ?hd (cs := #[.int .i64 a0_0, .int .i64 a0_1]) (t := 23) ?hr ?_; (case hd => rfl); (case hg => rfl); (case hr => exact zH); intro gb172 hg w10 hbox hb; have BK172 := zA (hbox); have GW172 := zg HB hg; have GE172 := zg HB hg; replace HB := zA (below_step (zB HB) hb); clear hb hbox hg; have hcz11_0 := zc0 BK172; have hcz11_1 := zc1 BK172; have hfz11_0 := blk_frozen BK172.out 0; have hfz11_1 := blk_frozen BK172.out 1) | ((with_reducible refine gate_callee (f := 80) rfl ?_); refine goesL_ (some 6) rfl rfl Try.func80 (by kernel_rfl) rfl #[.agg #[.int .i64 a0_0, .int .i64 a0_1]] rfl zM ?_; (with_reducible refine (impl_IsTable.calls a0_0 a0_1 true _ A3.out).mono ?_); rintro e w12 ⟨rfl, hb⟩; refine ⟨_, rfl, ?_⟩; replace BK172 := zb BK172 hb; replace HB := zA (below_step (zB1 HB GE172) hb); (try clear hb); (try clear hb2); (try clear hk); (try clear hi)))
   go_ret
   exact ⟨by first | rfl | (simp [errW_none, errW_some] <;> rfl) | (simp [*, errW_none, errW_some] <;> rfl), zB1 HB GE172⟩
 ·replace c4 := Bool.eq_false_iff.mpr c4
  subst c4
  have H1 : (some false) = some r := by rw [if_neg (show ¬ (false = true) by decide)] at H; exact H
  clear H
  have H := H1
  clear H1
  obtain rfl := Option.some.inj H
  go_enter Try.func86, Try.ntmps86
  go_wp2_with (first | ((with_reducible refine gate_dst (N := 2) rfl ?_); refine box_event ?hg (N := 2) ?hd (cs := #[.int .i64 a0_0, .int .i64 a0_1]) (t := 23) ?hr ?_; (case hd => rfl); (case hg => rfl); (case hr => exact zH); intro gb172 hg w13 hbox hb; have BK172 := zA (hbox); have GW172 := zg HB hg; have GE172 := zg HB hg; replace HB := zA (below_step (zB HB) hb); clear hb hbox hg; have hcz14_0 := zc0 BK172; have hcz14_1 := zc1 BK172; have hfz14_0 := blk_frozen BK172.out 0; have hfz14_1 := blk_frozen BK172.out 1) | ((with_reducible refine gate_callee (f := 80) rfl ?_); refine goesL_ (some 6) rfl rfl Try.func80 (by kernel_rfl) rfl #[.agg #[.int .i64 a0_0, .int .i64 a0_1]] rfl zM ?_; (with_reducible refine (impl_IsTable.calls a0_0 a0_1 false _ A3.out).mono ?_); rintro e w15 ⟨rfl, hb⟩; refine ⟨_, rfl, ?_⟩; replace BK172 := zb BK172 hb; replace HB := zA (below_step (zB1 HB GE172) hb); (try clear hb); (try clear hb2); (try clear hk); (try clear hi)))
  go_ret
  exact ⟨by first | rfl | (simp [errW_none, errW_some] <;> rfl) | (simp [*, errW_none, errW_some] <;> rfl), zB1 HB GE172⟩

/-! ### impl_areTables: function 90 -/
def impl_areTables.f (a0_0 : Int) (a0_1 : Int) (a1_0 : Int) (a1_1 : Int) : Option (Bool) := (impl_IsTable.f a0_0 a0_1).bind fun t202 => (if t202 = true then ((impl_IsTable.f a1_0 a1_1).bind fun t203 => (if t203 = true then (some (a0_0 == a1_0)) else (some false))) else (some false))
set_option maxHeartbeats 8000000 in
set_option maxRecDepth 100000 in
theorem impl_areTables.calls (a0_0 : Int) (a0_1 : Int) (a1_0 : Int) (a1_1 : Int) (r : Bool) (w : World) (h : impl_areTables.f a0_0 a0_1 a1_0 a1_1 = some r) :
  Calls Try.prog 90 #[.agg #[.int .i64 a0_0, .int .i64 a0_1], .agg #[.int .i64 a1_0, .int .i64 a1_1]] w fun e w' => e = .returned (.bool r) ∧ Below w.heap.size w w' := by
 have hu23 := Try.underlying23
 have HB := zA (Below.refl w.heap.size w)
 have H := h
 unfold impl_areTables.f at H
 clear h
 replace H := Option.bind_eq_some_iff.mp H
 obtain ⟨t202, A30, H⟩ := H
 replace H : (if t202 = true then ((impl_IsTable.f a1_0 a1_1).bind fun t203 => (if t203 = true then (some (a0_0 == a1_0)) else (some false))) else (some false)) = some r := H
 have A3 := zA A30
 clear A30
 by_cases c4 : t202 = true
 ·subst c4
  have H1 : ((impl_IsTable.f a1_0 a1_1).bind fun t203 => (if t203 = true then (some (a0_0 == a1_0)) else (some false))) = some r := by rw [if_pos rfl] at H; exact H
  clear H
  have H := H1
  clear H1
  replace H := Option.bind_eq_some_iff.mp H
  obtain ⟨t203, A50, H⟩ := H
  replace H : (if t203 = true then (some (a0_0 == a1_0)) else (some false)) = some r := H
  have A5 := zA A50
  clear A50
  by_cases c6 : t203 = true
  ·subst c6
   have H1 : (some (a0_0 == a1_0)) = some r := by rw [if_pos rfl] at H; exact H
   clear H
   have H := H1
   clear H1
   obtain rfl := Option.some.inj H
   go_enter Try.func90, Try.ntmps90
   go_wp2_with (first | ((with_reducible refine gate_dst (N := 2) rfl ?_); refine box_event ?hg (N := 2) ?hd (cs := #[.int .i64 a0_0, .int .i64 a0_1]) (t := 23) ?hr ?_; (case hd => rfl); (case hg => rfl); (case hr => exact zH); intro gb200 hg w7 hbox hb; have BK200 := zA (hbox); have GW200 := zg HB hg; have GE200 := zg HB hg; replace HB := zA (below_step (zB HB) hb); clear hb hbox hg) | ((with_reducible refine gate_dst (N := 3) rfl ?_); refine box_event ?hg (N := 3) ?hd (cs := #[.int .i64 a1_0, .int .i64 a1_1]) (t := 23) ?hr ?_; (case hd => rfl); (case hg => rfl); (case hr => exact zH); intro gb201 hg w8 hbox hb; have BK201 := zA (hbox); have GW201 := zg1 HB GE200 hg; have GE201 := zg1 HB GE200 hg; have NB200_201 := zn BK200 hg; have NB201_200 := zo BK200 hg; replace BK200 := zb BK200 hb; replace HB := zA (below_step (zB1 HB GE200) hb); clear hb hbox hg; have hnb9 := NB200_201.out; have hnc9 := NB201_200.out; have hcz10_0 := zc0 BK200; have hcz10_1 := zc1 BK200; have hfz10_0 := blk_frozen BK200.out 0; have hfz10_1 := blk_frozen BK200.out 1) | ((with_reducible refine gate_callee (f := 80) rfl ?_); refine goesL_ (some 6) rfl rfl Try.func80 (by kernel_rfl) rfl #[.agg #[.int .i64 a0_0, .int .i64 a0_1]] rfl zM ?_; (with_reducible refine (impl_IsTable.calls a0_0 a0_1 true _ A3.out).mono ?_); rintro e w11 ⟨rfl, hb⟩; refine ⟨_, rfl, ?_⟩; replace BK200 := zb BK200 hb; replace BK201 := zb BK201 hb; replace HB := zA (below_step (zB2 HB GE200 GE201) hb); (try clear hb); (try clear hb2); (try clear hk); (try clear hi); have hcz12_0 := zc0 BK201; have hcz12_1 := zc1 BK201; have hfz12_0 := blk_frozen BK201.out 0; have hfz12_1 := blk_frozen BK201.out 1) | (go_at_call 80; (with_reducible refine (impl_IsTable.calls a1_0 a1_1 true _ A5.out).mono ?_); rintro e w13 ⟨rfl, hb⟩; replace BK200 := zb BK200 hb; replace BK201 := zb BK201 hb; replace HB := zA (below_step (zB2 HB GE200 GE201) hb); (try clear hb); (try clear hb2); (try clear hk); (try clear hi); have hcz14_0 := zc0 BK200; have hcz14_1 := zc1 BK200; have hfz14_0 := blk_frozen BK200.out 0; have hfz14_1 := blk_frozen BK200.out 1; have hcz15_0 := zc0 BK201; have hcz15_1 := zc1 BK201; have hfz15_0 := blk_frozen BK201.out 0; have hfz15_1 := blk_frozen BK201.out 1))
   go_ret
   exact ⟨by first | rfl | (simp [errW_none, errW_some] <;> rfl) | (simp [*, errW_none, errW_some] <;> rfl), zB2 HB GE200 GE201⟩
  ·replace c6 := Bool.eq_false_iff.mpr c6
   subst c6
   have H1 : (some false) = some r := by rw [if_neg (show ¬ (false = true) by decide)] at H; exact H
   clear H
   have H := H1
   clear H1
   obtain rfl := Option.some.inj H
   go_enter Try.func90, Try.ntmps90
   go_wp2_with (first | ((with_reducible refine gate_dst (N := 2) rfl ?_); refine box_event ?hg (N := 2) ?hd (cs := #[.int .i64 a0_0, .int .i64 a0_1]) (t := 23) ?hr ?_; (case hd => rfl); (case hg => rfl); (case hr => exact zH); intro gb200 hg w16 hbox hb; have BK200 := zA (hbox); have GW200 := zg HB hg; have GE200 := zg HB hg; replace HB := zA (below_step (zB HB) hb); clear hb hbox hg) | ((with_reducible refine gate_dst (N := 3) rfl ?_); refine box_event ?hg (N := 3) ?hd (cs := #[.int .i64 a1_0, .int .i64 a1_1]) (t := 23) ?hr ?_; (case hd => rfl); (case hg => rfl); (case hr => exact zH); intro gb201 hg w17 hbox hb; have BK201 := zA (hbox); have GW201 := zg1 HB GE200 hg; have GE201 := zg1 HB GE200 hg; have NB200_201 := zn BK200 hg; have NB201_200 := zo BK200 hg; replace BK200 := zb BK200 hb; replace HB := zA (below_step (zB1 HB GE200) hb); clear hb hbox hg; have hnb18 := NB200_201.out; have hnc18 := NB201_200.out; have hcz19_0 := zc0 BK200; have hcz19_1 := zc1 BK200; have hfz19_0 := blk_frozen BK200.out 0; have hfz19_1 := blk_frozen BK200.out 1) | ((with_reducible refine gate_callee (f := 80) rfl ?_); refine goesL_ (some 6) rfl rfl Try.func80 (by kernel_rfl) rfl #[.agg #[.int .i64 a0_0, .int .i64 a0_1]] rfl zM ?_; (with_reducible refine (impl_IsTable.calls a0_0 a0_1 true _ A3.out).mono ?_); rintro e w20 ⟨rfl, hb⟩; refine ⟨_, rfl, ?_⟩; replace BK200 := zb BK200 hb; replace BK201 := zb BK201 hb; replace HB := zA (below_step (zB2 HB GE200 GE201) hb); (try clear hb); (try clear hb2); (try clear hk); (try clear hi); have hcz21_0 := zc0 BK201; have hcz21_1 := zc1 BK201; have hfz21_0 := blk_frozen BK201.out 0; have hfz21_1 := blk_frozen BK201.out 1) | (go_at_call 80; (with_reducible refine (impl_IsTable.calls a1_0 a1_1 false _ A5.out).mono ?_); rintro e w22 ⟨rfl, hb⟩; replace BK200 := zb BK200 hb; replace BK201 := zb BK201 hb; replace HB := zA (below_step (zB2 HB GE200 GE201) hb); (try clear hb); (try clear hb2); (try clear hk); (try clear hi)))
   go_ret
   exact ⟨by first | rfl | (simp [errW_none, errW_some] <;> rfl) | (simp [*, errW_none, errW_some] <;> rfl), zB2 HB GE200 GE201⟩
 ·replace c4 := Bool.eq_false_iff.mpr c4
  subst c4
  have H1 : (some false) = some r := by rw [if_neg (show ¬ (false = true) by decide)] at H; exact H
  clear H
  have H := H1
  clear H1
  obtain rfl := Option.some.inj H
  go_enter Try.func90, Try.ntmps90
  go_wp2_with (first | ((with_reducible refine gate_dst (N := 2) rfl ?_); refine box_event ?hg (N := 2) ?hd (cs := #[.int .i64 a0_0, .int .i64 a0_1]) (t := 23) ?hr ?_; (case hd => rfl); (case hg => rfl); (case hr => exact zH); intro gb200 hg w23 hbox hb; have BK200 := zA (hbox); have GW200 := zg HB hg; have GE200 := zg HB hg; replace HB := zA (below_step (zB HB) hb); clear hb hbox hg) | ((with_reducible refine gate_dst (N := 3) rfl ?_); refine box_event ?hg (N := 3) ?hd (cs := #[.int .i64 a1_0, .int .i64 a1_1]) (t := 23) ?hr ?_; (case hd => rfl); (case hg => rfl); (case hr => exact zH); intro gb201 hg w24 hbox hb; have BK201 := zA (hbox); have GW201 := zg1 HB GE200 hg; have GE201 := zg1 HB GE200 hg; have NB200_201 := zn BK200 hg; have NB201_200 := zo BK200 hg; replace BK200 := zb BK200 hb; replace HB := zA (below_step (zB1 HB GE200) hb); clear hb hbox hg; have hnb25 := NB200_201.out; have hnc25 := NB201_200.out; have hcz26_0 := zc0 BK200; have hcz26_1 := zc1 BK200; have hfz26_0 := blk_frozen BK200.out 0; have hfz26_1 := blk_frozen BK200.out 1) | ((with_reducible refine gate_callee (f := 80) rfl ?_); refine goesL_ (some 6) rfl rfl Try.func80 (by kernel_rfl) rfl #[.agg #[.int .i64 a0_0, .int .i64 a0_1]] rfl zM ?_; (with_reducible refine (impl_IsTable.calls a0_0 a0_1 false _ A3.out).mono ?_); rintro e w27 ⟨rfl, hb⟩; refine ⟨_, rfl, ?_⟩; replace BK200 := zb BK200 hb; replace BK201 := zb BK201 hb; replace HB := zA (below_step (zB2 HB GE200 GE201) hb); (try clear hb); (try clear hb2); (try clear hk); (try clear hi)))
  go_ret
  exact ⟨by first | rfl | (simp [errW_none, errW_some] <;> rfl) | (simp [*, errW_none, errW_some] <;> rfl), zB2 HB GE200 GE201⟩

/-! ### impl_JoinTables: function 32 -/
mutual
def impl_JoinTables.j0 : Nat → Int → Bool → Int → Int → Int → Int → Option (Int × Int × Bool)
 | 0, _, _, _, _, _, _ => none
 | k + 1, x2, x28, x205000, x205001, x206000, x206001 => if x28 = true then (some (0, 0, false)) else ((impl_Table_size.f x205000 x205001).bind fun t209 => (impl_JoinTables.l0 k x2 t209 0 x205000 x205001 x206000 x206001 (wrap64 (x205000 + 1)) 0))
def impl_JoinTables.l0 : Nat → Int → Int → Int → Int → Int → Int → Int → Int → Int → Option (Int × Int × Bool)
 | 0, _, _, _, _, _, _, _, _, _ => none
 | k + 1, x2, x35, x36, x205000, x205001, x206000, x206001, x209000, x209001 => if x36 < x35 then ((impl_Table_at.f x205000 x205001 x36).bind fun t210 => ((impl_spread.f x36 x2 0).bind fun t211 => (if 0 ≤ t211 then ((impl_Table_at.f x206000 x206001 x36).bind fun t212 => ((impl_spread.f x36 x2 1).bind fun t213 => (if 0 ≤ t213 then (impl_JoinTables.l0 k x2 x35 (wrap64 (x36 + 1)) x205000 x205001 x206000 x206001 x209000 (Go.bits .or .i64 x209001 (Go.bits .or .i64 (shl .i64 t210 t211) (shl .i64 t212 t213)))) else (none)))) else (none)))) else (some (x209000, x209001, true))
end
def impl_JoinTables.f (k : Nat) (a0_0 : Int) (a0_1 : Int) (a1_0 : Int) (a1_1 : Int) (a2 : Int) : Option (Int × Int × Bool) := (impl_areTables.f a0_0 a0_1 a1_0 a1_1).bind fun t207 => (if t207 = true then (if a0_0 ≥ 5 then (impl_JoinTables.j0 k a2 true a0_0 a0_1 a1_0 a1_1) else (if a2 < 0 then (impl_JoinTables.j0 k a2 true a0_0 a0_1 a1_0 a1_1) else (impl_JoinTables.j0 k a2 (decide (a2 > a0_0)) a0_0 a0_1 a1_0 a1_1))) else (impl_JoinTables.j0 k a2 true a0_0 a0_1 a1_0 a1_1))
theorem impl_JoinTables.mono_l : ∀ k, (∀ y0 y1 y2 y3 y4 y5, LeO (impl_JoinTables.j0 k y0 y1 y2 y3 y4 y5) (impl_JoinTables.j0 (k + 1) y0 y1 y2 y3 y4 y5)) ∧ (∀ y0 y1 y2 y3 y4 y5 y6 y7 y8, LeO (impl_JoinTables.l0 k y0 y1 y2 y3 y4 y5 y6 y7 y8) (impl_JoinTables.l0 (k + 1) y0 y1 y2 y3 y4 y5 y6 y7 y8))
 | 0 => ⟨fun _ _ _ _ _ _ r h => by simp [impl_JoinTables.j0] at h, fun _ _ _ _ _ _ _ _ _ r h => by simp [impl_JoinTables.l0] at h⟩
 | k + 1 => by
  obtain ⟨ih0, ih1⟩ := impl_JoinTables.mono_l k
  refine ⟨?_, ?_⟩
  ·intro y0 y1 y2 y3 y4 y5
   unfold impl_JoinTables.j0
   repeat' first
   | (with_reducible exact ih0 _ _ _ _ _ _)
   | (with_reducible exact ih1 _ _ _ _ _ _ _ _ _)
   | (with_reducible exact LeO.refl _)
   | (with_reducible exact LeO.none _)
   | (with_reducible refine LeO.ite ?_ ?_)
   | (with_reducible refine LeO.bind ?_ (fun _ => ?_))
   | exact ih0 _ _ _ _ _ _
   | exact ih1 _ _ _ _ _ _ _ _ _
   | exact LeO.none _
   | refine LeO.ite ?_ ?_
   | refine LeO.bind ?_ (fun _ => ?_)
  ·intro y0 y1 y2 y3 y4 y5 y6 y7 y8
   unfold impl_JoinTables.l0
   repeat' first
   | (with_reducible exact ih0 _ _ _ _ _ _)
   | (with_reducible exact ih1 _ _ _ _ _ _ _ _ _)
   | (with_reducible exact LeO.refl _)
   | (with_reducible exact LeO.none _)
   | (with_reducible refine LeO.ite ?_ ?_)
   | (with_reducible refine LeO.bind ?_ (fun _ => ?_))
   | exact ih0 _ _ _ _ _ _
   | exact ih1 _ _ _ _ _ _ _ _ _
   | exact LeO.none _
   | refine LeO.ite ?_ ?_
   | refine LeO.bind ?_ (fun _ => ?_)
theorem impl_JoinTables.mono : ∀ a0 a1 a2 a3 a4 k, LeO (impl_JoinTables.f k a0 a1 a2 a3 a4) (impl_JoinTables.f (k + 1) a0 a1 a2 a3 a4) := by
 intro a0 a1 a2 a3 a4 k
 obtain ⟨ih0, ih1⟩ := impl_JoinTables.mono_l k
 unfold impl_JoinTables.f
 repeat' first
   | (with_reducible exact ih0 _ _ _ _ _ _)
   | (with_reducible exact ih1 _ _ _ _ _ _ _ _ _)
   | (with_reducible exact LeO.refl _)
   | (with_reducible exact LeO.none _)
   | (with_reducible refine LeO.ite ?_ ?_)
   | (with_reducible refine LeO.bind ?_ (fun _ => ?_))
   | exact ih0 _ _ _ _ _ _
   | exact ih1 _ _ _ _ _ _ _ _ _
   | exact LeO.none _
   | refine LeO.ite ?_ ?_
   | refine LeO.bind ?_ (fun _ => ?_)
def impl_JoinTables.T7 : Bool × List (List Nat × List Nat) := (true, [([], []), ([0], [0]), ([], []), ([], []), ([2, 3], [2, 3]), ([], []), ([], []), ([5, 6, 4], [5, 6]), ([4, 7], [4, 7]), ([], []), ([], []), ([9, 10, 7], [9, 10]), ([], []), ([], []), ([12, 13, 11], [12, 13]), ([11, 14], [11, 14]), ([8, 15], [8, 15]), ([1, 16], [1, 16]), ([0, 1, 2, 3, 4, 5, 6, 7, 8, 9, 10, 11, 12, 13, 14, 15, 16, 17], []), ([18, 17, 14, 0, 1, 2, 3, 4, 5, 6, 7, 8, 9, 10, 11, 12, 13, 14, 15, 16, 17], [17, 18])])
def impl_JoinTables.B7 : List Nat := [0, 1, 0, 0, 12, 0, 0, 124, 252, 0, 0, 1788, 0, 0, 16124, 32508, 65532, 131071, 262143, 524287]
theorem impl_JoinTables.tab7 : rtab .any (opsOf Try.f32 7) = impl_JoinTables.T7 := by kernel_rfl
theorem impl_JoinTables.bits7 : waitsOk impl_JoinTables.T7.2 impl_JoinTables.B7 = true := by kernel_rfl
set_option maxHeartbeats 8000000 in
set_option maxRecDepth 100000 in
theorem impl_JoinTables.calls (k : Nat) (a0_0 : Int) (a0_1 : Int) (a1_0 : Int) (a1_1 : Int) (a2 : Int) (r1 : Int) (r2 : Int) (r3 : Bool) (w : World) (h : impl_JoinTables.f k a0_0 a0_1 a1_0 a1_1 a2 = some (r1, r2, r3)) :
  Calls Try.prog 32 #[.agg #[.int .i64 a0_0, .int .i64 a0_1], .agg #[.int .i64 a1_0, .int .i64 a1_1], .int .i64 a2] w fun e w' => e = .returned (.tuple #[.agg #[.int .i64 r1, .int .i64 r2], .bool r3]) ∧ Below w.heap.size w w' := by
 have hu23 := Try.underlying23
 have HB := zA (Below.refl w.heap.size w)
 have H := h
 unfold impl_JoinTables.f at H
 clear h
 have HC4 := zA H
 clear H
 go_enter Try.func32, Try.ntmps32
 go_upto_region 1 with (first | ((with_reducible refine gate_dst (N := 3) rfl ?_); refine box_event ?hg (N := 3) ?hd (cs := #[.int .i64 a0_0, .int .i64 a0_1]) (t := 23) ?hr ?_; (case hd => rfl); (case hg => rfl); (case hr => exact zH); intro gb204 hg w5 hbox hb; have BK204 := zA (hbox); have GW204 := zg HB hg; have GE204 := zg HB hg; replace HB := zA (below_step (zB HB) hb); clear hb hbox hg) | ((with_reducible refine gate_dst (N := 4) rfl ?_); refine box_event ?hg (N := 4) ?hd (cs := #[.int .i64 a1_0, .int .i64 a1_1]) (t := 23) ?hr ?_; (case hd => rfl); (case hg => rfl); (case hr => exact zH); intro gb205 hg w6 hbox hb; have BK205 := zA (hbox); have GW205 := zg1 HB GE204 hg; have GE205 := zg1 HB GE204 hg; have NB204_205 := zn BK204 hg; have NB205_204 := zo BK204 hg; replace BK204 := zb BK204 hb; replace HB := zA (below_step (zB1 HB GE204) hb); clear hb hbox hg) | ((with_reducible refine gate_dst (N := 6) rfl ?_); refine box_event ?hg (N := 6) ?hd (cs := #[.int .i64 0, .int .i64 0]) (t := 23) ?hr ?_; (case hd => rfl); (case hg => rfl); (case hr => exact zH); intro gb206 hg w7 hbox hb; have BK206 := zA (hbox); have GW206 := zg2 HB GE204 GE205 hg; have GE206 := zg2 HB GE204 GE205 hg; have NB204_206 := zn BK204 hg; have NB206_204 := zo BK204 hg; have NB205_206 := zn BK205 hg; have NB206_205 := zo BK205 hg; replace BK204 := zb BK204 hb; replace BK205 := zb BK205 hb; replace HB := zA (below_step (zB2 HB GE204 GE205) hb); clear hb hbox hg))
 (try simp only [Act.put, List.setIfInBounds_toArray, List.set_cons_zero, List.set_cons_succ])
 go_cut [28] (fun v28 wc => ∃ (kq : Nat) (x28_3 : Bool), v28 = .bool x28_3 ∧ Aside0 (impl_JoinTables.j0 kq a2 x28_3 a0_0 a0_1 a1_0 a1_1 = some (r1, r2, r3)) ∧ Aside0 (kq ≤ k) ∧ Aside0 (wc.heap[gb204]? = some (.cells #[.int .i64 a0_0, .int .i64 a0_1] 23 (0, 0))) ∧ Aside0 (wc.heap[gb205]? = some (.cells #[.int .i64 a1_0, .int .i64 a1_1] 23 (0, 0))) ∧ Aside0 (wc.heap[gb206]? = some (.cells #[.int .i64 0, .int .i64 0] 23 (0, 0))) ∧ Aside0 (Below w.heap.size w wc))
 case first =>
  have H := HC4.out
  clear HC4
  replace H := Option.bind_eq_some_iff.mp H
  obtain ⟨t207, A80, H⟩ := H
  replace H : (if t207 = true then (if a0_0 ≥ 5 then (impl_JoinTables.j0 k a2 true a0_0 a0_1 a1_0 a1_1) else (if a2 < 0 then (impl_JoinTables.j0 k a2 true a0_0 a0_1 a1_0 a1_1) else (impl_JoinTables.j0 k a2 (decide (a2 > a0_0)) a0_0 a0_1 a1_0 a1_1))) else (impl_JoinTables.j0 k a2 true a0_0 a0_1 a1_0 a1_1)) = some (r1, r2, r3) := H
  have A8 := zA A80
  clear A80
  by_cases c9 : t207 = true
  ·subst c9
   have H1 : (if a0_0 ≥ 5 then (impl_JoinTables.j0 k a2 true a0_0 a0_1 a1_0 a1_1) else (if a2 < 0 then (impl_JoinTables.j0 k a2 true a0_0 a0_1 a1_0 a1_1) else (impl_JoinTables.j0 k a2 (decide (a2 > a0_0)) a0_0 a0_1 a1_0 a1_1))) = some (r1, r2, r3) := by rw [if_pos rfl] at H; exact H
   clear H
   have H := H1
   clear H1
   by_cases c10 : a0_0 ≥ 5
   ·rw [if_pos c10] at H
    have c10b0 : decide (5 ≤ a0_0) = true := decide_eq_true c10
    clear c10
    (first | rw [c10b0] | (simp only [i64_w, i32_w]; rw [c10b0]) | skip)
    have H' := zA H
    clear H
    have hnb11 := NB204_205.out
    have hnc11 := NB205_204.out
    have hnb12 := NB204_206.out
    have hnc12 := NB206_204.out
    have hcz13_0 := zc0 BK204
    have hcz13_1 := zc1 BK204
    have hfz13_0 := blk_frozen BK204.out 0
    have hfz13_1 := blk_frozen BK204.out 1
    have hnb14 := NB205_206.out
    have hnc14 := NB206_205.out
    have hcz15_0 := zc0 BK205
    have hcz15_1 := zc1 BK205
    have hfz15_0 := blk_frozen BK205.out 0
    have hfz15_1 := blk_frozen BK205.out 1
    go_wp2_with (first | ((with_reducible refine gate_callee (f := 90) rfl ?_); refine goesL_ (some 12) rfl rfl Try.func90 (by kernel_rfl) rfl #[.agg #[.int .i64 a0_0, .int .i64 a0_1], .agg #[.int .i64 a1_0, .int .i64 a1_1]] rfl zM ?_; (with_reducible refine (impl_areTables.calls a0_0 a0_1 a1_0 a1_1 true _ A8.out).mono ?_); rintro e w16 ⟨rfl, hb⟩; refine ⟨_, rfl, ?_⟩; replace BK204 := zb BK204 hb; replace BK205 := zb BK205 hb; replace BK206 := zb BK206 hb; replace HB := zA (below_step (zB3 HB GE204 GE205 GE206) hb); (try clear hb); (try clear hb2); (try clear hk); (try clear hi); have hcz17_0 := zc0 BK204; have hcz17_1 := zc1 BK204; have hfz17_0 := blk_frozen BK204.out 0; have hfz17_1 := blk_frozen BK204.out 1))
    go_meet
    case rel => exact ⟨_, (true), zS, H', ⟨by first | omega | exact Nat.le_refl _⟩, ⟨zD BK204⟩, ⟨zD BK205⟩, ⟨zD BK206⟩, ⟨zB3 HB GE204 GE205 GE206⟩⟩
   ·rw [if_neg c10] at H
    have c10b0 : decide (5 ≤ a0_0) = false := decide_eq_false c10
    clear c10
    (first | rw [c10b0] | (simp only [i64_w, i32_w]; rw [c10b0]) | skip)
    by_cases c18 : a2 < 0
    ·rw [if_pos c18] at H
     have c18b0 : decide (a2 < 0) = true := decide_eq_true c18
     clear c18
     have H' := zA H
     clear H
     have hnb19 := NB204_205.out
     have hnc19 := NB205_204.out
     have hnb20 := NB204_206.out
     have hnc20 := NB206_204.out
     have hcz21_0 := zc0 BK204
     have hcz21_1 := zc1 BK204
     have hfz21_0 := blk_frozen BK204.out 0
     have hfz21_1 := blk_frozen BK204.out 1
     have hnb22 := NB205_206.out
     have hnc22 := NB206_205.out
     have hcz23_0 := zc0 BK205
     have hcz23_1 := zc1 BK205
     have hfz23_0 := blk_frozen BK205.out 0
     have hfz23_1 := blk_frozen BK205.out 1
     go_wp2_with (first | ((with_reducible refine gate_callee (f := 90) rfl ?_); refine goesL_ (some 12) rfl rfl Try.func90 (by kernel_rfl) rfl #[.agg #[.int .i64 a0_0, .int .i64 a0_1], .agg #[.int .i64 a1_0, .int .i64 a1_1]] rfl zM ?_; (with_reducible refine (impl_areTables.calls a0_0 a0_1 a1_0 a1_1 true _ A8.out).mono ?_); rintro e w24 ⟨rfl, hb⟩; refine ⟨_, rfl, ?_⟩; replace BK204 := zb BK204 hb; replace BK205 := zb BK205 hb; replace BK206 := zb BK206 hb; replace HB := zA (below_step (zB3 HB GE204 GE205 GE206) hb); (try clear hb); (try clear hb2); (try clear hk); (try clear hi); have hcz25_0 := zc0 BK204; have hcz25_1 := zc1 BK204; have hfz25_0 := blk_frozen BK204.out 0; have hfz25_1 := blk_frozen BK204.out 1))
     go_meet
     case rel => exact ⟨_, (true), zS, H', ⟨by first | omega | exact Nat.le_refl _⟩, ⟨zD BK204⟩, ⟨zD BK205⟩, ⟨zD BK206⟩, ⟨zB3 HB GE204 GE205 GE206⟩⟩
    ·rw [if_neg c18] at H
     have c18b0 : decide (a2 < 0) = false := decide_eq_false c18
     clear c18
     have H' := zA H
     clear H
     have hnb26 := NB204_205.out
     have hnc26 := NB205_204.out
     have hnb27 := NB204_206.out
     have hnc27 := NB206_204.out
     have hcz28_0 := zc0 BK204
     have hcz28_1 := zc1 BK204
     have hfz28_0 := blk_frozen BK204.out 0
     have hfz28_1 := blk_frozen BK204.out 1
     have hnb29 := NB205_206.out
     have hnc29 := NB206_205.out
     have hcz30_0 := zc0 BK205
     have hcz30_1 := zc1 BK205
     have hfz30_0 := blk_frozen BK205.out 0
     have hfz30_1 := blk_frozen BK205.out 1
     go_wp2_with (first | ((with_reducible refine gate_callee (f := 90) rfl ?_); refine goesL_ (some 12) rfl rfl Try.func90 (by kernel_rfl) rfl #[.agg #[.int .i64 a0_0, .int .i64 a0_1], .agg #[.int .i64 a1_0, .int .i64 a1_1]] rfl zM ?_; (with_reducible refine (impl_areTables.calls a0_0 a0_1 a1_0 a1_1 true _ A8.out).mono ?_); rintro e w31 ⟨rfl, hb⟩; refine ⟨_, rfl, ?_⟩; replace BK204 := zb BK204 hb; replace BK205 := zb BK205 hb; replace BK206 := zb BK206 hb; replace HB := zA (below_step (zB3 HB GE204 GE205 GE206) hb); (try clear hb); (try clear hb2); (try clear hk); (try clear hi); have hcz32_0 := zc0 BK204; have hcz32_1 := zc1 BK204; have hfz32_0 := blk_frozen BK204.out 0; have hfz32_1 := blk_frozen BK204.out 1))
     go_meet
     case rel => exact ⟨_, (decide (a2 > a0_0)), zS, H', ⟨by first | omega | exact Nat.le_refl _⟩, ⟨zD BK204⟩, ⟨zD BK205⟩, ⟨zD BK206⟩, ⟨zB3 HB GE204 GE205 GE206⟩⟩
  ·replace c9 := Bool.eq_false_iff.mpr c9
   subst c9
   have H1 : (impl_JoinTables.j0 k a2 true a0_0 a0_1 a1_0 a1_1) = some (r1, r2, r3) := by rw [if_neg (show ¬ (false = true) by decide)] at H; exact H
   clear H
   have H := H1
   clear H1
   have H' := zA H
   clear H
   have hnb33 := NB204_205.out
   have hnc33 := NB205_204.out
   have hnb34 := NB204_206.out
   have hnc34 := NB206_204.out
   have hcz35_0 := zc0 BK204
   have hcz35_1 := zc1 BK204
   have hfz35_0 := blk_frozen BK204.out 0
   have hfz35_1 := blk_frozen BK204.out 1
   have hnb36 := NB205_206.out
   have hnc36 := NB206_205.out
   have hcz37_0 := zc0 BK205
   have hcz37_1 := zc1 BK205
   have hfz37_0 := blk_frozen BK205.out 0
   have hfz37_1 := blk_frozen BK205.out 1
   go_wp2_with (first | ((with_reducible refine gate_callee (f := 90) rfl ?_); refine goesL_ (some 12) rfl rfl Try.func90 (by kernel_rfl) rfl #[.agg #[.int .i64 a0_0, .int .i64 a0_1], .agg #[.int .i64 a1_0, .int .i64 a1_1]] rfl zM ?_; (with_reducible refine (impl_areTables.calls a0_0 a0_1 a1_0 a1_1 false _ A8.out).mono ?_); rintro e w38 ⟨rfl, hb⟩; refine ⟨_, rfl, ?_⟩; replace BK204 := zb BK204 hb; replace BK205 := zb BK205 hb; replace BK206 := zb BK206 hb; replace HB := zA (below_step (zB3 HB GE204 GE205 GE206) hb); (try clear hb); (try clear hb2); (try clear hk); (try clear hi)))
   go_meet
   case rel => exact ⟨_, (true), zS, H', ⟨by first | omega | exact Nat.le_refl _⟩, ⟨zD BK204⟩, ⟨zD BK205⟩, ⟨zD BK206⟩, ⟨zB3 HB GE204 GE205 GE206⟩⟩
 case rest =>
  clear HC4
  try clear c1
  try clear c2
  try clear p2
  try clear c3
  try clear c9
  try clear c10
  try clear c10b0
  try clear c11
  try clear c12
  try clear c14
  try clear c18
  try clear c18b0
  try clear c19
  try clear c20
  try clear c22
  try clear c26
  try clear c27
  try clear c29
  try clear c32
  try clear c33
  try clear c34
  try clear c36
  try clear hcz13_0
  try clear hcz13_1
  try clear hcz15_0
  try clear hcz15_1
  try clear hcz17_0
  try clear hcz17_1
  try clear hcz21_0
  try clear hcz21_1
  try clear hcz23_0
  try clear hcz23_1
  try clear hcz25_0
  try clear hcz25_1
  try clear hcz28_0
  try clear hcz28_1
  try clear hcz30_0
  try clear hcz30_1
  try clear hcz32_0
  try clear hcz32_1
  try clear hcz35_0
  try clear hcz35_1
  try clear hcz37_0
  try clear hcz37_1
  try clear hfz13_0
  try clear hfz13_1
  try clear hfz15_0
  try clear hfz15_1
  try clear hfz17_0
  try clear hfz17_1
  try clear hfz21_0
  try clear hfz21_1
  try clear hfz23_0
  try clear hfz23_1
  try clear hfz25_0
  try clear hfz25_1
  try clear hfz28_0
  try clear hfz28_1
  try clear hfz30_0
  try clear hfz30_1
  try clear hfz32_0
  try clear hfz32_1
  try clear hfz35_0
  try clear hfz35_1
  try clear hfz37_0
  try clear hfz37_1
  obtain ⟨kq, x28_3, rfl, HA, HJ3, BK204, BK205, BK206, HB⟩ := hcut
  cases kq with
  | zero => exact absurd HA.out (by simp [impl_JoinTables.j0])
  | succ kj3 =>
   have H := HA.out
   clear HA
   simp only [impl_JoinTables.j0] at H
   by_cases c39 : x28_3 = true
   ·subst c39
    have H1 : (some (0, 0, false)) = some (r1, r2, r3) := by rw [if_pos rfl] at H; exact H
    clear H
    have H := H1
    clear H1
    simp only [Option.some.injEq, Prod.mk.injEq] at H
    obtain ⟨rfl, rfl, rfl⟩ := H
    have hnb40 := NB206_204.out
    have hnc40 := NB204_206.out
    have hnb41 := NB206_205.out
    have hnc41 := NB205_206.out
    have hcz42_0 := zc0 BK206
    have hcz42_1 := zc1 BK206
    have hfz42_0 := blk_frozen BK206.out 0
    have hfz42_1 := blk_frozen BK206.out 1
    go_wp2
    refine bodyPost_ret (results_ct rfl _ _ gb206 23 #[.int .i64 0, .int .i64 0] (0, 0) _ rfl (zP BK206) Try.underlying23 rfl (by kernel_rfl)) rfl ?_
    exact ⟨by first | rfl | (simp [errW_none, errW_some] <;> rfl) | (simp [*, errW_none, errW_some] <;> rfl), zB3 HB GE204 GE205 GE206⟩
   ·replace c39 := Bool.eq_false_iff.mpr c39
    subst c39
    have H1 : ((impl_Table_size.f a0_0 a0_1).bind fun t209 => (impl_JoinTables.l0 kj3 a2 t209 0 a0_0 a0_1 a1_0 a1_1 (wrap64 (a0_0 + 1)) 0)) = some (r1, r2, r3) := by rw [if_neg (show ¬ (false = true) by decide)] at H; exact H
    clear H
    have H := H1
    clear H1
    replace H := Option.bind_eq_some_iff.mp H
    obtain ⟨t209, A430, H⟩ := H
    replace H : (impl_JoinTables.l0 kj3 a2 t209 0 a0_0 a0_1 a1_0 a1_1 (wrap64 (a0_0 + 1)) 0) = some (r1, r2, r3) := H
    have A43 := zA A430
    clear A430
    have H' := zA H
    clear H
    have hnb44 := NB204_205.out
    have hnc44 := NB205_204.out
    have hnb45 := NB204_206.out
    have hnc45 := NB206_204.out
    have hcz46_0 := zc0 BK204
    have hcz46_1 := zc1 BK204
    have hfz46_0 := blk_frozen BK204.out 0
    have hfz46_1 := blk_frozen BK204.out 1
    go_wp2_with (first | ((with_reducible refine gate_dst (N := 8) rfl ?_); refine box_event ?hg (N := 8) ?hd (cs := #[.int .i64 0, .int .i64 0]) (t := 23) ?hr ?_; (case hd => rfl); (case hg => rfl); (case hr => exact zH); intro gb208 hg w47 hbox hb; have BK208 := zA (hbox); have GW208 := zg3 HB GE204 GE205 GE206 hg; have GE208 := zg3 HB GE204 GE205 GE206 hg; have NB204_208 := zn BK204 hg; have NB208_204 := zo BK204 hg; have NB205_208 := zn BK205 hg; have NB208_205 := zo BK205 hg; have NB206_208 := zn BK206 hg; have NB208_206 := zo BK206 hg; replace BK204 := zb BK204 hb; replace BK205 := zb BK205 hb; replace BK206 := zb BK206 hb; replace HB := zA (below_step (zB3 HB GE204 GE205 GE206) hb); clear hb hbox hg; have hnb48 := NB208_204.out; have hnc48 := NB204_208.out; have hnb49 := NB208_205.out; have hnc49 := NB205_208.out; have hnb50 := NB208_206.out; have hnc50 := NB206_208.out; have hcz51_0 := zc0 BK208; have hcz51_1 := zc1 BK208; have hfz51_0 := blk_frozen BK208.out 0; have hfz51_1 := blk_frozen BK208.out 1; have hcz52_0 := zc0 BK204; have hcz52_1 := zc1 BK204; have hfz52_0 := blk_frozen BK204.out 0; have hfz52_1 := blk_frozen BK204.out 1) | ((with_reducible refine gate_callee (f := 91) rfl ?_); refine goesL_ (some 35) rfl rfl Try.func91 (by kernel_rfl) rfl #[.agg #[.int .i64 a0_0, .int .i64 a0_1]] rfl zM ?_; (with_reducible refine (impl_Table_size.calls a0_0 a0_1 t209 _ A43.out).mono ?_); rintro e w53 ⟨rfl, hb⟩; refine ⟨_, rfl, ?_⟩; replace BK204 := zf BK204 NB204_208 hb; replace BK205 := zf BK205 NB205_208 hb; replace BK206 := zf BK206 NB206_208 hb; replace BK208 := zp BK208 hb; replace HB := zA (below_step (zB4 HB GE204 GE205 GE206 GE208) hb); (try clear hb); (try clear hb2); (try clear hk); (try clear hi)))
    go_loopg [36] kj3 (fun kq v36 w' => ∃ (x36_2 : Int) (x209001_2 : Int), v36 = .int .i64 x36_2 ∧ Aside0 (impl_JoinTables.l0 kq a2 t209 x36_2 a0_0 a0_1 a1_0 a1_1 (wrap64 (a0_0 + 1)) x209001_2 = some (r1, r2, r3)) ∧ Aside0 (kq ≤ kj3) ∧ Aside0 (w'.heap[gb204]? = some (.cells #[.int .i64 a0_0, .int .i64 a0_1] 23 (0, 0))) ∧ Aside0 (w'.heap[gb205]? = some (.cells #[.int .i64 a1_0, .int .i64 a1_1] 23 (0, 0))) ∧ Aside0 (w'.heap[gb206]? = some (.cells #[.int .i64 0, .int .i64 0] 23 (0, 0))) ∧ Aside0 (w'.heap[gb208]? = some (.cells #[.int .i64 (wrap64 (a0_0 + 1)), .int .i64 x209001_2] 23 (0, 0))) ∧ Aside0 (Below w.heap.size w w'))
    case atStart => exact ⟨(0), (0), zS, H', ⟨Nat.le_refl _⟩, ⟨zD BK204⟩, ⟨zD BK205⟩, ⟨zD BK206⟩, ⟨zD BK208⟩, ⟨zB4 HB GE204 GE205 GE206 GE208⟩⟩
    case round =>
     clear H'
     try clear c1
     try clear c2
     try clear p2
     try clear c3
     try clear c4
     try clear c5
     try clear p6
     try clear c9
     try clear c10
     try clear c10b0
     try clear c11
     try clear c12
     try clear c14
     try clear c18
     try clear c18b0
     try clear c19
     try clear c20
     try clear c22
     try clear c26
     try clear c27
     try clear c29
     try clear c32
     try clear c33
     try clear c34
     try clear c36
     try clear c39
     try clear c40
     try clear c41
     try clear c44
     try clear c45
     try clear c48
     try clear c49
     try clear c50
     try clear hcz13_0
     try clear hcz13_1
     try clear hcz15_0
     try clear hcz15_1
     try clear hcz17_0
     try clear hcz17_1
     try clear hcz21_0
     try clear hcz21_1
     try clear hcz23_0
     try clear hcz23_1
     try clear hcz25_0
     try clear hcz25_1
     try clear hcz28_0
     try clear hcz28_1
     try clear hcz30_0
     try clear hcz30_1
     try clear hcz32_0
     try clear hcz32_1
     try clear hcz35_0
     try clear hcz35_1
     try clear hcz37_0
     try clear hcz37_1
     try clear hcz42_0
     try clear hcz42_1
     try clear hcz46_0
     try clear hcz46_1
     try clear hcz51_0
     try clear hcz51_1
     try clear hcz52_0
     try clear hcz52_1
     try clear hfz13_0
     try clear hfz13_1
     try clear hfz15_0
     try clear hfz15_1
     try clear hfz17_0
     try clear hfz17_1
     try clear hfz21_0
     try clear hfz21_1
     try clear hfz23_0
     try clear hfz23_1
     try clear hfz25_0
     try clear hfz25_1
     try clear hfz28_0
     try clear hfz28_1
     try clear hfz30_0
     try clear hfz30_1
     try clear hfz32_0
     try clear hfz32_1
     try clear hfz35_0
     try clear hfz35_1
     try clear hfz37_0
     try clear hfz37_1
     try clear hfz42_0
     try clear hfz42_1
     try clear hfz46_0
     try clear hfz46_1
     try clear hfz51_0
     try clear hfz51_1
     try clear hfz52_0
     try clear hfz52_1
     try clear p2
     obtain ⟨x36_2, x209001_2, rfl, HA, HK2, BK204, BK205, BK206, BK208, HB⟩ := hrel
     cases gk with
     | zero => exact absurd HA.out (by simp [impl_JoinTables.l0])
     | succ k2 =>
      have H := HA.out
      clear HA
      simp only [impl_JoinTables.l0] at H
      by_cases c54 : x36_2 < t209
      ·rw [if_pos c54] at H
       have c54b0 : decide (x36_2 < t209) = true := decide_eq_true c54
       clear c54
       replace H := Option.bind_eq_some_iff.mp H
       obtain ⟨t210, A550, H⟩ := H
       replace H : ((impl_spread.f x36_2 a2 0).bind fun t211 => (if 0 ≤ t211 then ((impl_Table_at.f a1_0 a1_1 x36_2).bind fun t212 => ((impl_spread.f x36_2 a2 1).bind fun t213 => (if 0 ≤ t213 then (impl_JoinTables.l0 k2 a2 t209 (wrap64 (x36_2 + 1)) a0_0 a0_1 a1_0 a1_1 (wrap64 (a0_0 + 1)) (Go.bits .or .i64 x209001_2 (Go.bits .or .i64 (shl .i64 t210 t211) (shl .i64 t212 t213)))) else (none)))) else (none))) = some (r1, r2, r3) := H
       have A55 := zA A550
       clear A550
       replace H := Option.bind_eq_some_iff.mp H
       obtain ⟨t211, A560, H⟩ := H
       replace H : (if 0 ≤ t211 then ((impl_Table_at.f a1_0 a1_1 x36_2).bind fun t212 => ((impl_spread.f x36_2 a2 1).bind fun t213 => (if 0 ≤ t213 then (impl_JoinTables.l0 k2 a2 t209 (wrap64 (x36_2 + 1)) a0_0 a0_1 a1_0 a1_1 (wrap64 (a0_0 + 1)) (Go.bits .or .i64 x209001_2 (Go.bits .or .i64 (shl .i64 t210 t211) (shl .i64 t212 t213)))) else (none)))) else (none)) = some (r1, r2, r3) := H
       have A56 := zA A560
       clear A560
       by_cases c57 : 0 ≤ t211
       ·rw [if_pos c57] at H
        have c57b0 := eq_true c57
        have c57b1 : decide (0 ≤ t211) = true := decide_eq_true c57
        clear c57
        obtain ⟨ji58, hji58⟩ : ∃ j_ : Int, (shl .i64 t210 t211) = j_ := ⟨_, rfl⟩
        replace H : ((impl_Table_at.f a1_0 a1_1 x36_2).bind fun t212 => ((impl_spread.f x36_2 a2 1).bind fun t213 => (if 0 ≤ t213 then (impl_JoinTables.l0 k2 a2 t209 (wrap64 (x36_2 + 1)) a0_0 a0_1 a1_0 a1_1 (wrap64 (a0_0 + 1)) (Go.bits .or .i64 x209001_2 (Go.bits .or .i64 (ji58) (shl .i64 t212 t213)))) else (none)))) = some (r1, r2, r3) := by first | (rw [hji58] at H; exact H) | (simp only [hji58] at H ⊢; exact H)
        (try rw [hji58] at A55)
        (try rw [hji58] at A56)
        have hji58_ : (IntKind.i64.wrap (t210 * 2 ^ min t211.toNat 64)) = ji58 := hji58
        have hji58z : t211 ≤ 64 → (IntKind.i64.wrap (t210 * 2 ^ t211.toNat)) = ji58 := shl_small hji58
        have hji58y : (wrap64 (t210 * 2 ^ min t211.toNat 64)) = ji58 := (i64_w _).symm.trans hji58_
        have hji58x : t211 ≤ 64 → (wrap64 (t210 * 2 ^ t211.toNat)) = ji58 := fun h_ => (i64_w _).symm.trans (hji58z h_)
        replace H := Option.bind_eq_some_iff.mp H
        obtain ⟨t212, A590, H⟩ := H
        replace H : ((impl_spread.f x36_2 a2 1).bind fun t213 => (if 0 ≤ t213 then (impl_JoinTables.l0 k2 a2 t209 (wrap64 (x36_2 + 1)) a0_0 a0_1 a1_0 a1_1 (wrap64 (a0_0 + 1)) (Go.bits .or .i64 x209001_2 (Go.bits .or .i64 (ji58) (shl .i64 t212 t213)))) else (none))) = some (r1, r2, r3) := H
        have A59 := zA A590
        clear A590
        replace H := Option.bind_eq_some_iff.mp H
        obtain ⟨t213, A600, H⟩ := H
        replace H : (if 0 ≤ t213 then (impl_JoinTables.l0 k2 a2 t209 (wrap64 (x36_2 + 1)) a0_0 a0_1 a1_0 a1_1 (wrap64 (a0_0 + 1)) (Go.bits .or .i64 x209001_2 (Go.bits .or .i64 (ji58) (shl .i64 t212 t213)))) else (none)) = some (r1, r2, r3) := H
        have A60 := zA A600
        clear A600
        by_cases c61 : 0 ≤ t213
        ·rw [if_pos c61] at H
         have c61b0 := eq_true c61
         have c61b1 : decide (0 ≤ t213) = true := decide_eq_true c61
         clear c61
         obtain ⟨ji62, hji62⟩ : ∃ j_ : Int, (shl .i64 t212 t213) = j_ := ⟨_, rfl⟩
         replace H : (impl_JoinTables.l0 k2 a2 t209 (wrap64 (x36_2 + 1)) a0_0 a0_1 a1_0 a1_1 (wrap64 (a0_0 + 1)) (Go.bits .or .i64 x209001_2 (Go.bits .or .i64 (ji58) (ji62)))) = some (r1, r2, r3) := by first | (rw [hji62] at H; exact H) | (simp only [hji62] at H ⊢; exact H)
         (try rw [hji62] at A55)
         (try rw [hji62] at A56)
         (try rw [hji62] at A59)
         (try rw [hji62] at A60)
         have hji62_ : (IntKind.i64.wrap (t212 * 2 ^ min t213.toNat 64)) = ji62 := hji62
         have hji62z : t213 ≤ 64 → (IntKind.i64.wrap (t212 * 2 ^ t213.toNat)) = ji62 := shl_small hji62
         have hji62y : (wrap64 (t212 * 2 ^ min t213.toNat 64)) = ji62 := (i64_w _).symm.trans hji62_
         have hji62x : t213 ≤ 64 → (wrap64 (t212 * 2 ^ t213.toNat)) = ji62 := fun h_ => (i64_w _).symm.trans (hji62z h_)
         have H' := zA H
         clear H
         try go_wp2
         have n0_ := zA (blk_drew BK204.out)
         have n1_ := zA (blk_drew BK205.out)
         have n2_ := zA (blk_drew BK206.out)
         have n3_ := zA (blk_drew BK208.out)
         have n4_ := zA (below_drew1 HB.out)
         clear BK204
         clear BK205
         clear BK206
         clear BK208
         clear HB
         have BK204 := n0_
         have BK205 := n1_
         have BK206 := n2_
         have BK208 := n3_
         have HB := n4_
         clear n0_ n1_ n2_ n3_ n4_
         refine start_ (n := 20) (S := fun w' => w'.cell? ⟨gb208, 0, none⟩ = some (.int .i64 (wrap64 (a0_0 + 1))) ∧ w'.cell? ⟨gb208, 1, none⟩ = some (.int .i64 x209001_2) ∧ w'.cell? ⟨gb204, 0, none⟩ = some (.int .i64 a0_0) ∧ w'.cell? ⟨gb204, 1, none⟩ = some (.int .i64 a0_1) ∧ w'.cell? ⟨gb205, 0, none⟩ = some (.int .i64 a1_0) ∧ w'.cell? ⟨gb205, 1, none⟩ = some (.int .i64 a1_1)) (ds := [19]) #[false, false, false, false, false, false, false, false, false, false, false, false, false, false, false, false, false, false, false, false] (by kernel_rfl) rfl rfl ⟨(blk_cell BK208.out 0).trans rfl, (blk_cell BK208.out 1).trans rfl, (blk_cell BK204.out 0).trans rfl, (blk_cell BK204.out 1).trans rfl, (blk_cell BK205.out 0).trans rfl, (blk_cell BK205.out 1).trans rfl⟩ (fun hHeld => ?_); refine with_tabW impl_JoinTables.tab7 impl_JoinTables.bits7 (fun HT_ HW_ => ?_)
         generalize wr.drew = w63 at BK204 BK205 BK206 BK208 HB hHeld ⊢
         refine pure_ (i := 0) (N := some 39) (v := ?_) (a' := ?_) #[true, false, false, false, false, false, false, false, false, false, false, false, false, false, false, false, false, false, false, false] rfl rfl (any_of HT_.out (by kernel_rfl)) (fun _ _ _ h => h) (Or.inl ⟨by rfl, ?_⟩) ?_ ?_
         rotate_left
         ·intro w'
          go_simp
          with_reducible rfl
         rotate_left
         ·simp only [Act.put, List.setIfInBounds_toArray, List.set_cons_zero, List.set_cons_succ, i64_w, i32_w]
          rfl
         refine pure_ (i := 3) (N := some 42) (v := ?_) (a' := ?_) #[true, false, false, true, false, false, false, false, false, false, false, false, false, false, false, false, false, false, false, false] rfl rfl (any_of HT_.out (by kernel_rfl)) (fun _ _ _ h => h) (Or.inl ⟨by rfl, ?_⟩) ?_ ?_
         rotate_left
         ·intro w'
          go_simp
          with_reducible rfl
         rotate_left
         ·simp only [Act.put, List.setIfInBounds_toArray, List.set_cons_zero, List.set_cons_succ, i64_w, i32_w]
          rfl
         refine pure_ (i := 5) (N := some 44) (v := ?_) (a' := ?_) #[true, false, false, true, false, true, false, false, false, false, false, false, false, false, false, false, false, false, false, false] rfl rfl (any_of HT_.out (by kernel_rfl)) (fun _ _ _ h => h) (Or.inl ⟨by rfl, ?_⟩) ?_ ?_
         rotate_left
         ·intro w'
          go_simp
          with_reducible rfl
         rotate_left
         ·simp only [Act.put, List.setIfInBounds_toArray, List.set_cons_zero, List.set_cons_succ, i64_w, i32_w]
          rfl
         refine pure_ (i := 6) (N := some 45) (v := ?_) (a' := ?_) #[true, false, false, true, false, true, true, false, false, false, false, false, false, false, false, false, false, false, false, false] rfl rfl (any_of HT_.out (by kernel_rfl)) (fun _ _ _ h => h) (Or.inl ⟨by rfl, ?_⟩) ?_ ?_
         rotate_left
         ·intro w'
          go_simp
          with_reducible rfl
         rotate_left
         ·simp only [Act.put, List.setIfInBounds_toArray, List.set_cons_zero, List.set_cons_succ, i64_w, i32_w]
          rfl
         refine pure_ (i := 10) (N := some 49) (v := ?_) (a' := ?_) #[true, false, false, true, false, true, true, false, false, false, true, false, false, false, false, false, false, false, false, false] rfl rfl (any_of HT_.out (by kernel_rfl)) (fun _ _ _ h => h) (Or.inl ⟨by rfl, ?_⟩) ?_ ?_
         rotate_left
         ·intro w'
          go_simp
          with_reducible rfl
         rotate_left
         ·simp only [Act.put, List.setIfInBounds_toArray, List.set_cons_zero, List.set_cons_succ, i64_w, i32_w]
          rfl
         refine pure_ (i := 12) (N := some 51) (v := ?_) (a' := ?_) #[true, false, false, true, false, true, true, false, false, false, true, false, true, false, false, false, false, false, false, false] rfl rfl (any_of HT_.out (by kernel_rfl)) (fun _ _ _ h => h) (Or.inl ⟨by rfl, ?_⟩) ?_ ?_
         rotate_left
         ·intro w'
          go_simp
          with_reducible rfl
         rotate_left
         ·simp only [Act.put, List.setIfInBounds_toArray, List.set_cons_zero, List.set_cons_succ, i64_w, i32_w]
          rfl
         refine pure_ (i := 13) (N := some 52) (v := ?_) (a' := ?_) #[true, false, false, true, false, true, true, false, false, false, true, false, true, true, false, false, false, false, false, false] rfl rfl (any_of HT_.out (by kernel_rfl)) (fun _ _ _ h => h) (Or.inl ⟨by rfl, ?_⟩) ?_ ?_
         rotate_left
         ·intro w'
          go_simp
          with_reducible rfl
         rotate_left
         ·simp only [Act.put, List.setIfInBounds_toArray, List.set_cons_zero, List.set_cons_succ, i64_w, i32_w]
          rfl
         refine take_ (i := 1) (N := some 40) (v := ?_) (a' := ?_) #[true, true, false, true, false, true, true, false, false, false, true, false, true, true, false, false, false, false, false, false] rfl rfl (take_ofW HT_.out HW_.out (by kernel_rfl)) (fun _ _ _ h => h) (Or.inl ⟨by rfl, ?_⟩) hHeld ?_ ?_
         rotate_left
         ·rintro w' ⟨s0, s1, s2, s3, s4, s5⟩
          go_simp
          with_reducible rfl
         rotate_left
         ·simp only [Act.put, List.setIfInBounds_toArray, List.set_cons_zero, List.set_cons_succ, i64_w, i32_w]
          rfl
         refine take_ (i := 2) (N := some 41) (v := ?_) (a' := ?_) #[true, true, true, true, false, true, true, false, false, false, true, false, true, true, false, false, false, false, false, false] rfl rfl (take_ofW HT_.out HW_.out (by kernel_rfl)) (fun _ _ _ h => h) (Or.inl ⟨by rfl, ?_⟩) hHeld ?_ ?_
         rotate_left
         ·rintro w' ⟨s0, s1, s2, s3, s4, s5⟩
          go_simp
          with_reducible rfl
         rotate_left
         ·simp only [Act.put, List.setIfInBounds_toArray, List.set_cons_zero, List.set_cons_succ, i64_w, i32_w]
          rfl
         refine take_ (i := 9) (N := some 48) (v := ?_) (a' := ?_) #[true, true, true, true, false, true, true, false, false, true, true, false, true, true, false, false, false, false, false, false] rfl rfl (take_ofW HT_.out HW_.out (by kernel_rfl)) (fun _ _ _ h => h) (Or.inl ⟨by rfl, ?_⟩) hHeld ?_ ?_
         rotate_left
         ·rintro w' ⟨s0, s1, s2, s3, s4, s5⟩
          go_simp
          with_reducible rfl
         rotate_left
         ·simp only [Act.put, List.setIfInBounds_toArray, List.set_cons_zero, List.set_cons_succ, i64_w, i32_w]
          rfl
         refine one_ (i := 4) (N := some 43) #[true, true, true, true, true, true, true, false, false, true, true, false, true, true, false, false, false, false, false, false] rfl rfl (one_of HT_.out (by kernel_rfl)) (by decide) (fun K hK => ?_)
         refine goes_ Try.func92 (by kernel_rfl) rfl #[.agg #[.int .i64 a0_0, .int .i64 a0_1], .int .i64 x36_2] (by rfl) rfl rfl zM ?_
         with_reducible refine (impl_Table_at.calls a0_0 a0_1 x36_2 t210 _ A55.out).mono ?_
         rintro e w64 ⟨rfl, hb⟩
         refine ⟨_, rfl, ?_⟩
         have n0_ := zb BK204 hb
         have n1_ := zb BK205 hb
         have n2_ := zb BK206 hb
         have n3_ := zb BK208 hb
         have n4_ := zA (below_step (zB4 HB GE204 GE205 GE206 GE208) hb)
         clear BK204
         clear BK205
         clear BK206
         clear BK208
         clear HB
         have BK204 := n0_
         have BK205 := n1_
         have BK206 := n2_
         have BK208 := n3_
         have HB := n4_
         clear n0_ n1_ n2_ n3_ n4_
         (try clear hb)
         (try clear hb2)
         (try clear hk)
         (try clear hi)
         refine hK.out _ _ ⟨(blk_cell BK208.out 0).trans rfl, (blk_cell BK208.out 1).trans rfl, (blk_cell BK204.out 0).trans rfl, (blk_cell BK204.out 1).trans rfl, (blk_cell BK205.out 0).trans rfl, (blk_cell BK205.out 1).trans rfl⟩ (fun hHeld => ?_)
         clear hK K
         refine norm_ (a' := ?_) ?_ ?_
         rotate_left
         ·show Act.put _ (some 43) _ = _
          simp only [Act.put, List.setIfInBounds_toArray, List.set_cons_zero, List.set_cons_succ, i64_w, i32_w]
          rfl
         refine one_ (i := 7) (N := some 46) #[true, true, true, true, true, true, true, true, false, true, true, false, true, true, false, false, false, false, false, false] rfl rfl (one_of HT_.out (by kernel_rfl)) (by decide) (fun K hK => ?_)
         refine goes_ Try.func93 (by kernel_rfl) rfl #[.int .i64 x36_2, .int .i64 a2, .int .i64 0] (by rfl) rfl rfl zM ?_
         with_reducible refine (impl_spread.calls x36_2 a2 0 t211 _ A56.out).mono ?_
         rintro e w' ⟨rfl, ⟨nd, rfl⟩⟩
         refine ⟨_, rfl, ?_⟩
         refine hK.out _ _ ⟨(blk_cell BK208.out 0).trans rfl, (blk_cell BK208.out 1).trans rfl, (blk_cell BK204.out 0).trans rfl, (blk_cell BK204.out 1).trans rfl, (blk_cell BK205.out 0).trans rfl, (blk_cell BK205.out 1).trans rfl⟩ (fun hHeld => ?_)
         clear hK K
         refine norm_ (a' := ?_) ?_ ?_
         rotate_left
         ·show Act.put _ (some 46) _ = _
          simp only [Act.put, List.setIfInBounds_toArray, List.set_cons_zero, List.set_cons_succ, i64_w, i32_w]
          rfl
         refine pure_ (i := 8) (N := some 47) (v := ?_) (a' := ?_) #[true, true, true, true, true, true, true, true, true, true, true, false, true, true, false, false, false, false, false, false] rfl rfl (any_of HT_.out (by kernel_rfl)) (fun _ _ _ h => h) (Or.inl ⟨by rfl, ?_⟩) ?_ ?_
         rotate_left
         ·intro w'
          go_simp
          with_reducible rfl
         rotate_left
         ·simp only [Act.put, List.setIfInBounds_toArray, List.set_cons_zero, List.set_cons_succ, i64_w, i32_w]
          rfl
         refine one_ (i := 11) (N := some 50) #[true, true, true, true, true, true, true, true, true, true, true, true, true, true, false, false, false, false, false, false] rfl rfl (one_of HT_.out (by kernel_rfl)) (by decide) (fun K hK => ?_)
         refine goes_ Try.func92 (by kernel_rfl) rfl #[.agg #[.int .i64 a1_0, .int .i64 a1_1], .int .i64 x36_2] (by rfl) rfl rfl zM ?_
         with_reducible refine (impl_Table_at.calls a1_0 a1_1 x36_2 t212 _ A59.out).mono ?_
         rintro e w65 ⟨rfl, hb⟩
         refine ⟨_, rfl, ?_⟩
         have n0_ := zb BK204 hb
         have n1_ := zb BK205 hb
         have n2_ := zb BK206 hb
         have n3_ := zb BK208 hb
         have n4_ := zA (below_step (zB4 HB GE204 GE205 GE206 GE208) hb)
         clear BK204
         clear BK205
         clear BK206
         clear BK208
         clear HB
         have BK204 := n0_
         have BK205 := n1_
         have BK206 := n2_
         have BK208 := n3_
         have HB := n4_
         clear n0_ n1_ n2_ n3_ n4_
         (try clear hb)
         (try clear hb2)
         (try clear hk)
         (try clear hi)
         refine hK.out _ _ ⟨(blk_cell BK208.out 0).trans rfl, (blk_cell BK208.out 1).trans rfl, (blk_cell BK204.out 0).trans rfl, (blk_cell BK204.out 1).trans rfl, (blk_cell BK205.out 0).trans rfl, (blk_cell BK205.out 1).trans rfl⟩ (fun hHeld => ?_)
         clear hK K
         refine norm_ (a' := ?_) ?_ ?_
         rotate_left
         ·show Act.put _ (some 50) _ = _
          simp only [Act.put, List.setIfInBounds_toArray, List.set_cons_zero, List.set_cons_succ, i64_w, i32_w]
          rfl
         refine one_ (i := 14) (N := some 53) #[true, true, true, true, true, true, true, true, true, true, true, true, true, true, true, false, false, false, false, false] rfl rfl (one_of HT_.out (by kernel_rfl)) (by decide) (fun K hK => ?_)
         refine goes_ Try.func93 (by kernel_rfl) rfl #[.int .i64 x36_2, .int .i64 a2, .int .i64 1] (by rfl) rfl rfl zM ?_
         with_reducible refine (impl_spread.calls x36_2 a2 1 t213 _ A60.out).mono ?_
         rintro e w' ⟨rfl, ⟨nd, rfl⟩⟩
         refine ⟨_, rfl, ?_⟩
         refine hK.out _ _ ⟨(blk_cell BK208.out 0).trans rfl, (blk_cell BK208.out 1).trans rfl, (blk_cell BK204.out 0).trans rfl, (blk_cell BK204.out 1).trans rfl, (blk_cell BK205.out 0).trans rfl, (blk_cell BK205.out 1).trans rfl⟩ (fun hHeld => ?_)
         clear hK K
         refine norm_ (a' := ?_) ?_ ?_
         rotate_left
         ·show Act.put _ (some 53) _ = _
          simp only [Act.put, List.setIfInBounds_toArray, List.set_cons_zero, List.set_cons_succ, i64_w, i32_w]
          rfl
         refine pure_ (i := 15) (N := some 54) (v := ?_) (a' := ?_) #[true, true, true, true, true, true, true, true, true, true, true, true, true, true, true, true, false, false, false, false] rfl rfl (any_of HT_.out (by kernel_rfl)) (fun _ _ _ h => h) (Or.inl ⟨by rfl, ?_⟩) ?_ ?_
         rotate_left
         ·intro w'
          go_simp
          with_reducible rfl
         rotate_left
         ·simp only [Act.put, List.setIfInBounds_toArray, List.set_cons_zero, List.set_cons_succ, i64_w, i32_w]
          rfl
         refine pure_ (i := 16) (N := some 55) (v := ?_) (a' := ?_) #[true, true, true, true, true, true, true, true, true, true, true, true, true, true, true, true, true, false, false, false] rfl rfl (any_of HT_.out (by kernel_rfl)) (fun _ _ _ h => h) (Or.inl ⟨by rfl, ?_⟩) ?_ ?_
         rotate_left
         ·intro w'
          go_simp
          with_reducible rfl
         rotate_left
         ·simp only [Act.put, List.setIfInBounds_toArray, List.set_cons_zero, List.set_cons_succ, i64_w, i32_w]
          rfl
         refine pure_ (i := 17) (N := some 56) (v := ?_) (a' := ?_) #[true, true, true, true, true, true, true, true, true, true, true, true, true, true, true, true, true, true, false, false] rfl rfl (any_of HT_.out (by kernel_rfl)) (fun _ _ _ h => h) (Or.inl ⟨by rfl, ?_⟩) ?_ ?_
         rotate_left
         ·intro w'
          go_simp
          with_reducible rfl
         rotate_left
         ·simp only [Act.put, List.setIfInBounds_toArray, List.set_cons_zero, List.set_cons_succ, i64_w, i32_w]
          rfl
         refine pure_ (i := 18) (N := some 57) (v := ?_) (a' := ?_) #[true, true, true, true, true, true, true, true, true, true, true, true, true, true, true, true, true, true, true, false] rfl rfl (any_of HT_.out (by kernel_rfl)) (fun _ _ _ h => h) (Or.inl ⟨by rfl, ?_⟩) ?_ ?_
         rotate_left
         ·intro w'
          go_simp
          with_reducible rfl
         rotate_left
         ·simp only [Act.put, List.setIfInBounds_toArray, List.set_cons_zero, List.set_cons_succ, i64_w, i32_w]
          rfl
         refine last_ (i := 19) (N := none) #[true, true, true, true, true, true, true, true, true, true, true, true, true, true, true, true, true, true, true, true] rfl rfl (one_of HT_.out (by kernel_rfl)) (by decide) (fun K hK => ?_)
         have hs66 : w65.cell? ⟨gb208, 1, none⟩ = some (.int .i64 x209001_2) := (blk_cell BK208.out 1).trans rfl
         have hfs66 := blk_frozen BK208.out 1
         have hns66_0 := NB204_208.out
         have hns66_1 := NB205_208.out
         have hns66_2 := NB206_208.out
         have hms66_0 := NB208_204.out
         have hms66_1 := NB208_205.out
         have hms66_2 := NB208_206.out
         refine skip_ (w1 := ?_) (by rfl) rfl ?_ ?_
         rotate_left
         ·go_simp
          rfl
         refine hK.out _ _ ?_
         clear hK K
         refine done_ (done_of HT_.out (by kernel_rfl)) ?_
         try go_wp2
         go_roundg k2
         case measure => have := HJ3.out; have := HK2.out; omega
         case rel => exact ⟨(wrap64 (x36_2 + 1)), (Go.bits .or .i64 x209001_2 (Go.bits .or .i64 (ji58) (ji62))), zS, H', ⟨by have := HJ3.out; have := HK2.out; omega⟩, ⟨by (with_reducible repeat (first | refine blk_drewN ?_ _ | refine blk_drew ?_ | refine blk_alloc ?_ _)); refine blk_far ?_ NB204_208.out _; (with_reducible repeat (first | refine blk_drewN ?_ _ | refine blk_drew ?_ | refine blk_alloc ?_ _)); exact BK204.out⟩, ⟨by (with_reducible repeat (first | refine blk_drewN ?_ _ | refine blk_drew ?_ | refine blk_alloc ?_ _)); refine blk_far ?_ NB205_208.out _; (with_reducible repeat (first | refine blk_drewN ?_ _ | refine blk_drew ?_ | refine blk_alloc ?_ _)); exact BK205.out⟩, ⟨by (with_reducible repeat (first | refine blk_drewN ?_ _ | refine blk_drew ?_ | refine blk_alloc ?_ _)); refine blk_far ?_ NB206_208.out _; (with_reducible repeat (first | refine blk_drewN ?_ _ | refine blk_drew ?_ | refine blk_alloc ?_ _)); exact BK206.out⟩, ⟨by (with_reducible repeat (first | refine blk_drewN ?_ _ | refine blk_drew ?_ | refine blk_alloc ?_ _)); refine blk_put (cs := #[.int .i64 (wrap64 (a0_0 + 1)), .int .i64 x209001_2]) ?_ 1 _ rfl; (with_reducible repeat (first | refine blk_drewN ?_ _ | refine blk_drew ?_ | refine blk_alloc ?_ _)); exact BK208.out⟩, ⟨zB4 HB GE204 GE205 GE206 GE208⟩⟩
        ·rw [if_neg c61] at H
         exact absurd H (by simp)
       ·rw [if_neg c57] at H
        exact absurd H (by simp)
      ·rw [if_neg c54] at H
       have c54b0 : decide (x36_2 < t209) = false := decide_eq_false c54
       clear c54
       simp only [Option.some.injEq, Prod.mk.injEq] at H
       obtain ⟨rfl, rfl, rfl⟩ := H
       have hnb67 := NB208_204.out
       have hnc67 := NB204_208.out
       have hnb68 := NB208_205.out
       have hnc68 := NB205_208.out
       have hnb69 := NB208_206.out
       have hnc69 := NB206_208.out
       have hcz70_0 := zc0 BK208
       have hcz70_1 := zc1 BK208
       have hfz70_0 := blk_frozen BK208.out 0
       have hfz70_1 := blk_frozen BK208.out 1
       have hnb71 := NB206_204.out
       have hnc71 := NB204_206.out
       have hnb72 := NB206_205.out
       have hnc72 := NB205_206.out
       have hcz73_0 := zc0 BK206
       have hcz73_1 := zc1 BK206
       have hfz73_0 := blk_frozen BK206.out 0
       have hfz73_1 := blk_frozen BK206.out 1
       go_wp2
       refine bodyPost_ret (results_ct rfl _ _ gb206 23 #[.int .i64 (wrap64 (a0_0 + 1)), .int .i64 x209001_2] (0, 0) _ rfl (zP BK206) Try.underlying23 rfl (by kernel_rfl)) rfl ?_
       exact ⟨by first | rfl | (simp [errW_none, errW_some] <;> rfl) | (simp [*, errW_none, errW_some] <;> rfl), zB4 HB GE204 GE205 GE206 GE208⟩

/-! ### impl_hasInput: function 95 -/
def impl_hasInput.f (a0_0 : Int) (a0_1 : Int) (a1 : Int) : Option (Bool) := (impl_IsTable.f a0_0 a0_1).bind fun t242 => (if t242 = true then ((impl_isInput.f a0_0 a1).bind fun t243 => (some t243)) else (some false))
set_option maxHeartbeats 8000000 in
set_option maxRecDepth 100000 in
theorem impl_hasInput.calls (a0_0 : Int) (a0_1 : Int) (a1 : Int) (r : Bool) (w : World) (h : impl_hasInput.f a0_0 a0_1 a1 = some r) :
  Calls Try.prog 95 #[.agg #[.int .i64 a0_0, .int .i64 a0_1], .int .i64 a1] w fun e w' => e = .returned (.bool r) ∧ Below w.heap.size w w' := by
 have hu23 := Try.underlying23
 have HB := zA (Below.refl w.heap.size w)
 have H := h
 unfold impl_hasInput.f at H
 clear h
 replace H := Option.bind_eq_some_iff.mp H
 obtain ⟨t242, A30, H⟩ := H
 replace H : (if t242 = true then ((impl_isInput.f a0_0 a1).bind fun t243 => (some t243)) else (some false)) = some r := H
 have A3 := zA A30
 clear A30
 by_cases c4 : t242 = true
 ·subst c4
  have H1 : ((impl_isInput.f a0_0 a1).bind fun t243 => (some t243)) = some r := by rw [if_pos rfl] at H; exact H
  clear H
  have H := H1
  clear H1
  replace H := Option.bind_eq_some_iff.mp H
  obtain ⟨t243, A50, H⟩ := H
  replace H : (some t243) = some r := H
  have A5 := zA A50
  clear A50
  obtain rfl := Option.some.inj H
  go_enter Try.func95, Try.ntmps95
  go_wp2_with (first | ((with_reducible refine gate_dst (N := 2) rfl ?_); refine box_event ?hg (N := 2) ?hd (cs := #[.int .i64 a0_0, .int .i64 a0_1]) (t := 23) ?hr ?_; (case hd => rfl); (case hg => rfl); (case hr => exact zH); intro gb241 hg w6 hbox hb; have BK241 := zA (hbox); have GW241 := zg HB hg; have GE241 := zg HB hg; replace HB := zA (below_step (zB HB) hb); clear hb hbox hg; have hcz7_0 := zc0 BK241; have hcz7_1 := zc1 BK241; have hfz7_0 := blk_frozen BK241.out 0; have hfz7_1 := blk_frozen BK241.out 1) | ((with_reducible refine gate_callee (f := 80) rfl ?_); refine goesL_ (some 6) rfl rfl Try.func80 (by kernel_rfl) rfl #[.agg #[.int .i64 a0_0, .int .i64 a0_1]] rfl zM ?_; (with_reducible refine (impl_IsTable.calls a0_0 a0_1 true _ A3.out).mono ?_); rintro e w8 ⟨rfl, hb⟩; refine ⟨_, rfl, ?_⟩; replace BK241 := zb BK241 hb; replace HB := zA (below_step (zB1 HB GE241) hb); (try clear hb); (try clear hb2); (try clear hk); (try clear hi); have hcz9_0 := zc0 BK241; have hcz9_1 := zc1 BK241; have hfz9_0 := blk_frozen BK241.out 0; have hfz9_1 := blk_frozen BK241.out 1) | (go_at_call 128; (with_reducible refine (impl_isInput.calls a0_0 a1 t243 _ A5.out).mono ?_); rintro e w' ⟨rfl, ⟨nd, rfl⟩⟩))
  go_ret
  exact ⟨by first | rfl | (simp [errW_none, errW_some] <;> rfl) | (simp [*, errW_none, errW_some] <;> rfl), zB1 HB GE241⟩
 ·replace c4 := Bool.eq_false_iff.mpr c4
  subst c4
  have H1 : (some false) = some r := by rw [if_neg (show ¬ (false = true) by decide)] at H; exact H
  clear H
  have H := H1
  clear H1
  obtain rfl := Option.some.inj H
  go_enter Try.func95, Try.ntmps95
  go_wp2_with (first | ((with_reducible refine gate_dst (N := 2) rfl ?_); refine box_event ?hg (N := 2) ?hd (cs := #[.int .i64 a0_0, .int .i64 a0_1]) (t := 23) ?hr ?_; (case hd => rfl); (case hg => rfl); (case hr => exact zH); intro gb241 hg w10 hbox hb; have BK241 := zA (hbox); have GW241 := zg HB hg; have GE241 := zg HB hg; replace HB := zA (below_step (zB HB) hb); clear hb hbox hg; have hcz11_0 := zc0 BK241; have hcz11_1 := zc1 BK241; have hfz11_0 := blk_frozen BK241.out 0; have hfz11_1 := blk_frozen BK241.out 1) | ((with_reducible refine gate_callee (f := 80) rfl ?_); refine goesL_ (some 6) rfl rfl Try.func80 (by kernel_rfl) rfl #[.agg #[.int .i64 a0_0, .int .i64 a0_1]] rfl zM ?_; (with_reducible refine (impl_IsTable.calls a0_0 a0_1 false _ A3.out).mono ?_); rintro e w12 ⟨rfl, hb⟩; refine ⟨_, rfl, ?_⟩; replace BK241 := zb BK241 hb; replace HB := zA (below_step (zB1 HB GE241) hb); (try clear hb); (try clear hb2); (try clear hk); (try clear hi)))
  go_ret
  exact ⟨by first | rfl | (simp [errW_none, errW_some] <;> rfl) | (simp [*, errW_none, errW_some] <;> rfl), zB1 HB GE241⟩

end Go.Proofs.Ytijpcemcijaeeaa.P
