/- The functions that this seat's laws reach, each as a plain Lean function, and the walk of each; written by a program over the kit's print. No conditions but those that stand in the theorems. -/
import Derived.Test.YtfiejicdlaknnaaK2
import Derived.Test.YtfiejicdlaknnaaPm1
import Derived.Test.YtfiejicdlaknnaaPv7
import Derived.Test.YtfiejicdlaknnaaPz3
namespace Go.Proofs.Ytfiejicdlaknnaa.P
open Go.RowKit Go.Proofs.YtfiejicdlaknnaaW.PrintWords Go.Proofs.YtfiejicdlaknnaaW.PrintLast Go.Proofs.YtfiejicdlaknnaaW.PrintMore
attribute [local go_sem] max2_int min2_int max_two min_two max_three min_three max_four min_four   -- for this text's walks alone
set_option linter.unusedVariables false
set_option linter.unusedSimpArgs false

attribute [local go_sem] fld25_0 fld25_1
/-! ### impl_IsPrimeTerm: function 13 -/
def impl_IsPrimeTerm.f (k : Nat) (a0_0 : Int) (a0_1 : Int) (a1_0 : Int) (a1_1 : Int) : Option (Bool) := (impl_IsTable.f a0_0 a0_1).bind fun t362 => (if t362 = true then ((impl_IsTerm.f a0_0 a1_0 a1_1).bind fun t363 => (if t363 = true then ((impl_Table_isPrime.f k a0_0 a0_1 a1_0 a1_1).bind fun t364 => (some t364)) else (some false))) else (some false))
theorem impl_IsPrimeTerm.mono : ∀ a0 a1 a2 a3 k, LeO (impl_IsPrimeTerm.f k a0 a1 a2 a3) (impl_IsPrimeTerm.f (k + 1) a0 a1 a2 a3) := by
 intro a0 a1 a2 a3 k
 unfold impl_IsPrimeTerm.f
 repeat' first
   | (with_reducible exact impl_Table_isPrime.mono _ _ _ _ _)
   | (with_reducible exact LeO.refl _)
   | (with_reducible exact LeO.none _)
   | (with_reducible refine LeO.ite ?_ ?_)
   | (with_reducible refine LeO.bind ?_ (fun _ => ?_))
   | exact impl_Table_isPrime.mono _ _ _ _ _
   | exact LeO.none _
   | refine LeO.ite ?_ ?_
   | refine LeO.bind ?_ (fun _ => ?_)
set_option maxHeartbeats 8000000 in
set_option maxRecDepth 100000 in
theorem impl_IsPrimeTerm.calls (k : Nat) (a0_0 : Int) (a0_1 : Int) (a1_0 : Int) (a1_1 : Int) (r : Bool) (w : World) (h : impl_IsPrimeTerm.f k a0_0 a0_1 a1_0 a1_1 = some r) :
  Calls Try.prog 13 #[.agg #[.int .i64 a0_0, .int .i64 a0_1], .agg #[.int .i64 a1_0, .int .i64 a1_1]] w fun e w' => e = .returned (.bool r) ∧ Below w.heap.size w w' := by
 have hu25 := Try.underlying25
 have hu33 := Try.underlying33
 have HB := zA (Below.refl w.heap.size w)
 have H := h
 unfold impl_IsPrimeTerm.f at H
 clear h
 replace H := Option.bind_eq_some_iff.mp H
 obtain ⟨t362, A30, H⟩ := H
 replace H : (if t362 = true then ((impl_IsTerm.f a0_0 a1_0 a1_1).bind fun t363 => (if t363 = true then ((impl_Table_isPrime.f k a0_0 a0_1 a1_0 a1_1).bind fun t364 => (some t364)) else (some false))) else (some false)) = some r := H
 have A3 := zA A30
 clear A30
 by_cases c4 : t362 = true
 ·subst c4
  have H1 : ((impl_IsTerm.f a0_0 a1_0 a1_1).bind fun t363 => (if t363 = true then ((impl_Table_isPrime.f k a0_0 a0_1 a1_0 a1_1).bind fun t364 => (some t364)) else (some false))) = some r := by rw [if_pos rfl] at H; exact H
  clear H
  have H := H1
  clear H1
  replace H := Option.bind_eq_some_iff.mp H
  obtain ⟨t363, A50, H⟩ := H
  replace H : (if t363 = true then ((impl_Table_isPrime.f k a0_0 a0_1 a1_0 a1_1).bind fun t364 => (some t364)) else (some false)) = some r := H
  have A5 := zA A50
  clear A50
  by_cases c6 : t363 = true
  ·subst c6
   have H1 : ((impl_Table_isPrime.f k a0_0 a0_1 a1_0 a1_1).bind fun t364 => (some t364)) = some r := by rw [if_pos rfl] at H; exact H
   clear H
   have H := H1
   clear H1
   replace H := Option.bind_eq_some_iff.mp H
   obtain ⟨t364, A70, H⟩ := H
   replace H : (some t364) = some r := H
   have A7 := zA A70
   clear A70
   obtain rfl := Option.some.inj H
   go_enter Try.func13, Try.ntmps13
   go_wp2_with (first | ((with_reducible refine gate_dst (N := 2) rfl ?_); refine box_event ?hg (N := 2) ?hd (cs := #[.int .i64 a0_0, .int .i64 a0_1]) (t := 25) ?hr ?_; (case hd => rfl); (case hg => rfl); (case hr => exact zH); intro gb360 hg w8 hbox hb; have BK360 := zA (hbox); have GW360 := zg HB hg; have GE360 := zg HB hg; replace HB := zA (below_step (zB HB) hb); clear hb hbox hg) | ((with_reducible refine gate_dst (N := 3) rfl ?_); refine box_event ?hg (N := 3) ?hd (cs := #[.int .i64 a1_0, .int .i64 a1_1]) (t := 33) ?hr ?_; (case hd => rfl); (case hg => rfl); (case hr => exact zH); intro gb361 hg w9 hbox hb; have BK361 := zA (hbox); have GW361 := zg1 HB GE360 hg; have GE361 := zg1 HB GE360 hg; have NB360_361 := zn BK360 hg; have NB361_360 := zo BK360 hg; replace BK360 := zb BK360 hb; replace HB := zA (below_step (zB1 HB GE360) hb); clear hb hbox hg; have hnb10 := NB360_361.out; have hnc10 := NB361_360.out; have hcz11_0 := zc0 BK360; have hcz11_1 := zc1 BK360; have hfz11_0 := blk_frozen BK360.out 0; have hfz11_1 := blk_frozen BK360.out 1) | ((with_reducible refine gate_callee (f := 39) rfl ?_); refine goesL_ (some 6) rfl rfl Try.func39 (by kernel_rfl) rfl #[.agg #[.int .i64 a0_0, .int .i64 a0_1]] rfl zM ?_; (with_reducible refine (impl_IsTable.calls a0_0 a0_1 true _ A3.out).mono ?_); rintro e w12 ⟨rfl, hb⟩; refine ⟨_, rfl, ?_⟩; replace BK360 := zb BK360 hb; replace BK361 := zb BK361 hb; replace HB := zA (below_step (zB2 HB GE360 GE361) hb); (try clear hb); (try clear hb2); (try clear hk); (try clear hi); have hcz13_0 := zc0 BK360; have hcz13_1 := zc1 BK360; have hfz13_0 := blk_frozen BK360.out 0; have hfz13_1 := blk_frozen BK360.out 1; have hcz14_0 := zc0 BK361; have hcz14_1 := zc1 BK361; have hfz14_0 := blk_frozen BK361.out 0; have hfz14_1 := blk_frozen BK361.out 1) | (go_at_call 21; (with_reducible refine (impl_IsTerm.calls a0_0 a1_0 a1_1 true _ A5.out).mono ?_); rintro e w15 ⟨rfl, hb⟩; replace BK360 := zb BK360 hb; replace BK361 := zb BK361 hb; replace HB := zA (below_step (zB2 HB GE360 GE361) hb); (try clear hb); (try clear hb2); (try clear hk); (try clear hi); have hcz16_0 := zc0 BK360; have hcz16_1 := zc1 BK360; have hfz16_0 := blk_frozen BK360.out 0; have hfz16_1 := blk_frozen BK360.out 1; have hcz17_0 := zc0 BK361; have hcz17_1 := zc1 BK361; have hfz17_0 := blk_frozen BK361.out 0; have hfz17_1 := blk_frozen BK361.out 1) | (go_at_call 44; (with_reducible refine (impl_Table_isPrime.calls k a0_0 a0_1 a1_0 a1_1 t364 _ A7.out).mono ?_); rintro e w18 ⟨rfl, hb⟩; replace BK360 := zb BK360 hb; replace BK361 := zb BK361 hb; replace HB := zA (below_step (zB2 HB GE360 GE361) hb); (try clear hb); (try clear hb2); (try clear hk); (try clear hi)))
   go_ret
   exact ⟨zE, zB2 HB GE360 GE361⟩
  ·replace c6 := Bool.eq_false_iff.mpr c6
   subst c6
   have H1 : (some false) = some r := by rw [if_neg (show ¬ (false = true) by decide)] at H; exact H
   clear H
   have H := H1
   clear H1
   obtain rfl := Option.some.inj H
   go_enter Try.func13, Try.ntmps13
   go_wp2_with (first | ((with_reducible refine gate_dst (N := 2) rfl ?_); refine box_event ?hg (N := 2) ?hd (cs := #[.int .i64 a0_0, .int .i64 a0_1]) (t := 25) ?hr ?_; (case hd => rfl); (case hg => rfl); (case hr => exact zH); intro gb360 hg w19 hbox hb; have BK360 := zA (hbox); have GW360 := zg HB hg; have GE360 := zg HB hg; replace HB := zA (below_step (zB HB) hb); clear hb hbox hg) | ((with_reducible refine gate_dst (N := 3) rfl ?_); refine box_event ?hg (N := 3) ?hd (cs := #[.int .i64 a1_0, .int .i64 a1_1]) (t := 33) ?hr ?_; (case hd => rfl); (case hg => rfl); (case hr => exact zH); intro gb361 hg w20 hbox hb; have BK361 := zA (hbox); have GW361 := zg1 HB GE360 hg; have GE361 := zg1 HB GE360 hg; have NB360_361 := zn BK360 hg; have NB361_360 := zo BK360 hg; replace BK360 := zb BK360 hb; replace HB := zA (below_step (zB1 HB GE360) hb); clear hb hbox hg; have hnb21 := NB360_361.out; have hnc21 := NB361_360.out; have hcz22_0 := zc0 BK360; have hcz22_1 := zc1 BK360; have hfz22_0 := blk_frozen BK360.out 0; have hfz22_1 := blk_frozen BK360.out 1) | ((with_reducible refine gate_callee (f := 39) rfl ?_); refine goesL_ (some 6) rfl rfl Try.func39 (by kernel_rfl) rfl #[.agg #[.int .i64 a0_0, .int .i64 a0_1]] rfl zM ?_; (with_reducible refine (impl_IsTable.calls a0_0 a0_1 true _ A3.out).mono ?_); rintro e w23 ⟨rfl, hb⟩; refine ⟨_, rfl, ?_⟩; replace BK360 := zb BK360 hb; replace BK361 := zb BK361 hb; replace HB := zA (below_step (zB2 HB GE360 GE361) hb); (try clear hb); (try clear hb2); (try clear hk); (try clear hi); have hcz24_0 := zc0 BK360; have hcz24_1 := zc1 BK360; have hfz24_0 := blk_frozen BK360.out 0; have hfz24_1 := blk_frozen BK360.out 1; have hcz25_0 := zc0 BK361; have hcz25_1 := zc1 BK361; have hfz25_0 := blk_frozen BK361.out 0; have hfz25_1 := blk_frozen BK361.out 1) | (go_at_call 21; (with_reducible refine (impl_IsTerm.calls a0_0 a1_0 a1_1 false _ A5.out).mono ?_); rintro e w26 ⟨rfl, hb⟩; replace BK360 := zb BK360 hb; replace BK361 := zb BK361 hb; replace HB := zA (below_step (zB2 HB GE360 GE361) hb); (try clear hb); (try clear hb2); (try clear hk); (try clear hi)))
   go_ret
   exact ⟨zE, zB2 HB GE360 GE361⟩
 ·replace c4 := Bool.eq_false_iff.mpr c4
  subst c4
  have H1 : (some false) = some r := by rw [if_neg (show ¬ (false = true) by decide)] at H; exact H
  clear H
  have H := H1
  clear H1
  obtain rfl := Option.some.inj H
  go_enter Try.func13, Try.ntmps13
  go_wp2_with (first | ((with_reducible refine gate_dst (N := 2) rfl ?_); refine box_event ?hg (N := 2) ?hd (cs := #[.int .i64 a0_0, .int .i64 a0_1]) (t := 25) ?hr ?_; (case hd => rfl); (case hg => rfl); (case hr => exact zH); intro gb360 hg w27 hbox hb; have BK360 := zA (hbox); have GW360 := zg HB hg; have GE360 := zg HB hg; replace HB := zA (below_step (zB HB) hb); clear hb hbox hg) | ((with_reducible refine gate_dst (N := 3) rfl ?_); refine box_event ?hg (N := 3) ?hd (cs := #[.int .i64 a1_0, .int .i64 a1_1]) (t := 33) ?hr ?_; (case hd => rfl); (case hg => rfl); (case hr => exact zH); intro gb361 hg w28 hbox hb; have BK361 := zA (hbox); have GW361 := zg1 HB GE360 hg; have GE361 := zg1 HB GE360 hg; have NB360_361 := zn BK360 hg; have NB361_360 := zo BK360 hg; replace BK360 := zb BK360 hb; replace HB := zA (below_step (zB1 HB GE360) hb); clear hb hbox hg; have hnb29 := NB360_361.out; have hnc29 := NB361_360.out; have hcz30_0 := zc0 BK360; have hcz30_1 := zc1 BK360; have hfz30_0 := blk_frozen BK360.out 0; have hfz30_1 := blk_frozen BK360.out 1) | ((with_reducible refine gate_callee (f := 39) rfl ?_); refine goesL_ (some 6) rfl rfl Try.func39 (by kernel_rfl) rfl #[.agg #[.int .i64 a0_0, .int .i64 a0_1]] rfl zM ?_; (with_reducible refine (impl_IsTable.calls a0_0 a0_1 false _ A3.out).mono ?_); rintro e w31 ⟨rfl, hb⟩; refine ⟨_, rfl, ?_⟩; replace BK360 := zb BK360 hb; replace BK361 := zb BK361 hb; replace HB := zA (below_step (zB2 HB GE360 GE361) hb); (try clear hb); (try clear hb2); (try clear hk); (try clear hi)))
  go_ret
  exact ⟨zE, zB2 HB GE360 GE361⟩

/-! ### impl_IsImplicant: function 14 -/
def impl_IsImplicant.f (a0_0 : Int) (a0_1 : Int) (a1_0 : Int) (a1_1 : Int) : Option (Bool) := (impl_IsTable.f a0_0 a0_1).bind fun t367 => (if t367 = true then ((impl_IsTerm.f a0_0 a1_0 a1_1).bind fun t368 => (if t368 = true then ((impl_Table_isImplicant.f a0_0 a0_1 a1_0 a1_1).bind fun t369 => (some t369)) else (some false))) else (some false))
set_option maxHeartbeats 8000000 in
set_option maxRecDepth 100000 in
theorem impl_IsImplicant.calls (a0_0 : Int) (a0_1 : Int) (a1_0 : Int) (a1_1 : Int) (r : Bool) (w : World) (h : impl_IsImplicant.f a0_0 a0_1 a1_0 a1_1 = some r) :
  Calls Try.prog 14 #[.agg #[.int .i64 a0_0, .int .i64 a0_1], .agg #[.int .i64 a1_0, .int .i64 a1_1]] w fun e w' => e = .returned (.bool r) ∧ Below w.heap.size w w' := by
 have hu25 := Try.underlying25
 have hu33 := Try.underlying33
 have HB := zA (Below.refl w.heap.size w)
 have H := h
 unfold impl_IsImplicant.f at H
 clear h
 replace H := Option.bind_eq_some_iff.mp H
 obtain ⟨t367, A30, H⟩ := H
 replace H : (if t367 = true then ((impl_IsTerm.f a0_0 a1_0 a1_1).bind fun t368 => (if t368 = true then ((impl_Table_isImplicant.f a0_0 a0_1 a1_0 a1_1).bind fun t369 => (some t369)) else (some false))) else (some false)) = some r := H
 have A3 := zA A30
 clear A30
 by_cases c4 : t367 = true
 ·subst c4
  have H1 : ((impl_IsTerm.f a0_0 a1_0 a1_1).bind fun t368 => (if t368 = true then ((impl_Table_isImplicant.f a0_0 a0_1 a1_0 a1_1).bind fun t369 => (some t369)) else (some false))) = some r := by rw [if_pos rfl] at H; exact H
  clear H
  have H := H1
  clear H1
  replace H := Option.bind_eq_some_iff.mp H
  obtain ⟨t368, A50, H⟩ := H
  replace H : (if t368 = true then ((impl_Table_isImplicant.f a0_0 a0_1 a1_0 a1_1).bind fun t369 => (some t369)) else (some false)) = some r := H
  have A5 := zA A50
  clear A50
  by_cases c6 : t368 = true
  ·subst c6
   have H1 : ((impl_Table_isImplicant.f a0_0 a0_1 a1_0 a1_1).bind fun t369 => (some t369)) = some r := by rw [if_pos rfl] at H; exact H
   clear H
   have H := H1
   clear H1
   replace H := Option.bind_eq_some_iff.mp H
   obtain ⟨t369, A70, H⟩ := H
   replace H : (some t369) = some r := H
   have A7 := zA A70
   clear A70
   obtain rfl := Option.some.inj H
   go_enter Try.func14, Try.ntmps14
   go_wp2_with (first | ((with_reducible refine gate_dst (N := 2) rfl ?_); refine box_event ?hg (N := 2) ?hd (cs := #[.int .i64 a0_0, .int .i64 a0_1]) (t := 25) ?hr ?_; (case hd => rfl); (case hg => rfl); (case hr => exact zH); intro gb365 hg w8 hbox hb; have BK365 := zA (hbox); have GW365 := zg HB hg; have GE365 := zg HB hg; replace HB := zA (below_step (zB HB) hb); clear hb hbox hg) | ((with_reducible refine gate_dst (N := 3) rfl ?_); refine box_event ?hg (N := 3) ?hd (cs := #[.int .i64 a1_0, .int .i64 a1_1]) (t := 33) ?hr ?_; (case hd => rfl); (case hg => rfl); (case hr => exact zH); intro gb366 hg w9 hbox hb; have BK366 := zA (hbox); have GW366 := zg1 HB GE365 hg; have GE366 := zg1 HB GE365 hg; have NB365_366 := zn BK365 hg; have NB366_365 := zo BK365 hg; replace BK365 := zb BK365 hb; replace HB := zA (below_step (zB1 HB GE365) hb); clear hb hbox hg; have hnb10 := NB365_366.out; have hnc10 := NB366_365.out; have hcz11_0 := zc0 BK365; have hcz11_1 := zc1 BK365; have hfz11_0 := blk_frozen BK365.out 0; have hfz11_1 := blk_frozen BK365.out 1) | ((with_reducible refine gate_callee (f := 39) rfl ?_); refine goesL_ (some 6) rfl rfl Try.func39 (by kernel_rfl) rfl #[.agg #[.int .i64 a0_0, .int .i64 a0_1]] rfl zM ?_; (with_reducible refine (impl_IsTable.calls a0_0 a0_1 true _ A3.out).mono ?_); rintro e w12 ⟨rfl, hb⟩; refine ⟨_, rfl, ?_⟩; replace BK365 := zb BK365 hb; replace BK366 := zb BK366 hb; replace HB := zA (below_step (zB2 HB GE365 GE366) hb); (try clear hb); (try clear hb2); (try clear hk); (try clear hi); have hcz13_0 := zc0 BK365; have hcz13_1 := zc1 BK365; have hfz13_0 := blk_frozen BK365.out 0; have hfz13_1 := blk_frozen BK365.out 1; have hcz14_0 := zc0 BK366; have hcz14_1 := zc1 BK366; have hfz14_0 := blk_frozen BK366.out 0; have hfz14_1 := blk_frozen BK366.out 1) | (go_at_call 21; (with_reducible refine (impl_IsTerm.calls a0_0 a1_0 a1_1 true _ A5.out).mono ?_); rintro e w15 ⟨rfl, hb⟩; replace BK365 := zb BK365 hb; replace BK366 := zb BK366 hb; replace HB := zA (below_step (zB2 HB GE365 GE366) hb); (try clear hb); (try clear hb2); (try clear hk); (try clear hi); have hcz16_0 := zc0 BK365; have hcz16_1 := zc1 BK365; have hfz16_0 := blk_frozen BK365.out 0; have hfz16_1 := blk_frozen BK365.out 1; have hcz17_0 := zc0 BK366; have hcz17_1 := zc1 BK366; have hfz17_0 := blk_frozen BK366.out 0; have hfz17_1 := blk_frozen BK366.out 1) | (go_at_call 45; (with_reducible refine (impl_Table_isImplicant.calls a0_0 a0_1 a1_0 a1_1 t369 _ A7.out).mono ?_); rintro e w18 ⟨rfl, hb⟩; replace BK365 := zb BK365 hb; replace BK366 := zb BK366 hb; replace HB := zA (below_step (zB2 HB GE365 GE366) hb); (try clear hb); (try clear hb2); (try clear hk); (try clear hi)))
   go_ret
   exact ⟨zE, zB2 HB GE365 GE366⟩
  ·replace c6 := Bool.eq_false_iff.mpr c6
   subst c6
   have H1 : (some false) = some r := by rw [if_neg (show ¬ (false = true) by decide)] at H; exact H
   clear H
   have H := H1
   clear H1
   obtain rfl := Option.some.inj H
   go_enter Try.func14, Try.ntmps14
   go_wp2_with (first | ((with_reducible refine gate_dst (N := 2) rfl ?_); refine box_event ?hg (N := 2) ?hd (cs := #[.int .i64 a0_0, .int .i64 a0_1]) (t := 25) ?hr ?_; (case hd => rfl); (case hg => rfl); (case hr => exact zH); intro gb365 hg w19 hbox hb; have BK365 := zA (hbox); have GW365 := zg HB hg; have GE365 := zg HB hg; replace HB := zA (below_step (zB HB) hb); clear hb hbox hg) | ((with_reducible refine gate_dst (N := 3) rfl ?_); refine box_event ?hg (N := 3) ?hd (cs := #[.int .i64 a1_0, .int .i64 a1_1]) (t := 33) ?hr ?_; (case hd => rfl); (case hg => rfl); (case hr => exact zH); intro gb366 hg w20 hbox hb; have BK366 := zA (hbox); have GW366 := zg1 HB GE365 hg; have GE366 := zg1 HB GE365 hg; have NB365_366 := zn BK365 hg; have NB366_365 := zo BK365 hg; replace BK365 := zb BK365 hb; replace HB := zA (below_step (zB1 HB GE365) hb); clear hb hbox hg; have hnb21 := NB365_366.out; have hnc21 := NB366_365.out; have hcz22_0 := zc0 BK365; have hcz22_1 := zc1 BK365; have hfz22_0 := blk_frozen BK365.out 0; have hfz22_1 := blk_frozen BK365.out 1) | ((with_reducible refine gate_callee (f := 39) rfl ?_); refine goesL_ (some 6) rfl rfl Try.func39 (by kernel_rfl) rfl #[.agg #[.int .i64 a0_0, .int .i64 a0_1]] rfl zM ?_; (with_reducible refine (impl_IsTable.calls a0_0 a0_1 true _ A3.out).mono ?_); rintro e w23 ⟨rfl, hb⟩; refine ⟨_, rfl, ?_⟩; replace BK365 := zb BK365 hb; replace BK366 := zb BK366 hb; replace HB := zA (below_step (zB2 HB GE365 GE366) hb); (try clear hb); (try clear hb2); (try clear hk); (try clear hi); have hcz24_0 := zc0 BK365; have hcz24_1 := zc1 BK365; have hfz24_0 := blk_frozen BK365.out 0; have hfz24_1 := blk_frozen BK365.out 1; have hcz25_0 := zc0 BK366; have hcz25_1 := zc1 BK366; have hfz25_0 := blk_frozen BK366.out 0; have hfz25_1 := blk_frozen BK366.out 1) | (go_at_call 21; (with_reducible refine (impl_IsTerm.calls a0_0 a1_0 a1_1 false _ A5.out).mono ?_); rintro e w26 ⟨rfl, hb⟩; replace BK365 := zb BK365 hb; replace BK366 := zb BK366 hb; replace HB := zA (below_step (zB2 HB GE365 GE366) hb); (try clear hb); (try clear hb2); (try clear hk); (try clear hi)))
   go_ret
   exact ⟨zE, zB2 HB GE365 GE366⟩
 ·replace c4 := Bool.eq_false_iff.mpr c4
  subst c4
  have H1 : (some false) = some r := by rw [if_neg (show ¬ (false = true) by decide)] at H; exact H
  clear H
  have H := H1
  clear H1
  obtain rfl := Option.some.inj H
  go_enter Try.func14, Try.ntmps14
  go_wp2_with (first | ((with_reducible refine gate_dst (N := 2) rfl ?_); refine box_event ?hg (N := 2) ?hd (cs := #[.int .i64 a0_0, .int .i64 a0_1]) (t := 25) ?hr ?_; (case hd => rfl); (case hg => rfl); (case hr => exact zH); intro gb365 hg w27 hbox hb; have BK365 := zA (hbox); have GW365 := zg HB hg; have GE365 := zg HB hg; replace HB := zA (below_step (zB HB) hb); clear hb hbox hg) | ((with_reducible refine gate_dst (N := 3) rfl ?_); refine box_event ?hg (N := 3) ?hd (cs := #[.int .i64 a1_0, .int .i64 a1_1]) (t := 33) ?hr ?_; (case hd => rfl); (case hg => rfl); (case hr => exact zH); intro gb366 hg w28 hbox hb; have BK366 := zA (hbox); have GW366 := zg1 HB GE365 hg; have GE366 := zg1 HB GE365 hg; have NB365_366 := zn BK365 hg; have NB366_365 := zo BK365 hg; replace BK365 := zb BK365 hb; replace HB := zA (below_step (zB1 HB GE365) hb); clear hb hbox hg; have hnb29 := NB365_366.out; have hnc29 := NB366_365.out; have hcz30_0 := zc0 BK365; have hcz30_1 := zc1 BK365; have hfz30_0 := blk_frozen BK365.out 0; have hfz30_1 := blk_frozen BK365.out 1) | ((with_reducible refine gate_callee (f := 39) rfl ?_); refine goesL_ (some 6) rfl rfl Try.func39 (by kernel_rfl) rfl #[.agg #[.int .i64 a0_0, .int .i64 a0_1]] rfl zM ?_; (with_reducible refine (impl_IsTable.calls a0_0 a0_1 false _ A3.out).mono ?_); rintro e w31 ⟨rfl, hb⟩; refine ⟨_, rfl, ?_⟩; replace BK365 := zb BK365 hb; replace BK366 := zb BK366 hb; replace HB := zA (below_step (zB2 HB GE365 GE366) hb); (try clear hb); (try clear hb2); (try clear hk); (try clear hi)))
  go_ret
  exact ⟨zE, zB2 HB GE365 GE366⟩

/-! ### spec_IsPrimeTerm: function 28 -/
def spec_IsPrimeTerm.f (k : Nat) (a0_0 : Int) (a0_1 : Int) (a1_0 : Int) (a1_1 : Int) : Option (Bool) := (spec_IsTable.f a0_0 a0_1).bind fun t586 => (if t586 = true then ((spec_IsTerm.f a0_0 a1_0 a1_1).bind fun t587 => (if t587 = true then ((spec_l6Prime.f k a0_0 a0_1 a1_0 a1_1).bind fun t588 => (some t588)) else (some false))) else (some false))
theorem spec_IsPrimeTerm.mono : ∀ a0 a1 a2 a3 k, LeO (spec_IsPrimeTerm.f k a0 a1 a2 a3) (spec_IsPrimeTerm.f (k + 1) a0 a1 a2 a3) := by
 intro a0 a1 a2 a3 k
 unfold spec_IsPrimeTerm.f
 repeat' first
   | (with_reducible exact spec_l6Prime.mono _ _ _ _ _)
   | (with_reducible exact LeO.refl _)
   | (with_reducible exact LeO.none _)
   | (with_reducible refine LeO.ite ?_ ?_)
   | (with_reducible refine LeO.bind ?_ (fun _ => ?_))
   | exact spec_l6Prime.mono _ _ _ _ _
   | exact LeO.none _
   | refine LeO.ite ?_ ?_
   | refine LeO.bind ?_ (fun _ => ?_)
set_option maxHeartbeats 8000000 in
set_option maxRecDepth 100000 in
theorem spec_IsPrimeTerm.calls (k : Nat) (a0_0 : Int) (a0_1 : Int) (a1_0 : Int) (a1_1 : Int) (r : Bool) (w : World) (h : spec_IsPrimeTerm.f k a0_0 a0_1 a1_0 a1_1 = some r) :
  Calls Try.prog 28 #[.agg #[.int .i64 a0_0, .int .i64 a0_1], .agg #[.int .i64 a1_0, .int .i64 a1_1]] w fun e w' => e = .returned (.bool r) ∧ Below w.heap.size w w' := by
 have hu25 := Try.underlying25
 have hu33 := Try.underlying33
 have HB := zA (Below.refl w.heap.size w)
 have H := h
 unfold spec_IsPrimeTerm.f at H
 clear h
 replace H := Option.bind_eq_some_iff.mp H
 obtain ⟨t586, A30, H⟩ := H
 replace H : (if t586 = true then ((spec_IsTerm.f a0_0 a1_0 a1_1).bind fun t587 => (if t587 = true then ((spec_l6Prime.f k a0_0 a0_1 a1_0 a1_1).bind fun t588 => (some t588)) else (some false))) else (some false)) = some r := H
 have A3 := zA A30
 clear A30
 by_cases c4 : t586 = true
 ·subst c4
  have H1 : ((spec_IsTerm.f a0_0 a1_0 a1_1).bind fun t587 => (if t587 = true then ((spec_l6Prime.f k a0_0 a0_1 a1_0 a1_1).bind fun t588 => (some t588)) else (some false))) = some r := by rw [if_pos rfl] at H; exact H
  clear H
  have H := H1
  clear H1
  replace H := Option.bind_eq_some_iff.mp H
  obtain ⟨t587, A50, H⟩ := H
  replace H : (if t587 = true then ((spec_l6Prime.f k a0_0 a0_1 a1_0 a1_1).bind fun t588 => (some t588)) else (some false)) = some r := H
  have A5 := zA A50
  clear A50
  by_cases c6 : t587 = true
  ·subst c6
   have H1 : ((spec_l6Prime.f k a0_0 a0_1 a1_0 a1_1).bind fun t588 => (some t588)) = some r := by rw [if_pos rfl] at H; exact H
   clear H
   have H := H1
   clear H1
   replace H := Option.bind_eq_some_iff.mp H
   obtain ⟨t588, A70, H⟩ := H
   replace H : (some t588) = some r := H
   have A7 := zA A70
   clear A70
   obtain rfl := Option.some.inj H
   go_enter Try.func28, Try.ntmps28
   go_wp2_with (first | ((with_reducible refine gate_dst (N := 2) rfl ?_); refine box_event ?hg (N := 2) ?hd (cs := #[.int .i64 a0_0, .int .i64 a0_1]) (t := 25) ?hr ?_; (case hd => rfl); (case hg => rfl); (case hr => exact zH); intro gb584 hg w8 hbox hb; have BK584 := zA (hbox); have GW584 := zg HB hg; have GE584 := zg HB hg; replace HB := zA (below_step (zB HB) hb); clear hb hbox hg) | ((with_reducible refine gate_dst (N := 3) rfl ?_); refine box_event ?hg (N := 3) ?hd (cs := #[.int .i64 a1_0, .int .i64 a1_1]) (t := 33) ?hr ?_; (case hd => rfl); (case hg => rfl); (case hr => exact zH); intro gb585 hg w9 hbox hb; have BK585 := zA (hbox); have GW585 := zg1 HB GE584 hg; have GE585 := zg1 HB GE584 hg; have NB584_585 := zn BK584 hg; have NB585_584 := zo BK584 hg; replace BK584 := zb BK584 hb; replace HB := zA (below_step (zB1 HB GE584) hb); clear hb hbox hg; have hnb10 := NB584_585.out; have hnc10 := NB585_584.out; have hcz11_0 := zc0 BK584; have hcz11_1 := zc1 BK584; have hfz11_0 := blk_frozen BK584.out 0; have hfz11_1 := blk_frozen BK584.out 1) | ((with_reducible refine gate_callee (f := 36) rfl ?_); refine goesL_ (some 6) rfl rfl Try.func36 (by kernel_rfl) rfl #[.agg #[.int .i64 a0_0, .int .i64 a0_1]] rfl zM ?_; (with_reducible refine (spec_IsTable.calls a0_0 a0_1 true _ A3.out).mono ?_); rintro e w12 ⟨rfl, hb⟩; refine ⟨_, rfl, ?_⟩; replace BK584 := zb BK584 hb; replace BK585 := zb BK585 hb; replace HB := zA (below_step (zB2 HB GE584 GE585) hb); (try clear hb); (try clear hb2); (try clear hk); (try clear hi); have hcz13_0 := zc0 BK584; have hcz13_1 := zc1 BK584; have hfz13_0 := blk_frozen BK584.out 0; have hfz13_1 := blk_frozen BK584.out 1; have hcz14_0 := zc0 BK585; have hcz14_1 := zc1 BK585; have hfz14_0 := blk_frozen BK585.out 0; have hfz14_1 := blk_frozen BK585.out 1) | (go_at_call 20; (with_reducible refine (spec_IsTerm.calls a0_0 a1_0 a1_1 true _ A5.out).mono ?_); rintro e w15 ⟨rfl, hb⟩; replace BK584 := zb BK584 hb; replace BK585 := zb BK585 hb; replace HB := zA (below_step (zB2 HB GE584 GE585) hb); (try clear hb); (try clear hb2); (try clear hk); (try clear hi); have hcz16_0 := zc0 BK584; have hcz16_1 := zc1 BK584; have hfz16_0 := blk_frozen BK584.out 0; have hfz16_1 := blk_frozen BK584.out 1; have hcz17_0 := zc0 BK585; have hcz17_1 := zc1 BK585; have hfz17_0 := blk_frozen BK585.out 0; have hfz17_1 := blk_frozen BK585.out 1) | (go_at_call 58; (with_reducible refine (spec_l6Prime.calls k a0_0 a0_1 a1_0 a1_1 t588 _ A7.out).mono ?_); rintro e w18 ⟨rfl, hb⟩; replace BK584 := zb BK584 hb; replace BK585 := zb BK585 hb; replace HB := zA (below_step (zB2 HB GE584 GE585) hb); (try clear hb); (try clear hb2); (try clear hk); (try clear hi)))
   go_ret
   exact ⟨zE, zB2 HB GE584 GE585⟩
  ·replace c6 := Bool.eq_false_iff.mpr c6
   subst c6
   have H1 : (some false) = some r := by rw [if_neg (show ¬ (false = true) by decide)] at H; exact H
   clear H
   have H := H1
   clear H1
   obtain rfl := Option.some.inj H
   go_enter Try.func28, Try.ntmps28
   go_wp2_with (first | ((with_reducible refine gate_dst (N := 2) rfl ?_); refine box_event ?hg (N := 2) ?hd (cs := #[.int .i64 a0_0, .int .i64 a0_1]) (t := 25) ?hr ?_; (case hd => rfl); (case hg => rfl); (case hr => exact zH); intro gb584 hg w19 hbox hb; have BK584 := zA (hbox); have GW584 := zg HB hg; have GE584 := zg HB hg; replace HB := zA (below_step (zB HB) hb); clear hb hbox hg) | ((with_reducible refine gate_dst (N := 3) rfl ?_); refine box_event ?hg (N := 3) ?hd (cs := #[.int .i64 a1_0, .int .i64 a1_1]) (t := 33) ?hr ?_; (case hd => rfl); (case hg => rfl); (case hr => exact zH); intro gb585 hg w20 hbox hb; have BK585 := zA (hbox); have GW585 := zg1 HB GE584 hg; have GE585 := zg1 HB GE584 hg; have NB584_585 := zn BK584 hg; have NB585_584 := zo BK584 hg; replace BK584 := zb BK584 hb; replace HB := zA (below_step (zB1 HB GE584) hb); clear hb hbox hg; have hnb21 := NB584_585.out; have hnc21 := NB585_584.out; have hcz22_0 := zc0 BK584; have hcz22_1 := zc1 BK584; have hfz22_0 := blk_frozen BK584.out 0; have hfz22_1 := blk_frozen BK584.out 1) | ((with_reducible refine gate_callee (f := 36) rfl ?_); refine goesL_ (some 6) rfl rfl Try.func36 (by kernel_rfl) rfl #[.agg #[.int .i64 a0_0, .int .i64 a0_1]] rfl zM ?_; (with_reducible refine (spec_IsTable.calls a0_0 a0_1 true _ A3.out).mono ?_); rintro e w23 ⟨rfl, hb⟩; refine ⟨_, rfl, ?_⟩; replace BK584 := zb BK584 hb; replace BK585 := zb BK585 hb; replace HB := zA (below_step (zB2 HB GE584 GE585) hb); (try clear hb); (try clear hb2); (try clear hk); (try clear hi); have hcz24_0 := zc0 BK584; have hcz24_1 := zc1 BK584; have hfz24_0 := blk_frozen BK584.out 0; have hfz24_1 := blk_frozen BK584.out 1; have hcz25_0 := zc0 BK585; have hcz25_1 := zc1 BK585; have hfz25_0 := blk_frozen BK585.out 0; have hfz25_1 := blk_frozen BK585.out 1) | (go_at_call 20; (with_reducible refine (spec_IsTerm.calls a0_0 a1_0 a1_1 false _ A5.out).mono ?_); rintro e w26 ⟨rfl, hb⟩; replace BK584 := zb BK584 hb; replace BK585 := zb BK585 hb; replace HB := zA (below_step (zB2 HB GE584 GE585) hb); (try clear hb); (try clear hb2); (try clear hk); (try clear hi)))
   go_ret
   exact ⟨zE, zB2 HB GE584 GE585⟩
 ·replace c4 := Bool.eq_false_iff.mpr c4
  subst c4
  have H1 : (some false) = some r := by rw [if_neg (show ¬ (false = true) by decide)] at H; exact H
  clear H
  have H := H1
  clear H1
  obtain rfl := Option.some.inj H
  go_enter Try.func28, Try.ntmps28
  go_wp2_with (first | ((with_reducible refine gate_dst (N := 2) rfl ?_); refine box_event ?hg (N := 2) ?hd (cs := #[.int .i64 a0_0, .int .i64 a0_1]) (t := 25) ?hr ?_; (case hd => rfl); (case hg => rfl); (case hr => exact zH); intro gb584 hg w27 hbox hb; have BK584 := zA (hbox); have GW584 := zg HB hg; have GE584 := zg HB hg; replace HB := zA (below_step (zB HB) hb); clear hb hbox hg) | ((with_reducible refine gate_dst (N := 3) rfl ?_); refine box_event ?hg (N := 3) ?hd (cs := #[.int .i64 a1_0, .int .i64 a1_1]) (t := 33) ?hr ?_; (case hd => rfl); (case hg => rfl); (case hr => exact zH); intro gb585 hg w28 hbox hb; have BK585 := zA (hbox); have GW585 := zg1 HB GE584 hg; have GE585 := zg1 HB GE584 hg; have NB584_585 := zn BK584 hg; have NB585_584 := zo BK584 hg; replace BK584 := zb BK584 hb; replace HB := zA (below_step (zB1 HB GE584) hb); clear hb hbox hg; have hnb29 := NB584_585.out; have hnc29 := NB585_584.out; have hcz30_0 := zc0 BK584; have hcz30_1 := zc1 BK584; have hfz30_0 := blk_frozen BK584.out 0; have hfz30_1 := blk_frozen BK584.out 1) | ((with_reducible refine gate_callee (f := 36) rfl ?_); refine goesL_ (some 6) rfl rfl Try.func36 (by kernel_rfl) rfl #[.agg #[.int .i64 a0_0, .int .i64 a0_1]] rfl zM ?_; (with_reducible refine (spec_IsTable.calls a0_0 a0_1 false _ A3.out).mono ?_); rintro e w31 ⟨rfl, hb⟩; refine ⟨_, rfl, ?_⟩; replace BK584 := zb BK584 hb; replace BK585 := zb BK585 hb; replace HB := zA (below_step (zB2 HB GE584 GE585) hb); (try clear hb); (try clear hb2); (try clear hk); (try clear hi)))
  go_ret
  exact ⟨zE, zB2 HB GE584 GE585⟩

/-! ### spec_IsImplicant: function 29 -/
def spec_IsImplicant.f (k : Nat) (a0_0 : Int) (a0_1 : Int) (a1_0 : Int) (a1_1 : Int) : Option (Bool) := (spec_IsTable.f a0_0 a0_1).bind fun t591 => (if t591 = true then ((spec_IsTerm.f a0_0 a1_0 a1_1).bind fun t592 => (if t592 = true then ((spec_l6Implies.f k a0_0 a0_1 a1_0 a1_1).bind fun t593 => (some t593)) else (some false))) else (some false))
theorem spec_IsImplicant.mono : ∀ a0 a1 a2 a3 k, LeO (spec_IsImplicant.f k a0 a1 a2 a3) (spec_IsImplicant.f (k + 1) a0 a1 a2 a3) := by
 intro a0 a1 a2 a3 k
 unfold spec_IsImplicant.f
 repeat' first
   | (with_reducible exact spec_l6Implies.mono _ _ _ _ _)
   | (with_reducible exact LeO.refl _)
   | (with_reducible exact LeO.none _)
   | (with_reducible refine LeO.ite ?_ ?_)
   | (with_reducible refine LeO.bind ?_ (fun _ => ?_))
   | exact spec_l6Implies.mono _ _ _ _ _
   | exact LeO.none _
   | refine LeO.ite ?_ ?_
   | refine LeO.bind ?_ (fun _ => ?_)
set_option maxHeartbeats 8000000 in
set_option maxRecDepth 100000 in
theorem spec_IsImplicant.calls (k : Nat) (a0_0 : Int) (a0_1 : Int) (a1_0 : Int) (a1_1 : Int) (r : Bool) (w : World) (h : spec_IsImplicant.f k a0_0 a0_1 a1_0 a1_1 = some r) :
  Calls Try.prog 29 #[.agg #[.int .i64 a0_0, .int .i64 a0_1], .agg #[.int .i64 a1_0, .int .i64 a1_1]] w fun e w' => e = .returned (.bool r) ∧ Below w.heap.size w w' := by
 have hu25 := Try.underlying25
 have hu33 := Try.underlying33
 have HB := zA (Below.refl w.heap.size w)
 have H := h
 unfold spec_IsImplicant.f at H
 clear h
 replace H := Option.bind_eq_some_iff.mp H
 obtain ⟨t591, A30, H⟩ := H
 replace H : (if t591 = true then ((spec_IsTerm.f a0_0 a1_0 a1_1).bind fun t592 => (if t592 = true then ((spec_l6Implies.f k a0_0 a0_1 a1_0 a1_1).bind fun t593 => (some t593)) else (some false))) else (some false)) = some r := H
 have A3 := zA A30
 clear A30
 by_cases c4 : t591 = true
 ·subst c4
  have H1 : ((spec_IsTerm.f a0_0 a1_0 a1_1).bind fun t592 => (if t592 = true then ((spec_l6Implies.f k a0_0 a0_1 a1_0 a1_1).bind fun t593 => (some t593)) else (some false))) = some r := by rw [if_pos rfl] at H; exact H
  clear H
  have H := H1
  clear H1
  replace H := Option.bind_eq_some_iff.mp H
  obtain ⟨t592, A50, H⟩ := H
  replace H : (if t592 = true then ((spec_l6Implies.f k a0_0 a0_1 a1_0 a1_1).bind fun t593 => (some t593)) else (some false)) = some r := H
  have A5 := zA A50
  clear A50
  by_cases c6 : t592 = true
  ·subst c6
   have H1 : ((spec_l6Implies.f k a0_0 a0_1 a1_0 a1_1).bind fun t593 => (some t593)) = some r := by rw [if_pos rfl] at H; exact H
   clear H
   have H := H1
   clear H1
   replace H := Option.bind_eq_some_iff.mp H
   obtain ⟨t593, A70, H⟩ := H
   replace H : (some t593) = some r := H
   have A7 := zA A70
   clear A70
   obtain rfl := Option.some.inj H
   go_enter Try.func29, Try.ntmps29
   go_wp2_with (first | ((with_reducible refine gate_dst (N := 2) rfl ?_); refine box_event ?hg (N := 2) ?hd (cs := #[.int .i64 a0_0, .int .i64 a0_1]) (t := 25) ?hr ?_; (case hd => rfl); (case hg => rfl); (case hr => exact zH); intro gb589 hg w8 hbox hb; have BK589 := zA (hbox); have GW589 := zg HB hg; have GE589 := zg HB hg; replace HB := zA (below_step (zB HB) hb); clear hb hbox hg) | ((with_reducible refine gate_dst (N := 3) rfl ?_); refine box_event ?hg (N := 3) ?hd (cs := #[.int .i64 a1_0, .int .i64 a1_1]) (t := 33) ?hr ?_; (case hd => rfl); (case hg => rfl); (case hr => exact zH); intro gb590 hg w9 hbox hb; have BK590 := zA (hbox); have GW590 := zg1 HB GE589 hg; have GE590 := zg1 HB GE589 hg; have NB589_590 := zn BK589 hg; have NB590_589 := zo BK589 hg; replace BK589 := zb BK589 hb; replace HB := zA (below_step (zB1 HB GE589) hb); clear hb hbox hg; have hnb10 := NB589_590.out; have hnc10 := NB590_589.out; have hcz11_0 := zc0 BK589; have hcz11_1 := zc1 BK589; have hfz11_0 := blk_frozen BK589.out 0; have hfz11_1 := blk_frozen BK589.out 1) | ((with_reducible refine gate_callee (f := 36) rfl ?_); refine goesL_ (some 6) rfl rfl Try.func36 (by kernel_rfl) rfl #[.agg #[.int .i64 a0_0, .int .i64 a0_1]] rfl zM ?_; (with_reducible refine (spec_IsTable.calls a0_0 a0_1 true _ A3.out).mono ?_); rintro e w12 ⟨rfl, hb⟩; refine ⟨_, rfl, ?_⟩; replace BK589 := zb BK589 hb; replace BK590 := zb BK590 hb; replace HB := zA (below_step (zB2 HB GE589 GE590) hb); (try clear hb); (try clear hb2); (try clear hk); (try clear hi); have hcz13_0 := zc0 BK589; have hcz13_1 := zc1 BK589; have hfz13_0 := blk_frozen BK589.out 0; have hfz13_1 := blk_frozen BK589.out 1; have hcz14_0 := zc0 BK590; have hcz14_1 := zc1 BK590; have hfz14_0 := blk_frozen BK590.out 0; have hfz14_1 := blk_frozen BK590.out 1) | (go_at_call 20; (with_reducible refine (spec_IsTerm.calls a0_0 a1_0 a1_1 true _ A5.out).mono ?_); rintro e w15 ⟨rfl, hb⟩; replace BK589 := zb BK589 hb; replace BK590 := zb BK590 hb; replace HB := zA (below_step (zB2 HB GE589 GE590) hb); (try clear hb); (try clear hb2); (try clear hk); (try clear hi); have hcz16_0 := zc0 BK589; have hcz16_1 := zc1 BK589; have hfz16_0 := blk_frozen BK589.out 0; have hfz16_1 := blk_frozen BK589.out 1; have hcz17_0 := zc0 BK590; have hcz17_1 := zc1 BK590; have hfz17_0 := blk_frozen BK590.out 0; have hfz17_1 := blk_frozen BK590.out 1) | (go_at_call 59; (with_reducible refine (spec_l6Implies.calls k a0_0 a0_1 a1_0 a1_1 t593 _ A7.out).mono ?_); rintro e w18 ⟨rfl, hb⟩; replace BK589 := zb BK589 hb; replace BK590 := zb BK590 hb; replace HB := zA (below_step (zB2 HB GE589 GE590) hb); (try clear hb); (try clear hb2); (try clear hk); (try clear hi)))
   go_ret
   exact ⟨zE, zB2 HB GE589 GE590⟩
  ·replace c6 := Bool.eq_false_iff.mpr c6
   subst c6
   have H1 : (some false) = some r := by rw [if_neg (show ¬ (false = true) by decide)] at H; exact H
   clear H
   have H := H1
   clear H1
   obtain rfl := Option.some.inj H
   go_enter Try.func29, Try.ntmps29
   go_wp2_with (first | ((with_reducible refine gate_dst (N := 2) rfl ?_); refine box_event ?hg (N := 2) ?hd (cs := #[.int .i64 a0_0, .int .i64 a0_1]) (t := 25) ?hr ?_; (case hd => rfl); (case hg => rfl); (case hr => exact zH); intro gb589 hg w19 hbox hb; have BK589 := zA (hbox); have GW589 := zg HB hg; have GE589 := zg HB hg; replace HB := zA (below_step (zB HB) hb); clear hb hbox hg) | ((with_reducible refine gate_dst (N := 3) rfl ?_); refine box_event ?hg (N := 3) ?hd (cs := #[.int .i64 a1_0, .int .i64 a1_1]) (t := 33) ?hr ?_; (case hd => rfl); (case hg => rfl); (case hr => exact zH); intro gb590 hg w20 hbox hb; have BK590 := zA (hbox); have GW590 := zg1 HB GE589 hg; have GE590 := zg1 HB GE589 hg; have NB589_590 := zn BK589 hg; have NB590_589 := zo BK589 hg; replace BK589 := zb BK589 hb; replace HB := zA (below_step (zB1 HB GE589) hb); clear hb hbox hg; have hnb21 := NB589_590.out; have hnc21 := NB590_589.out; have hcz22_0 := zc0 BK589; have hcz22_1 := zc1 BK589; have hfz22_0 := blk_frozen BK589.out 0; have hfz22_1 := blk_frozen BK589.out 1) | ((with_reducible refine gate_callee (f := 36) rfl ?_); refine goesL_ (some 6) rfl rfl Try.func36 (by kernel_rfl) rfl #[.agg #[.int .i64 a0_0, .int .i64 a0_1]] rfl zM ?_; (with_reducible refine (spec_IsTable.calls a0_0 a0_1 true _ A3.out).mono ?_); rintro e w23 ⟨rfl, hb⟩; refine ⟨_, rfl, ?_⟩; replace BK589 := zb BK589 hb; replace BK590 := zb BK590 hb; replace HB := zA (below_step (zB2 HB GE589 GE590) hb); (try clear hb); (try clear hb2); (try clear hk); (try clear hi); have hcz24_0 := zc0 BK589; have hcz24_1 := zc1 BK589; have hfz24_0 := blk_frozen BK589.out 0; have hfz24_1 := blk_frozen BK589.out 1; have hcz25_0 := zc0 BK590; have hcz25_1 := zc1 BK590; have hfz25_0 := blk_frozen BK590.out 0; have hfz25_1 := blk_frozen BK590.out 1) | (go_at_call 20; (with_reducible refine (spec_IsTerm.calls a0_0 a1_0 a1_1 false _ A5.out).mono ?_); rintro e w26 ⟨rfl, hb⟩; replace BK589 := zb BK589 hb; replace BK590 := zb BK590 hb; replace HB := zA (below_step (zB2 HB GE589 GE590) hb); (try clear hb); (try clear hb2); (try clear hk); (try clear hi)))
   go_ret
   exact ⟨zE, zB2 HB GE589 GE590⟩
 ·replace c4 := Bool.eq_false_iff.mpr c4
  subst c4
  have H1 : (some false) = some r := by rw [if_neg (show ¬ (false = true) by decide)] at H; exact H
  clear H
  have H := H1
  clear H1
  obtain rfl := Option.some.inj H
  go_enter Try.func29, Try.ntmps29
  go_wp2_with (first | ((with_reducible refine gate_dst (N := 2) rfl ?_); refine box_event ?hg (N := 2) ?hd (cs := #[.int .i64 a0_0, .int .i64 a0_1]) (t := 25) ?hr ?_; (case hd => rfl); (case hg => rfl); (case hr => exact zH); intro gb589 hg w27 hbox hb; have BK589 := zA (hbox); have GW589 := zg HB hg; have GE589 := zg HB hg; replace HB := zA (below_step (zB HB) hb); clear hb hbox hg) | ((with_reducible refine gate_dst (N := 3) rfl ?_); refine box_event ?hg (N := 3) ?hd (cs := #[.int .i64 a1_0, .int .i64 a1_1]) (t := 33) ?hr ?_; (case hd => rfl); (case hg => rfl); (case hr => exact zH); intro gb590 hg w28 hbox hb; have BK590 := zA (hbox); have GW590 := zg1 HB GE589 hg; have GE590 := zg1 HB GE589 hg; have NB589_590 := zn BK589 hg; have NB590_589 := zo BK589 hg; replace BK589 := zb BK589 hb; replace HB := zA (below_step (zB1 HB GE589) hb); clear hb hbox hg; have hnb29 := NB589_590.out; have hnc29 := NB590_589.out; have hcz30_0 := zc0 BK589; have hcz30_1 := zc1 BK589; have hfz30_0 := blk_frozen BK589.out 0; have hfz30_1 := blk_frozen BK589.out 1) | ((with_reducible refine gate_callee (f := 36) rfl ?_); refine goesL_ (some 6) rfl rfl Try.func36 (by kernel_rfl) rfl #[.agg #[.int .i64 a0_0, .int .i64 a0_1]] rfl zM ?_; (with_reducible refine (spec_IsTable.calls a0_0 a0_1 false _ A3.out).mono ?_); rintro e w31 ⟨rfl, hb⟩; refine ⟨_, rfl, ?_⟩; replace BK589 := zb BK589 hb; replace BK590 := zb BK590 hb; replace HB := zA (below_step (zB2 HB GE589 GE590) hb); (try clear hb); (try clear hb2); (try clear hk); (try clear hi)))
  go_ret
  exact ⟨zE, zB2 HB GE589 GE590⟩

end Go.Proofs.Ytfiejicdlaknnaa.P
