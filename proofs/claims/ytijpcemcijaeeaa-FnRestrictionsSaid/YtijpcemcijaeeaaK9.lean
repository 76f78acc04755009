/- The functions that this seat's laws reach, each as a plain Lean function, and the walk of each; written by a program over the kit's print. No conditions but those that stand in the theorems. -/
import Derived.Test.YtijpcemcijaeeaaP0
import Derived.Test.YtijpcemcijaeeaaPa
import Derived.Test.YtijpcemcijaeeaaPm
import Derived.Test.YtijpcemcijaeeaaPy1
import Derived.Test.YtijpcemcijaeeaaPa1
import Derived.Test.YtijpcemcijaeeaaK5
import Derived.Test.YtijpcemcijaeeaaK6

namespace Go.Proofs.Ytijpcemcijaeeaa.P
open Go.RowKit Go.Proofs.YtijpcemcijaeeaaW.PrintWords Go.Proofs.YtijpcemcijaeeaaW.PrintLast Go.Proofs.YtijpcemcijaeeaaW.PrintMore
attribute [local go_sem] max2_int min2_int max_two min_two max_three min_three max_four min_four   -- for this text's walks alone
set_option linter.unusedVariables false
set_option linter.unusedSimpArgs false

attribute [local go_sem] fld23_0 fld23_1
/-! ### impl_PermuteTable: function 48 -/
def impl_PermuteTable.f (k : Nat) (a0_0 : Int) (a0_1 : Int) (l1 : List Int) : Option (Int × Int × Bool) := (impl_IsTable.f a0_0 a0_1).bind fun t405 => (if t405 = true then ((impl_isOrder.f k l1 a0_0).bind fun t406 => (if t406 = true then ((impl_Table_permute.f k a0_0 a0_1 l1).bind fun bt407 => (some (bt407.1, bt407.2, true))) else (some (0, 0, false)))) else (some (0, 0, false)))
theorem impl_PermuteTable.mono : ∀ a0 a1 a2 k, LeO (impl_PermuteTable.f k a0 a1 a2) (impl_PermuteTable.f (k + 1) a0 a1 a2) := by
 intro a0 a1 a2 k
 unfold impl_PermuteTable.f
 repeat' first
   | (with_reducible exact impl_Table_permute.mono _ _ _ _)
   | (with_reducible exact impl_isOrder.mono _ _ _)
   | (with_reducible exact LeO.refl _)
   | (with_reducible exact LeO.none _)
   | (with_reducible refine LeO.ite ?_ ?_)
   | (with_reducible refine LeO.bind ?_ (fun _ => ?_))
   | exact impl_Table_permute.mono _ _ _ _
   | exact impl_isOrder.mono _ _ _
   | exact LeO.none _
   | refine LeO.ite ?_ ?_
   | refine LeO.bind ?_ (fun _ => ?_)
set_option maxHeartbeats 8000000 in
set_option maxRecDepth 100000 in
theorem impl_PermuteTable.calls (k : Nat) (a0_0 : Int) (a0_1 : Int) (A1 : Option Addr) (c1 : Nat) (l1 : List Int) (r1 : Int) (r2 : Int) (r3 : Bool) (w : World) (hr1 : Kd.C (Kd.int .i64) w A1 l1.length l1) (hc1 : l1.length ≤ c1) (h : impl_PermuteTable.f k a0_0 a0_1 l1 = some (r1, r2, r3)) :
  Calls Try.prog 48 #[.agg #[.int .i64 a0_0, .int .i64 a0_1], .slice A1 l1.length c1] w fun e w' => e = .returned (.tuple #[.agg #[.int .i64 r1, .int .i64 r2], .bool r3]) ∧ Below w.heap.size w w' := by
 have hu23 := Try.underlying23
 have HR1 := zA hr1
 have HC1 := zA hc1
 clear hr1 hc1
 have HB := zA (Below.refl w.heap.size w)
 have H := h
 unfold impl_PermuteTable.f at H
 clear h
 replace H := Option.bind_eq_some_iff.mp H
 obtain ⟨t405, A30, H⟩ := H
 replace H : (if t405 = true then ((impl_isOrder.f k l1 a0_0).bind fun t406 => (if t406 = true then ((impl_Table_permute.f k a0_0 a0_1 l1).bind fun bt407 => (some (bt407.1, bt407.2, true))) else (some (0, 0, false)))) else (some (0, 0, false))) = some (r1, r2, r3) := H
 have A3 := zA A30
 clear A30
 by_cases c4 : t405 = true
 ·subst c4
  have H1 : ((impl_isOrder.f k l1 a0_0).bind fun t406 => (if t406 = true then ((impl_Table_permute.f k a0_0 a0_1 l1).bind fun bt407 => (some (bt407.1, bt407.2, true))) else (some (0, 0, false)))) = some (r1, r2, r3) := by rw [if_pos rfl] at H; exact H
  clear H
  have H := H1
  clear H1
  replace H := Option.bind_eq_some_iff.mp H
  obtain ⟨t406, A50, H⟩ := H
  replace H : (if t406 = true then ((impl_Table_permute.f k a0_0 a0_1 l1).bind fun bt407 => (some (bt407.1, bt407.2, true))) else (some (0, 0, false))) = some (r1, r2, r3) := H
  have A5 := zA A50
  clear A50
  by_cases c6 : t406 = true
  ·subst c6
   have H1 : ((impl_Table_permute.f k a0_0 a0_1 l1).bind fun bt407 => (some (bt407.1, bt407.2, true))) = some (r1, r2, r3) := by rw [if_pos rfl] at H; exact H
   clear H
   have H := H1
   clear H1
   replace H := Option.bind_eq_some_iff.mp H
   obtain ⟨⟨t407, t408⟩, A70, H⟩ := H
   replace H : (some (t407, t408, true)) = some (r1, r2, r3) := H
   have A7 := zA A70
   clear A70
   simp only [Option.some.injEq, Prod.mk.injEq] at H
   obtain ⟨rfl, rfl, rfl⟩ := H
   go_enter Try.func48, Try.ntmps48
   go_wp2_with (first | ((with_reducible refine gate_dst (N := 2) rfl ?_); refine box_event ?hg (N := 2) ?hd (cs := #[.int .i64 a0_0, .int .i64 a0_1]) (t := 23) ?hr ?_; (case hd => rfl); (case hg => rfl); (case hr => exact zH); intro gb403 hg w8 hbox hb; have BK403 := zA (hbox); have GW403 := zg HB hg; have GE403 := zg HB hg; replace HB := zA (below_step (zB HB) hb); clear hb hbox hg) | ((with_reducible refine gate_dst (N := 4) rfl ?_); refine box_event ?hg (N := 4) ?hd (cs := #[.int .i64 0, .int .i64 0]) (t := 23) ?hr ?_; (case hd => rfl); (case hg => rfl); (case hr => exact zH); intro gb404 hg w9 hbox hb; have BK404 := zA (hbox); have GW404 := zg1 HB GE403 hg; have GE404 := zg1 HB GE403 hg; have NB403_404 := zn BK403 hg; have NB404_403 := zo BK403 hg; replace BK403 := zb BK403 hb; replace HB := zA (below_step (zB1 HB GE403) hb); clear hb hbox hg; have hnb10 := NB403_404.out; have hnc10 := NB404_403.out; have hcz11_0 := zc0 BK403; have hcz11_1 := zc1 BK403; have hfz11_0 := blk_frozen BK403.out 0; have hfz11_1 := blk_frozen BK403.out 1) | ((with_reducible refine gate_callee (f := 80) rfl ?_); refine goesL_ (some 7) rfl rfl Try.func80 (by kernel_rfl) rfl #[.agg #[.int .i64 a0_0, .int .i64 a0_1]] rfl zM ?_; (with_reducible refine (impl_IsTable.calls a0_0 a0_1 true _ A3.out).mono ?_); rintro e w12 ⟨rfl, hb⟩; refine ⟨_, rfl, ?_⟩; replace BK403 := zb BK403 hb; replace BK404 := zb BK404 hb; replace HB := zA (below_step (zB2 HB GE403 GE404) hb); (try clear hb); (try clear hb2); (try clear hk); (try clear hi); have hcz13_0 := zc0 BK403; have hcz13_1 := zc1 BK403; have hfz13_0 := blk_frozen BK403.out 0; have hfz13_1 := blk_frozen BK403.out 1) | (go_at_call 105; (with_reducible refine (impl_isOrder.calls k _ _ l1 a0_0 true _ ?side1 ?side2 A5.out).mono ?_); (case side1 => repeat (first | exact (Kd.C_below HR1.out HB.out) | (with_reducible refine Kd.C_alloc ?_ _) | (with_reducible refine Kd.C_drewN ?_ _) | (with_reducible refine Kd.C_drew ?_))); (case side2 => exact HC1.out); rintro e w' ⟨rfl, ⟨nd, rfl⟩⟩; (try (rw [drewN_self w12]; generalize hq_ : World.drewN w12 _ = w12; have n0_ : Aside0 (w12.heap[gb403]? = some (.cells #[.int .i64 a0_0, .int .i64 a0_1] 23 (0, 0))) := ⟨by rw [← hq_]; exact (zD BK403)⟩; have n1_ : Aside0 (w12.heap[gb404]? = some (.cells #[.int .i64 0, .int .i64 0] 23 (0, 0))) := ⟨by rw [← hq_]; exact (zD BK404)⟩; have n2_ : Aside0 (Below w.heap.size w w12) := ⟨by rw [← hq_]; exact (zB2 HB GE403 GE404)⟩; clear BK403 BK404 HB hq_; have BK403 := n0_; have BK404 := n1_; have HB := n2_; clear n0_ n1_ n2_)); (try (have hcz13_0 := zc0 BK403; have hfz13_0 := blk_frozen BK403.out 0; have hcz13_1 := zc1 BK403; have hfz13_1 := blk_frozen BK403.out 1))) | ((with_reducible refine gate_callee (f := 106) rfl ?_); refine goesL_ (some 19) rfl rfl Try.func106 (by kernel_rfl) rfl #[.agg #[.int .i64 a0_0, .int .i64 a0_1], .slice A1 l1.length c1] rfl zM ?_; (with_reducible refine (impl_Table_permute.calls k a0_0 a0_1 _ _ l1 t407 t408 _ ?side1 ?side2 A7.out).mono ?_); (case side1 => repeat (first | exact (Kd.C_below HR1.out HB.out) | (with_reducible refine Kd.C_alloc ?_ _) | (with_reducible refine Kd.C_drewN ?_ _) | (with_reducible refine Kd.C_drew ?_))); (case side2 => exact HC1.out); rintro e w14 ⟨rfl, hb⟩; refine ⟨_, rfl, ?_⟩; replace BK403 := zb BK403 hb; replace BK404 := zb BK404 hb; replace HB := zA (below_step (zB2 HB GE403 GE404) hb); (try clear hb); (try clear hb2); (try clear hk); (try clear hi); have hcz15_0 := zc0 BK404; have hcz15_1 := zc1 BK404; have hfz15_0 := blk_frozen BK404.out 0; have hfz15_1 := blk_frozen BK404.out 1))
   refine bodyPost_ret (results_ct rfl _ _ gb404 23 #[.int .i64 t407, .int .i64 t408] (0, 0) _ rfl (zP BK404) Try.underlying23 rfl (by kernel_rfl)) rfl ?_
   exact ⟨by first | rfl | (simp [errW_none, errW_some] <;> rfl) | (simp [*, errW_none, errW_some] <;> rfl), zB2 HB GE403 GE404⟩
  ·replace c6 := Bool.eq_false_iff.mpr c6
   subst c6
   have H1 : (some (0, 0, false)) = some (r1, r2, r3) := by rw [if_neg (show ¬ (false = true) by decide)] at H; exact H
   clear H
   have H := H1
   clear H1
   simp only [Option.some.injEq, Prod.mk.injEq] at H
   obtain ⟨rfl, rfl, rfl⟩ := H
   go_enter Try.func48, Try.ntmps48
   go_wp2_with (first | ((with_reducible refine gate_dst (N := 2) rfl ?_); refine box_event ?hg (N := 2) ?hd (cs := #[.int .i64 a0_0, .int .i64 a0_1]) (t := 23) ?hr ?_; (case hd => rfl); (case hg => rfl); (case hr => exact zH); intro gb403 hg w16 hbox hb; have BK403 := zA (hbox); have GW403 := zg HB hg; have GE403 := zg HB hg; replace HB := zA (below_step (zB HB) hb); clear hb hbox hg) | ((with_reducible refine gate_dst (N := 4) rfl ?_); refine box_event ?hg (N := 4) ?hd (cs := #[.int .i64 0, .int .i64 0]) (t := 23) ?hr ?_; (case hd => rfl); (case hg => rfl); (case hr => exact zH); intro gb404 hg w17 hbox hb; have BK404 := zA (hbox); have GW404 := zg1 HB GE403 hg; have GE404 := zg1 HB GE403 hg; have NB403_404 := zn BK403 hg; have NB404_403 := zo BK403 hg; replace BK403 := zb BK403 hb; replace HB := zA (below_step (zB1 HB GE403) hb); clear hb hbox hg; have hnb18 := NB403_404.out; have hnc18 := NB404_403.out; have hcz19_0 := zc0 BK403; have hcz19_1 := zc1 BK403; have hfz19_0 := blk_frozen BK403.out 0; have hfz19_1 := blk_frozen BK403.out 1) | ((with_reducible refine gate_callee (f := 80) rfl ?_); refine goesL_ (some 7) rfl rfl Try.func80 (by kernel_rfl) rfl #[.agg #[.int .i64 a0_0, .int .i64 a0_1]] rfl zM ?_; (with_reducible refine (impl_IsTable.calls a0_0 a0_1 true _ A3.out).mono ?_); rintro e w20 ⟨rfl, hb⟩; refine ⟨_, rfl, ?_⟩; replace BK403 := zb BK403 hb; replace BK404 := zb BK404 hb; replace HB := zA (below_step (zB2 HB GE403 GE404) hb); (try clear hb); (try clear hb2); (try clear hk); (try clear hi); have hcz21_0 := zc0 BK403; have hcz21_1 := zc1 BK403; have hfz21_0 := blk_frozen BK403.out 0; have hfz21_1 := blk_frozen BK403.out 1) | (go_at_call 105; (with_reducible refine (impl_isOrder.calls k _ _ l1 a0_0 false _ ?side1 ?side2 A5.out).mono ?_); (case side1 => repeat (first | exact (Kd.C_below HR1.out HB.out) | (with_reducible refine Kd.C_alloc ?_ _) | (with_reducible refine Kd.C_drewN ?_ _) | (with_reducible refine Kd.C_drew ?_))); (case side2 => exact HC1.out); rintro e w' ⟨rfl, ⟨nd, rfl⟩⟩; (try (rw [drewN_self w20]; generalize hq_ : World.drewN w20 _ = w20; have n0_ : Aside0 (w20.heap[gb403]? = some (.cells #[.int .i64 a0_0, .int .i64 a0_1] 23 (0, 0))) := ⟨by rw [← hq_]; exact (zD BK403)⟩; have n1_ : Aside0 (w20.heap[gb404]? = some (.cells #[.int .i64 0, .int .i64 0] 23 (0, 0))) := ⟨by rw [← hq_]; exact (zD BK404)⟩; have n2_ : Aside0 (Below w.heap.size w w20) := ⟨by rw [← hq_]; exact (zB2 HB GE403 GE404)⟩; clear BK403 BK404 HB hq_; have BK403 := n0_; have BK404 := n1_; have HB := n2_; clear n0_ n1_ n2_)); (try (have hcz21_0 := zc0 BK403; have hfz21_0 := blk_frozen BK403.out 0; have hcz21_1 := zc1 BK403; have hfz21_1 := blk_frozen BK403.out 1)); have hcz22_0 := zc0 BK404; have hcz22_1 := zc1 BK404; have hfz22_0 := blk_frozen BK404.out 0; have hfz22_1 := blk_frozen BK404.out 1))
   refine bodyPost_ret (results_ct rfl _ _ gb404 23 #[.int .i64 0, .int .i64 0] (0, 0) _ rfl (zP BK404) Try.underlying23 rfl (by kernel_rfl)) rfl ?_
   exact ⟨by first | rfl | (simp [errW_none, errW_some] <;> rfl) | (simp [*, errW_none, errW_some] <;> rfl), zB2 HB GE403 GE404⟩
 ·replace c4 := Bool.eq_false_iff.mpr c4
  subst c4
  have H1 : (some (0, 0, false)) = some (r1, r2, r3) := by rw [if_neg (show ¬ (false = true) by decide)] at H; exact H
  clear H
  have H := H1
  clear H1
  simp only [Option.some.injEq, Prod.mk.injEq] at H
  obtain ⟨rfl, rfl, rfl⟩ := H
  go_enter Try.func48, Try.ntmps48
  go_wp2_with (first | ((with_reducible refine gate_dst (N := 2) rfl ?_); refine box_event ?hg (N := 2) ?hd (cs := #[.int .i64 a0_0, .int .i64 a0_1]) (t := 23) ?hr ?_; (case hd => rfl); (case hg => rfl); (case hr => exact zH); intro gb403 hg w23 hbox hb; have BK403 := zA (hbox); have GW403 := zg HB hg; have GE403 := zg HB hg; replace HB := zA (below_step (zB HB) hb); clear hb hbox hg) | ((with_reducible refine gate_dst (N := 4) rfl ?_); refine box_event ?hg (N := 4) ?hd (cs := #[.int .i64 0, .int .i64 0]) (t := 23) ?hr ?_; (case hd => rfl); (case hg => rfl); (case hr => exact zH); intro gb404 hg w24 hbox hb; have BK404 := zA (hbox); have GW404 := zg1 HB GE403 hg; have GE404 := zg1 HB GE403 hg; have NB403_404 := zn BK403 hg; have NB404_403 := zo BK403 hg; replace BK403 := zb BK403 hb; replace HB := zA (below_step (zB1 HB GE403) hb); clear hb hbox hg; have hnb25 := NB403_404.out; have hnc25 := NB404_403.out; have hcz26_0 := zc0 BK403; have hcz26_1 := zc1 BK403; have hfz26_0 := blk_frozen BK403.out 0; have hfz26_1 := blk_frozen BK403.out 1) | ((with_reducible refine gate_callee (f := 80) rfl ?_); refine goesL_ (some 7) rfl rfl Try.func80 (by kernel_rfl) rfl #[.agg #[.int .i64 a0_0, .int .i64 a0_1]] rfl zM ?_; (with_reducible refine (impl_IsTable.calls a0_0 a0_1 false _ A3.out).mono ?_); rintro e w27 ⟨rfl, hb⟩; refine ⟨_, rfl, ?_⟩; replace BK403 := zb BK403 hb; replace BK404 := zb BK404 hb; replace HB := zA (below_step (zB2 HB GE403 GE404) hb); (try clear hb); (try clear hb2); (try clear hk); (try clear hi); have hcz28_0 := zc0 BK404; have hcz28_1 := zc1 BK404; have hfz28_0 := blk_frozen BK404.out 0; have hfz28_1 := blk_frozen BK404.out 1))
  refine bodyPost_ret (results_ct rfl _ _ gb404 23 #[.int .i64 0, .int .i64 0] (0, 0) _ rfl (zP BK404) Try.underlying23 rfl (by kernel_rfl)) rfl ?_
  exact ⟨by first | rfl | (simp [errW_none, errW_some] <;> rfl) | (simp [*, errW_none, errW_some] <;> rfl), zB2 HB GE403 GE404⟩

end Go.Proofs.Ytijpcemcijaeeaa.P

namespace Go.Proofs.Ytijpcemcijaeeaa.P
open Go.RowKit Go.Proofs.YtijpcemcijaeeaaW.PrintWords Go.Proofs.YtijpcemcijaeeaaW.PrintLast Go.Proofs.YtijpcemcijaeeaaW.PrintMore
attribute [local go_sem] max2_int min2_int max_two min_two max_three min_three max_four min_four   -- for this text's walks alone
set_option linter.unusedVariables false
set_option linter.unusedSimpArgs false

attribute [local go_sem] fld23_0 fld23_1
/-! ### impl_RestrictTable: function 38 -/
def impl_RestrictTable.f (a0_0 : Int) (a0_1 : Int) (a1 : Int) (a2 : Int) : Option (Int × Int × Bool) := (impl_hasVariable.f a0_0 a0_1 a1).bind fun t290 => (if t290 = true then ((impl_isBit.f a2).bind fun t291 => (if t291 = true then ((impl_Table_restrict.f a0_0 a0_1 a1 a2).bind fun bt292 => (some (bt292.1, bt292.2, true))) else (some (0, 0, false)))) else (some (0, 0, false)))
set_option maxHeartbeats 8000000 in
set_option maxRecDepth 100000 in
theorem impl_RestrictTable.calls (a0_0 : Int) (a0_1 : Int) (a1 : Int) (a2 : Int) (r1 : Int) (r2 : Int) (r3 : Bool) (w : World) (h : impl_RestrictTable.f a0_0 a0_1 a1 a2 = some (r1, r2, r3)) :
  Calls Try.prog 38 #[.agg #[.int .i64 a0_0, .int .i64 a0_1], .int .i64 a1, .int .i64 a2] w fun e w' => e = .returned (.tuple #[.agg #[.int .i64 r1, .int .i64 r2], .bool r3]) ∧ Below w.heap.size w w' := by
 have hu23 := Try.underlying23
 have HB := zA (Below.refl w.heap.size w)
 have H := h
 unfold impl_RestrictTable.f at H
 clear h
 replace H := Option.bind_eq_some_iff.mp H
 obtain ⟨t290, A40, H⟩ := H
 replace H : (if t290 = true then ((impl_isBit.f a2).bind fun t291 => (if t291 = true then ((impl_Table_restrict.f a0_0 a0_1 a1 a2).bind fun bt292 => (some (bt292.1, bt292.2, true))) else (some (0, 0, false)))) else (some (0, 0, false))) = some (r1, r2, r3) := H
 have A4 := zA A40
 clear A40
 by_cases c5 : t290 = true
 ·subst c5
  have H1 : ((impl_isBit.f a2).bind fun t291 => (if t291 = true then ((impl_Table_restrict.f a0_0 a0_1 a1 a2).bind fun bt292 => (some (bt292.1, bt292.2, true))) else (some (0, 0, false)))) = some (r1, r2, r3) := by rw [if_pos rfl] at H; exact H
  clear H
  have H := H1
  clear H1
  replace H := Option.bind_eq_some_iff.mp H
  obtain ⟨t291, A60, H⟩ := H
  replace H : (if t291 = true then ((impl_Table_restrict.f a0_0 a0_1 a1 a2).bind fun bt292 => (some (bt292.1, bt292.2, true))) else (some (0, 0, false))) = some (r1, r2, r3) := H
  have A6 := zA A60
  clear A60
  by_cases c7 : t291 = true
  ·subst c7
   have H1 : ((impl_Table_restrict.f a0_0 a0_1 a1 a2).bind fun bt292 => (some (bt292.1, bt292.2, true))) = some (r1, r2, r3) := by rw [if_pos rfl] at H; exact H
   clear H
   have H := H1
   clear H1
   replace H := Option.bind_eq_some_iff.mp H
   obtain ⟨⟨t292, t293⟩, A80, H⟩ := H
   replace H : (some (t292, t293, true)) = some (r1, r2, r3) := H
   have A8 := zA A80
   clear A80
   simp only [Option.some.injEq, Prod.mk.injEq] at H
   obtain ⟨rfl, rfl, rfl⟩ := H
   go_enter Try.func38, Try.ntmps38
   go_wp2_with (first | ((with_reducible refine gate_dst (N := 3) rfl ?_); refine box_event ?hg (N := 3) ?hd (cs := #[.int .i64 a0_0, .int .i64 a0_1]) (t := 23) ?hr ?_; (case hd => rfl); (case hg => rfl); (case hr => exact zH); intro gb288 hg w9 hbox hb; have BK288 := zA (hbox); have GW288 := zg HB hg; have GE288 := zg HB hg; replace HB := zA (below_step (zB HB) hb); clear hb hbox hg) | ((with_reducible refine gate_dst (N := 6) rfl ?_); refine box_event ?hg (N := 6) ?hd (cs := #[.int .i64 0, .int .i64 0]) (t := 23) ?hr ?_; (case hd => rfl); (case hg => rfl); (case hr => exact zH); intro gb289 hg w10 hbox hb; have BK289 := zA (hbox); have GW289 := zg1 HB GE288 hg; have GE289 := zg1 HB GE288 hg; have NB288_289 := zn BK288 hg; have NB289_288 := zo BK288 hg; replace BK288 := zb BK288 hb; replace HB := zA (below_step (zB1 HB GE288) hb); clear hb hbox hg; have hnb11 := NB288_289.out; have hnc11 := NB289_288.out; have hcz12_0 := zc0 BK288; have hcz12_1 := zc1 BK288; have hfz12_0 := blk_frozen BK288.out 0; have hfz12_1 := blk_frozen BK288.out 1) | ((with_reducible refine gate_callee (f := 86) rfl ?_); refine goesL_ (some 10) rfl rfl Try.func86 (by kernel_rfl) rfl #[.agg #[.int .i64 a0_0, .int .i64 a0_1], .int .i64 a1] rfl zM ?_; (with_reducible refine (impl_hasVariable.calls a0_0 a0_1 a1 true _ A4.out).mono ?_); rintro e w13 ⟨rfl, hb⟩; refine ⟨_, rfl, ?_⟩; replace BK288 := zb BK288 hb; replace BK289 := zb BK289 hb; replace HB := zA (below_step (zB2 HB GE288 GE289) hb); (try clear hb); (try clear hb2); (try clear hk); (try clear hi)) | (go_at_call 101; (with_reducible refine (impl_isBit.calls a2 true _ A6.out).mono ?_); rintro e w' ⟨rfl, ⟨nd, rfl⟩⟩; (try (rw [drewN_self w13]; generalize hq_ : World.drewN w13 _ = w13; have n0_ : Aside0 (w13.heap[gb288]? = some (.cells #[.int .i64 a0_0, .int .i64 a0_1] 23 (0, 0))) := ⟨by rw [← hq_]; exact (zD BK288)⟩; have n1_ : Aside0 (w13.heap[gb289]? = some (.cells #[.int .i64 0, .int .i64 0] 23 (0, 0))) := ⟨by rw [← hq_]; exact (zD BK289)⟩; have n2_ : Aside0 (Below w.heap.size w w13) := ⟨by rw [← hq_]; exact (zB2 HB GE288 GE289)⟩; clear BK288 BK289 HB hq_; have BK288 := n0_; have BK289 := n1_; have HB := n2_; clear n0_ n1_ n2_)); have hcz14_0 := zc0 BK288; have hcz14_1 := zc1 BK288; have hfz14_0 := blk_frozen BK288.out 0; have hfz14_1 := blk_frozen BK288.out 1) | ((with_reducible refine gate_callee (f := 102) rfl ?_); refine goesL_ (some 21) rfl rfl Try.func102 (by kernel_rfl) rfl #[.agg #[.int .i64 a0_0, .int .i64 a0_1], .int .i64 a1, .int .i64 a2] rfl zM ?_; (with_reducible refine (impl_Table_restrict.calls a0_0 a0_1 a1 a2 t292 t293 _ A8.out).mono ?_); rintro e w15 ⟨rfl, hb⟩; refine ⟨_, rfl, ?_⟩; replace BK288 := zb BK288 hb; replace BK289 := zb BK289 hb; replace HB := zA (below_step (zB2 HB GE288 GE289) hb); (try clear hb); (try clear hb2); (try clear hk); (try clear hi); have hcz16_0 := zc0 BK289; have hcz16_1 := zc1 BK289; have hfz16_0 := blk_frozen BK289.out 0; have hfz16_1 := blk_frozen BK289.out 1))
   refine bodyPost_ret (results_ct rfl _ _ gb289 23 #[.int .i64 t292, .int .i64 t293] (0, 0) _ rfl (zP BK289) Try.underlying23 rfl (by kernel_rfl)) rfl ?_
   exact ⟨by first | rfl | (simp [errW_none, errW_some] <;> rfl) | (simp [*, errW_none, errW_some] <;> rfl), zB2 HB GE288 GE289⟩
  ·replace c7 := Bool.eq_false_iff.mpr c7
   subst c7
   have H1 : (some (0, 0, false)) = some (r1, r2, r3) := by rw [if_neg (show ¬ (false = true) by decide)] at H; exact H
   clear H
   have H := H1
   clear H1
   simp only [Option.some.injEq, Prod.mk.injEq] at H
   obtain ⟨rfl, rfl, rfl⟩ := H
   go_enter Try.func38, Try.ntmps38
   go_wp2_with (first | ((with_reducible refine gate_dst (N := 3) rfl ?_); refine box_event ?hg (N := 3) ?hd (cs := #[.int .i64 a0_0, .int .i64 a0_1]) (t := 23) ?hr ?_; (case hd => rfl); (case hg => rfl); (case hr => exact zH); intro gb288 hg w17 hbox hb; have BK288 := zA (hbox); have GW288 := zg HB hg; have GE288 := zg HB hg; replace HB := zA (below_step (zB HB) hb); clear hb hbox hg) | ((with_reducible refine gate_dst (N := 6) rfl ?_); refine box_event ?hg (N := 6) ?hd (cs := #[.int .i64 0, .int .i64 0]) (t := 23) ?hr ?_; (case hd => rfl); (case hg => rfl); (case hr => exact zH); intro gb289 hg w18 hbox hb; have BK289 := zA (hbox); have GW289 := zg1 HB GE288 hg; have GE289 := zg1 HB GE288 hg; have NB288_289 := zn BK288 hg; have NB289_288 := zo BK288 hg; replace BK288 := zb BK288 hb; replace HB := zA (below_step (zB1 HB GE288) hb); clear hb hbox hg; have hnb19 := NB288_289.out; have hnc19 := NB289_288.out; have hcz20_0 := zc0 BK288; have hcz20_1 := zc1 BK288; have hfz20_0 := blk_frozen BK288.out 0; have hfz20_1 := blk_frozen BK288.out 1) | ((with_reducible refine gate_callee (f := 86) rfl ?_); refine goesL_ (some 10) rfl rfl Try.func86 (by kernel_rfl) rfl #[.agg #[.int .i64 a0_0, .int .i64 a0_1], .int .i64 a1] rfl zM ?_; (with_reducible refine (impl_hasVariable.calls a0_0 a0_1 a1 true _ A4.out).mono ?_); rintro e w21 ⟨rfl, hb⟩; refine ⟨_, rfl, ?_⟩; replace BK288 := zb BK288 hb; replace BK289 := zb BK289 hb; replace HB := zA (below_step (zB2 HB GE288 GE289) hb); (try clear hb); (try clear hb2); (try clear hk); (try clear hi)) | (go_at_call 101; (with_reducible refine (impl_isBit.calls a2 false _ A6.out).mono ?_); rintro e w' ⟨rfl, ⟨nd, rfl⟩⟩; (try (rw [drewN_self w21]; generalize hq_ : World.drewN w21 _ = w21; have n0_ : Aside0 (w21.heap[gb288]? = some (.cells #[.int .i64 a0_0, .int .i64 a0_1] 23 (0, 0))) := ⟨by rw [← hq_]; exact (zD BK288)⟩; have n1_ : Aside0 (w21.heap[gb289]? = some (.cells #[.int .i64 0, .int .i64 0] 23 (0, 0))) := ⟨by rw [← hq_]; exact (zD BK289)⟩; have n2_ : Aside0 (Below w.heap.size w w21) := ⟨by rw [← hq_]; exact (zB2 HB GE288 GE289)⟩; clear BK288 BK289 HB hq_; have BK288 := n0_; have BK289 := n1_; have HB := n2_; clear n0_ n1_ n2_)); have hcz22_0 := zc0 BK289; have hcz22_1 := zc1 BK289; have hfz22_0 := blk_frozen BK289.out 0; have hfz22_1 := blk_frozen BK289.out 1))
   refine bodyPost_ret (results_ct rfl _ _ gb289 23 #[.int .i64 0, .int .i64 0] (0, 0) _ rfl (zP BK289) Try.underlying23 rfl (by kernel_rfl)) rfl ?_
   exact ⟨by first | rfl | (simp [errW_none, errW_some] <;> rfl) | (simp [*, errW_none, errW_some] <;> rfl), zB2 HB GE288 GE289⟩
 ·replace c5 := Bool.eq_false_iff.mpr c5
  subst c5
  have H1 : (some (0, 0, false)) = some (r1, r2, r3) := by rw [if_neg (show ¬ (false = true) by decide)] at H; exact H
  clear H
  have H := H1
  clear H1
  simp only [Option.some.injEq, Prod.mk.injEq] at H
  obtain ⟨rfl, rfl, rfl⟩ := H
  go_enter Try.func38, Try.ntmps38
  go_wp2_with (first | ((with_reducible refine gate_dst (N := 3) rfl ?_); refine box_event ?hg (N := 3) ?hd (cs := #[.int .i64 a0_0, .int .i64 a0_1]) (t := 23) ?hr ?_; (case hd => rfl); (case hg => rfl); (case hr => exact zH); intro gb288 hg w23 hbox hb; have BK288 := zA (hbox); have GW288 := zg HB hg; have GE288 := zg HB hg; replace HB := zA (below_step (zB HB) hb); clear hb hbox hg) | ((with_reducible refine gate_dst (N := 6) rfl ?_); refine box_event ?hg (N := 6) ?hd (cs := #[.int .i64 0, .int .i64 0]) (t := 23) ?hr ?_; (case hd => rfl); (case hg => rfl); (case hr => exact zH); intro gb289 hg w24 hbox hb; have BK289 := zA (hbox); have GW289 := zg1 HB GE288 hg; have GE289 := zg1 HB GE288 hg; have NB288_289 := zn BK288 hg; have NB289_288 := zo BK288 hg; replace BK288 := zb BK288 hb; replace HB := zA (below_step (zB1 HB GE288) hb); clear hb hbox hg; have hnb25 := NB288_289.out; have hnc25 := NB289_288.out; have hcz26_0 := zc0 BK288; have hcz26_1 := zc1 BK288; have hfz26_0 := blk_frozen BK288.out 0; have hfz26_1 := blk_frozen BK288.out 1) | ((with_reducible refine gate_callee (f := 86) rfl ?_); refine goesL_ (some 10) rfl rfl Try.func86 (by kernel_rfl) rfl #[.agg #[.int .i64 a0_0, .int .i64 a0_1], .int .i64 a1] rfl zM ?_; (with_reducible refine (impl_hasVariable.calls a0_0 a0_1 a1 false _ A4.out).mono ?_); rintro e w27 ⟨rfl, hb⟩; refine ⟨_, rfl, ?_⟩; replace BK288 := zb BK288 hb; replace BK289 := zb BK289 hb; replace HB := zA (below_step (zB2 HB GE288 GE289) hb); (try clear hb); (try clear hb2); (try clear hk); (try clear hi); have hcz28_0 := zc0 BK289; have hcz28_1 := zc1 BK289; have hfz28_0 := blk_frozen BK289.out 0; have hfz28_1 := blk_frozen BK289.out 1))
  refine bodyPost_ret (results_ct rfl _ _ gb289 23 #[.int .i64 0, .int .i64 0] (0, 0) _ rfl (zP BK289) Try.underlying23 rfl (by kernel_rfl)) rfl ?_
  exact ⟨by first | rfl | (simp [errW_none, errW_some] <;> rfl) | (simp [*, errW_none, errW_some] <;> rfl), zB2 HB GE288 GE289⟩

end Go.Proofs.Ytijpcemcijaeeaa.P

namespace Go.Proofs.Ytijpcemcijaeeaa.P
open Go.RowKit Go.Proofs.YtijpcemcijaeeaaW.PrintWords Go.Proofs.YtijpcemcijaeeaaW.PrintLast Go.Proofs.YtijpcemcijaeeaaW.PrintMore
attribute [local go_sem] max2_int min2_int max_two min_two max_three min_three max_four min_four   -- for this text's walks alone
set_option linter.unusedVariables false
set_option linter.unusedSimpArgs false

attribute [local go_sem] fld23_0 fld23_1
/-! ### impl_CubeValue: function 36 -/
def impl_CubeValue.f (a0_0 : Int) (a0_1 : Int) (a1 : Int) (a2 : Int) : Option (Int) := (impl_isCube.f a0_0 a0_1 a1 a2).bind fun t272 => (if t272 = true then ((impl_Table_cube.f a0_0 a0_1 a1 a2).bind fun t273 => (some t273)) else (some (-1)))
set_option maxHeartbeats 8000000 in
set_option maxRecDepth 100000 in
theorem impl_CubeValue.calls (a0_0 : Int) (a0_1 : Int) (a1 : Int) (a2 : Int) (r : Int) (w : World) (h : impl_CubeValue.f a0_0 a0_1 a1 a2 = some r) :
  Calls Try.prog 36 #[.agg #[.int .i64 a0_0, .int .i64 a0_1], .int .i64 a1, .int .i64 a2] w fun e w' => e = .returned (.int .i64 r) ∧ Below w.heap.size w w' := by
 have hu23 := Try.underlying23
 have HB := zA (Below.refl w.heap.size w)
 have H := h
 unfold impl_CubeValue.f at H
 clear h
 replace H := Option.bind_eq_some_iff.mp H
 obtain ⟨t272, A40, H⟩ := H
 replace H : (if t272 = true then ((impl_Table_cube.f a0_0 a0_1 a1 a2).bind fun t273 => (some t273)) else (some (-1))) = some r := H
 have A4 := zA A40
 clear A40
 by_cases c5 : t272 = true
 ·subst c5
  have H1 : ((impl_Table_cube.f a0_0 a0_1 a1 a2).bind fun t273 => (some t273)) = some r := by rw [if_pos rfl] at H; exact H
  clear H
  have H := H1
  clear H1
  replace H := Option.bind_eq_some_iff.mp H
  obtain ⟨t273, A60, H⟩ := H
  replace H : (some t273) = some r := H
  have A6 := zA A60
  clear A60
  obtain rfl := Option.some.inj H
  go_enter Try.func36, Try.ntmps36
  go_wp2_with (first | ((with_reducible refine gate_dst (N := 3) rfl ?_); refine box_event ?hg (N := 3) ?hd (cs := #[.int .i64 a0_0, .int .i64 a0_1]) (t := 23) ?hr ?_; (case hd => rfl); (case hg => rfl); (case hr => exact zH); intro gb271 hg w7 hbox hb; have BK271 := zA (hbox); have GW271 := zg HB hg; have GE271 := zg HB hg; replace HB := zA (below_step (zB HB) hb); clear hb hbox hg; have hcz8_0 := zc0 BK271; have hcz8_1 := zc1 BK271; have hfz8_0 := blk_frozen BK271.out 0; have hfz8_1 := blk_frozen BK271.out 1) | ((with_reducible refine gate_callee (f := 98) rfl ?_); refine goesL_ (some 10) rfl rfl Try.func98 (by kernel_rfl) rfl #[.agg #[.int .i64 a0_0, .int .i64 a0_1], .int .i64 a1, .int .i64 a2] rfl zM ?_; (with_reducible refine (impl_isCube.calls a0_0 a0_1 a1 a2 true _ A4.out).mono ?_); rintro e w9 ⟨rfl, hb⟩; refine ⟨_, rfl, ?_⟩; replace BK271 := zb BK271 hb; replace HB := zA (below_step (zB1 HB GE271) hb); (try clear hb); (try clear hb2); (try clear hk); (try clear hi); have hcz10_0 := zc0 BK271; have hcz10_1 := zc1 BK271; have hfz10_0 := blk_frozen BK271.out 0; have hfz10_1 := blk_frozen BK271.out 1) | ((with_reducible refine gate_callee (f := 99) rfl ?_); refine goesL_ (some 15) rfl rfl Try.func99 (by kernel_rfl) rfl #[.agg #[.int .i64 a0_0, .int .i64 a0_1], .int .i64 a1, .int .i64 a2] rfl zM ?_; (with_reducible refine (impl_Table_cube.calls a0_0 a0_1 a1 a2 t273 _ A6.out).mono ?_); rintro e w11 ⟨rfl, hb⟩; refine ⟨_, rfl, ?_⟩; replace BK271 := zb BK271 hb; replace HB := zA (below_step (zB1 HB GE271) hb); (try clear hb); (try clear hb2); (try clear hk); (try clear hi)))
  go_ret
  exact ⟨by first | rfl | (simp [errW_none, errW_some] <;> rfl) | (simp [*, errW_none, errW_some] <;> rfl), zB1 HB GE271⟩
 ·replace c5 := Bool.eq_false_iff.mpr c5
  subst c5
  have H1 : (some (-1)) = some r := by rw [if_neg (show ¬ (false = true) by decide)] at H; exact H
  clear H
  have H := H1
  clear H1
  obtain rfl := Option.some.inj H
  go_enter Try.func36, Try.ntmps36
  go_wp2_with (first | ((with_reducible refine gate_dst (N := 3) rfl ?_); refine box_event ?hg (N := 3) ?hd (cs := #[.int .i64 a0_0, .int .i64 a0_1]) (t := 23) ?hr ?_; (case hd => rfl); (case hg => rfl); (case hr => exact zH); intro gb271 hg w12 hbox hb; have BK271 := zA (hbox); have GW271 := zg HB hg; have GE271 := zg HB hg; replace HB := zA (below_step (zB HB) hb); clear hb hbox hg; have hcz13_0 := zc0 BK271; have hcz13_1 := zc1 BK271; have hfz13_0 := blk_frozen BK271.out 0; have hfz13_1 := blk_frozen BK271.out 1) | ((with_reducible refine gate_callee (f := 98) rfl ?_); refine goesL_ (some 10) rfl rfl Try.func98 (by kernel_rfl) rfl #[.agg #[.int .i64 a0_0, .int .i64 a0_1], .int .i64 a1, .int .i64 a2] rfl zM ?_; (with_reducible refine (impl_isCube.calls a0_0 a0_1 a1 a2 false _ A4.out).mono ?_); rintro e w14 ⟨rfl, hb⟩; refine ⟨_, rfl, ?_⟩; replace BK271 := zb BK271 hb; replace HB := zA (below_step (zB1 HB GE271) hb); (try clear hb); (try clear hb2); (try clear hk); (try clear hi)))
  go_ret
  exact ⟨by first | rfl | (simp [errW_none, errW_some] <;> rfl) | (simp [*, errW_none, errW_some] <;> rfl), zB1 HB GE271⟩

end Go.Proofs.Ytijpcemcijaeeaa.P

namespace Go.Proofs.Ytijpcemcijaeeaa.P
open Go.RowKit Go.Proofs.YtijpcemcijaeeaaW.PrintWords Go.Proofs.YtijpcemcijaeeaaW.PrintLast Go.Proofs.YtijpcemcijaeeaaW.PrintMore
attribute [local go_sem] max2_int min2_int max_two min_two max_three min_three max_four min_four   -- for this text's walks alone
set_option linter.unusedVariables false
set_option linter.unusedSimpArgs false

attribute [local go_sem] fld23_0 fld23_1
/-! ### spec_PermuteTable: function 46 -/
def spec_PermuteTable.f (k : Nat) (a0_0 : Int) (a0_1 : Int) (l1 : List Int) : Option (Int × Int × Bool) := (spec_IsTable.f a0_0 a0_1).bind fun t384 => (if t384 = true then ((spec_l3Perm.f k l1 a0_0).bind fun t385 => (if t385 = true then ((spec_l3Permute.f k a0_0 a0_1 l1).bind fun bt386 => (some (bt386.1, bt386.2, true))) else (some (0, 0, false)))) else (some (0, 0, false)))
theorem spec_PermuteTable.mono : ∀ a0 a1 a2 k, LeO (spec_PermuteTable.f k a0 a1 a2) (spec_PermuteTable.f (k + 1) a0 a1 a2) := by
 intro a0 a1 a2 k
 unfold spec_PermuteTable.f
 repeat' first
   | (with_reducible exact spec_l3Perm.mono _ _ _)
   | (with_reducible exact spec_l3Permute.mono _ _ _ _)
   | (with_reducible exact LeO.refl _)
   | (with_reducible exact LeO.none _)
   | (with_reducible refine LeO.ite ?_ ?_)
   | (with_reducible refine LeO.bind ?_ (fun _ => ?_))
   | exact spec_l3Perm.mono _ _ _
   | exact spec_l3Permute.mono _ _ _ _
   | exact LeO.none _
   | refine LeO.ite ?_ ?_
   | refine LeO.bind ?_ (fun _ => ?_)
set_option maxHeartbeats 8000000 in
set_option maxRecDepth 100000 in
theorem spec_PermuteTable.calls (k : Nat) (a0_0 : Int) (a0_1 : Int) (A1 : Option Addr) (c1 : Nat) (l1 : List Int) (r1 : Int) (r2 : Int) (r3 : Bool) (w : World) (hr1 : Kd.C (Kd.int .i64) w A1 l1.length l1) (hc1 : l1.length ≤ c1) (h : spec_PermuteTable.f k a0_0 a0_1 l1 = some (r1, r2, r3)) :
  Calls Try.prog 46 #[.agg #[.int .i64 a0_0, .int .i64 a0_1], .slice A1 l1.length c1] w fun e w' => e = .returned (.tuple #[.agg #[.int .i64 r1, .int .i64 r2], .bool r3]) ∧ Below w.heap.size w w' := by
 have hu23 := Try.underlying23
 have HR1 := zA hr1
 have HC1 := zA hc1
 clear hr1 hc1
 have HB := zA (Below.refl w.heap.size w)
 have H := h
 unfold spec_PermuteTable.f at H
 clear h
 replace H := Option.bind_eq_some_iff.mp H
 obtain ⟨t384, A30, H⟩ := H
 replace H : (if t384 = true then ((spec_l3Perm.f k l1 a0_0).bind fun t385 => (if t385 = true then ((spec_l3Permute.f k a0_0 a0_1 l1).bind fun bt386 => (some (bt386.1, bt386.2, true))) else (some (0, 0, false)))) else (some (0, 0, false))) = some (r1, r2, r3) := H
 have A3 := zA A30
 clear A30
 by_cases c4 : t384 = true
 ·subst c4
  have H1 : ((spec_l3Perm.f k l1 a0_0).bind fun t385 => (if t385 = true then ((spec_l3Permute.f k a0_0 a0_1 l1).bind fun bt386 => (some (bt386.1, bt386.2, true))) else (some (0, 0, false)))) = some (r1, r2, r3) := by rw [if_pos rfl] at H; exact H
  clear H
  have H := H1
  clear H1
  replace H := Option.bind_eq_some_iff.mp H
  obtain ⟨t385, A50, H⟩ := H
  replace H : (if t385 = true then ((spec_l3Permute.f k a0_0 a0_1 l1).bind fun bt386 => (some (bt386.1, bt386.2, true))) else (some (0, 0, false))) = some (r1, r2, r3) := H
  have A5 := zA A50
  clear A50
  by_cases c6 : t385 = true
  ·subst c6
   have H1 : ((spec_l3Permute.f k a0_0 a0_1 l1).bind fun bt386 => (some (bt386.1, bt386.2, true))) = some (r1, r2, r3) := by rw [if_pos rfl] at H; exact H
   clear H
   have H := H1
   clear H1
   replace H := Option.bind_eq_some_iff.mp H
   obtain ⟨⟨t386, t387⟩, A70, H⟩ := H
   replace H : (some (t386, t387, true)) = some (r1, r2, r3) := H
   have A7 := zA A70
   clear A70
   simp only [Option.some.injEq, Prod.mk.injEq] at H
   obtain ⟨rfl, rfl, rfl⟩ := H
   go_enter Try.func46, Try.ntmps46
   go_wp2_with (first | ((with_reducible refine gate_dst (N := 2) rfl ?_); refine box_event ?hg (N := 2) ?hd (cs := #[.int .i64 a0_0, .int .i64 a0_1]) (t := 23) ?hr ?_; (case hd => rfl); (case hg => rfl); (case hr => exact zH); intro gb382 hg w8 hbox hb; have BK382 := zA (hbox); have GW382 := zg HB hg; have GE382 := zg HB hg; replace HB := zA (below_step (zB HB) hb); clear hb hbox hg) | ((with_reducible refine gate_dst (N := 4) rfl ?_); refine box_event ?hg (N := 4) ?hd (cs := #[.int .i64 0, .int .i64 0]) (t := 23) ?hr ?_; (case hd => rfl); (case hg => rfl); (case hr => exact zH); intro gb383 hg w9 hbox hb; have BK383 := zA (hbox); have GW383 := zg1 HB GE382 hg; have GE383 := zg1 HB GE382 hg; have NB382_383 := zn BK382 hg; have NB383_382 := zo BK382 hg; replace BK382 := zb BK382 hb; replace HB := zA (below_step (zB1 HB GE382) hb); clear hb hbox hg; have hnb10 := NB382_383.out; have hnc10 := NB383_382.out; have hcz11_0 := zc0 BK382; have hcz11_1 := zc1 BK382; have hfz11_0 := blk_frozen BK382.out 0; have hfz11_1 := blk_frozen BK382.out 1) | ((with_reducible refine gate_callee (f := 78) rfl ?_); refine goesL_ (some 7) rfl rfl Try.func78 (by kernel_rfl) rfl #[.agg #[.int .i64 a0_0, .int .i64 a0_1]] rfl zM ?_; (with_reducible refine (spec_IsTable.calls a0_0 a0_1 true _ A3.out).mono ?_); rintro e w12 ⟨rfl, hb⟩; refine ⟨_, rfl, ?_⟩; replace BK382 := zb BK382 hb; replace BK383 := zb BK383 hb; replace HB := zA (below_step (zB2 HB GE382 GE383) hb); (try clear hb); (try clear hb2); (try clear hk); (try clear hi); have hcz13_0 := zc0 BK382; have hcz13_1 := zc1 BK382; have hfz13_0 := blk_frozen BK382.out 0; have hfz13_1 := blk_frozen BK382.out 1) | (go_at_call 103; (with_reducible refine (spec_l3Perm.calls k _ _ l1 a0_0 true _ ?side1 ?side2 A5.out).mono ?_); (case side1 => repeat (first | exact (Kd.C_below HR1.out HB.out) | (with_reducible refine Kd.C_alloc ?_ _) | (with_reducible refine Kd.C_drewN ?_ _) | (with_reducible refine Kd.C_drew ?_))); (case side2 => exact HC1.out); rintro e w' ⟨rfl, ⟨nd, rfl⟩⟩; (try (rw [drewN_self w12]; generalize hq_ : World.drewN w12 _ = w12; have n0_ : Aside0 (w12.heap[gb382]? = some (.cells #[.int .i64 a0_0, .int .i64 a0_1] 23 (0, 0))) := ⟨by rw [← hq_]; exact (zD BK382)⟩; have n1_ : Aside0 (w12.heap[gb383]? = some (.cells #[.int .i64 0, .int .i64 0] 23 (0, 0))) := ⟨by rw [← hq_]; exact (zD BK383)⟩; have n2_ : Aside0 (Below w.heap.size w w12) := ⟨by rw [← hq_]; exact (zB2 HB GE382 GE383)⟩; clear BK382 BK383 HB hq_; have BK382 := n0_; have BK383 := n1_; have HB := n2_; clear n0_ n1_ n2_)); (try (have hcz13_0 := zc0 BK382; have hfz13_0 := blk_frozen BK382.out 0; have hcz13_1 := zc1 BK382; have hfz13_1 := blk_frozen BK382.out 1))) | ((with_reducible refine gate_callee (f := 104) rfl ?_); refine goesL_ (some 19) rfl rfl Try.func104 (by kernel_rfl) rfl #[.agg #[.int .i64 a0_0, .int .i64 a0_1], .slice A1 l1.length c1] rfl zM ?_; (with_reducible refine (spec_l3Permute.calls k a0_0 a0_1 _ _ l1 t386 t387 _ ?side1 ?side2 A7.out).mono ?_); (case side1 => repeat (first | exact (Kd.C_below HR1.out HB.out) | (with_reducible refine Kd.C_alloc ?_ _) | (with_reducible refine Kd.C_drewN ?_ _) | (with_reducible refine Kd.C_drew ?_))); (case side2 => exact HC1.out); rintro e w14 ⟨rfl, hb⟩; refine ⟨_, rfl, ?_⟩; replace BK382 := zb BK382 hb; replace BK383 := zb BK383 hb; replace HB := zA (below_step (zB2 HB GE382 GE383) hb); (try clear hb); (try clear hb2); (try clear hk); (try clear hi); have hcz15_0 := zc0 BK383; have hcz15_1 := zc1 BK383; have hfz15_0 := blk_frozen BK383.out 0; have hfz15_1 := blk_frozen BK383.out 1))
   refine bodyPost_ret (results_ct rfl _ _ gb383 23 #[.int .i64 t386, .int .i64 t387] (0, 0) _ rfl (zP BK383) Try.underlying23 rfl (by kernel_rfl)) rfl ?_
   exact ⟨by first | rfl | (simp [errW_none, errW_some] <;> rfl) | (simp [*, errW_none, errW_some] <;> rfl), zB2 HB GE382 GE383⟩
  ·replace c6 := Bool.eq_false_iff.mpr c6
   subst c6
   have H1 : (some (0, 0, false)) = some (r1, r2, r3) := by rw [if_neg (show ¬ (false = true) by decide)] at H; exact H
   clear H
   have H := H1
   clear H1
   simp only [Option.some.injEq, Prod.mk.injEq] at H
   obtain ⟨rfl, rfl, rfl⟩ := H
   go_enter Try.func46, Try.ntmps46
   go_wp2_with (first | ((with_reducible refine gate_dst (N := 2) rfl ?_); refine box_event ?hg (N := 2) ?hd (cs := #[.int .i64 a0_0, .int .i64 a0_1]) (t := 23) ?hr ?_; (case hd => rfl); (case hg => rfl); (case hr => exact zH); intro gb382 hg w16 hbox hb; have BK382 := zA (hbox); have GW382 := zg HB hg; have GE382 := zg HB hg; replace HB := zA (below_step (zB HB) hb); clear hb hbox hg) | ((with_reducible refine gate_dst (N := 4) rfl ?_); refine box_event ?hg (N := 4) ?hd (cs := #[.int .i64 0, .int .i64 0]) (t := 23) ?hr ?_; (case hd => rfl); (case hg => rfl); (case hr => exact zH); intro gb383 hg w17 hbox hb; have BK383 := zA (hbox); have GW383 := zg1 HB GE382 hg; have GE383 := zg1 HB GE382 hg; have NB382_383 := zn BK382 hg; have NB383_382 := zo BK382 hg; replace BK382 := zb BK382 hb; replace HB := zA (below_step (zB1 HB GE382) hb); clear hb hbox hg; have hnb18 := NB382_383.out; have hnc18 := NB383_382.out; have hcz19_0 := zc0 BK382; have hcz19_1 := zc1 BK382; have hfz19_0 := blk_frozen BK382.out 0; have hfz19_1 := blk_frozen BK382.out 1) | ((with_reducible refine gate_callee (f := 78) rfl ?_); refine goesL_ (some 7) rfl rfl Try.func78 (by kernel_rfl) rfl #[.agg #[.int .i64 a0_0, .int .i64 a0_1]] rfl zM ?_; (with_reducible refine (spec_IsTable.calls a0_0 a0_1 true _ A3.out).mono ?_); rintro e w20 ⟨rfl, hb⟩; refine ⟨_, rfl, ?_⟩; replace BK382 := zb BK382 hb; replace BK383 := zb BK383 hb; replace HB := zA (below_step (zB2 HB GE382 GE383) hb); (try clear hb); (try clear hb2); (try clear hk); (try clear hi); have hcz21_0 := zc0 BK382; have hcz21_1 := zc1 BK382; have hfz21_0 := blk_frozen BK382.out 0; have hfz21_1 := blk_frozen BK382.out 1) | (go_at_call 103; (with_reducible refine (spec_l3Perm.calls k _ _ l1 a0_0 false _ ?side1 ?side2 A5.out).mono ?_); (case side1 => repeat (first | exact (Kd.C_below HR1.out HB.out) | (with_reducible refine Kd.C_alloc ?_ _) | (with_reducible refine Kd.C_drewN ?_ _) | (with_reducible refine Kd.C_drew ?_))); (case side2 => exact HC1.out); rintro e w' ⟨rfl, ⟨nd, rfl⟩⟩; (try (rw [drewN_self w20]; generalize hq_ : World.drewN w20 _ = w20; have n0_ : Aside0 (w20.heap[gb382]? = some (.cells #[.int .i64 a0_0, .int .i64 a0_1] 23 (0, 0))) := ⟨by rw [← hq_]; exact (zD BK382)⟩; have n1_ : Aside0 (w20.heap[gb383]? = some (.cells #[.int .i64 0, .int .i64 0] 23 (0, 0))) := ⟨by rw [← hq_]; exact (zD BK383)⟩; have n2_ : Aside0 (Below w.heap.size w w20) := ⟨by rw [← hq_]; exact (zB2 HB GE382 GE383)⟩; clear BK382 BK383 HB hq_; have BK382 := n0_; have BK383 := n1_; have HB := n2_; clear n0_ n1_ n2_)); (try (have hcz21_0 := zc0 BK382; have hfz21_0 := blk_frozen BK382.out 0; have hcz21_1 := zc1 BK382; have hfz21_1 := blk_frozen BK382.out 1)); have hcz22_0 := zc0 BK383; have hcz22_1 := zc1 BK383; have hfz22_0 := blk_frozen BK383.out 0; have hfz22_1 := blk_frozen BK383.out 1))
   refine bodyPost_ret (results_ct rfl _ _ gb383 23 #[.int .i64 0, .int .i64 0] (0, 0) _ rfl (zP BK383) Try.underlying23 rfl (by kernel_rfl)) rfl ?_
   exact ⟨by first | rfl | (simp [errW_none, errW_some] <;> rfl) | (simp [*, errW_none, errW_some] <;> rfl), zB2 HB GE382 GE383⟩
 ·replace c4 := Bool.eq_false_iff.mpr c4
  subst c4
  have H1 : (some (0, 0, false)) = some (r1, r2, r3) := by rw [if_neg (show ¬ (false = true) by decide)] at H; exact H
  clear H
  have H := H1
  clear H1
  simp only [Option.some.injEq, Prod.mk.injEq] at H
  obtain ⟨rfl, rfl, rfl⟩ := H
  go_enter Try.func46, Try.ntmps46
  go_wp2_with (first | ((with_reducible refine gate_dst (N := 2) rfl ?_); refine box_event ?hg (N := 2) ?hd (cs := #[.int .i64 a0_0, .int .i64 a0_1]) (t := 23) ?hr ?_; (case hd => rfl); (case hg => rfl); (case hr => exact zH); intro gb382 hg w23 hbox hb; have BK382 := zA (hbox); have GW382 := zg HB hg; have GE382 := zg HB hg; replace HB := zA (below_step (zB HB) hb); clear hb hbox hg) | ((with_reducible refine gate_dst (N := 4) rfl ?_); refine box_event ?hg (N := 4) ?hd (cs := #[.int .i64 0, .int .i64 0]) (t := 23) ?hr ?_; (case hd => rfl); (case hg => rfl); (case hr => exact zH); intro gb383 hg w24 hbox hb; have BK383 := zA (hbox); have GW383 := zg1 HB GE382 hg; have GE383 := zg1 HB GE382 hg; have NB382_383 := zn BK382 hg; have NB383_382 := zo BK382 hg; replace BK382 := zb BK382 hb; replace HB := zA (below_step (zB1 HB GE382) hb); clear hb hbox hg; have hnb25 := NB382_383.out; have hnc25 := NB383_382.out; have hcz26_0 := zc0 BK382; have hcz26_1 := zc1 BK382; have hfz26_0 := blk_frozen BK382.out 0; have hfz26_1 := blk_frozen BK382.out 1) | ((with_reducible refine gate_callee (f := 78) rfl ?_); refine goesL_ (some 7) rfl rfl Try.func78 (by kernel_rfl) rfl #[.agg #[.int .i64 a0_0, .int .i64 a0_1]] rfl zM ?_; (with_reducible refine (spec_IsTable.calls a0_0 a0_1 false _ A3.out).mono ?_); rintro e w27 ⟨rfl, hb⟩; refine ⟨_, rfl, ?_⟩; replace BK382 := zb BK382 hb; replace BK383 := zb BK383 hb; replace HB := zA (below_step (zB2 HB GE382 GE383) hb); (try clear hb); (try clear hb2); (try clear hk); (try clear hi); have hcz28_0 := zc0 BK383; have hcz28_1 := zc1 BK383; have hfz28_0 := blk_frozen BK383.out 0; have hfz28_1 := blk_frozen BK383.out 1))
  refine bodyPost_ret (results_ct rfl _ _ gb383 23 #[.int .i64 0, .int .i64 0] (0, 0) _ rfl (zP BK383) Try.underlying23 rfl (by kernel_rfl)) rfl ?_
  exact ⟨by first | rfl | (simp [errW_none, errW_some] <;> rfl) | (simp [*, errW_none, errW_some] <;> rfl), zB2 HB GE382 GE383⟩

end Go.Proofs.Ytijpcemcijaeeaa.P
